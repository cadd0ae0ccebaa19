/- Parts of the proof. -/
import Derived.Test.YtbojljpldcijgaaGreatDoorH01
import Derived.Test.YtbojljpldcijgaaGreatDoorH25
import Derived.Lib.ItoaLen
namespace Hb
open Go Go.RowKit
theorem bl_growR (w:World) (n:Nat) (os:Array Obj):Below w.heap.size w (Sort.grow (w.drewN n) os) :=
 ⟨rfl,rfl,rfl,by show w.heap.size≤(w.heap++os).size;simp,fun k hk=>by show (w.heap++os)[k]? = _;rw [Array.getElem?_append_left hk]⟩
theorem st_a {S:ByteArray} {l:List UInt8} (h:S=⟨l.toArray⟩) (hl:l.length≤101):((S++⟨#[46]⟩):ByteArray).size≤maxLen∧((S++⟨#[46]⟩):ByteArray).data.toList=l++[46]:=by
 subst h
 refine ⟨?_,by simp⟩
 have e:(⟨l.toArray⟩:ByteArray).size=l.length:=rfl
 simp only [ByteArray.size_append,e]
 simp [ByteArray.size,maxLen]
 omega
theorem st_b {S:ByteArray} {l:List UInt8} (h:S=⟨l.toArray⟩) (hl:l.length≤101):(((⟨#[102,40]⟩++S)++⟨#[41,46]⟩):ByteArray).size≤maxLen∧(((⟨#[102,40]⟩++S)++⟨#[41,46]⟩):ByteArray).data.toList=102::40::(l++[41,46]):=by
 subst h
 refine ⟨?_,by simp⟩
 have e:(⟨l.toArray⟩:ByteArray).size=l.length:=rfl
 simp only [ByteArray.size_append,e]
 simp [ByteArray.size,maxLen]
 omega
theorem st_c {S:ByteArray} {l:List UInt8} (h:S=⟨l.toArray⟩) (hl:l.length≤101):(((((⟨#[91]⟩++S)++⟨#[32,124,32]⟩)++S)++⟨#[93,46]⟩):ByteArray).size≤maxLen∧(((((⟨#[91]⟩++S)++⟨#[32,124,32]⟩)++S)++⟨#[93,46]⟩):ByteArray).data.toList=91::(l++(32::124::32::(l++[93,46]))):=by
 subst h
 refine ⟨?_,by simp⟩
 have e:(⟨l.toArray⟩:ByteArray).size=l.length:=rfl
 simp only [ByteArray.size_append,e]
 simp [ByteArray.size,maxLen]
 omega
theorem st_d {S:ByteArray} {l:List UInt8} (h:S=⟨l.toArray⟩) (hl:l.length≤101):(((⟨#[45,32]⟩++S)++⟨#[46]⟩):ByteArray).size≤maxLen∧(((⟨#[45,32]⟩++S)++⟨#[46]⟩):ByteArray).data.toList=45::32::(l++[46]):=by
 subst h
 refine ⟨?_,by simp⟩
 have e:(⟨l.toArray⟩:ByteArray).size=l.length:=rfl
 simp only [ByteArray.size_append,e]
 simp [ByteArray.size,maxLen]
 omega
theorem st_e {S:ByteArray} {l:List UInt8} (h:S=⟨l.toArray⟩) (hl:l.length≤101):(((⟨#[49,32,45]⟩++S)++⟨#[46]⟩):ByteArray).size≤maxLen∧(((⟨#[49,32,45]⟩++S)++⟨#[46]⟩):ByteArray).data.toList=49::32::45::(l++[46]):=by
 subst h
 refine ⟨?_,by simp⟩
 have e:(⟨l.toArray⟩:ByteArray).size=l.length:=rfl
 simp only [ByteArray.size_append,e]
 simp [ByteArray.size,maxLen]
 omega
theorem st_f {S:ByteArray} {l:List UInt8} (h:S=⟨l.toArray⟩) (hl:l.length≤101):(((⟨#[49,32]⟩++S)++⟨#[46]⟩):ByteArray).size≤maxLen∧(((⟨#[49,32]⟩++S)++⟨#[46]⟩):ByteArray).data.toList=49::32::(l++[46]):=by
 subst h
 refine ⟨?_,by simp⟩
 have e:(⟨l.toArray⟩:ByteArray).size=l.length:=rfl
 simp only [ByteArray.size_append,e]
 simp [ByteArray.size,maxLen]
 omega
theorem wfI64 {n:Int} (h:(Lit.int .i64 n).wf=true):-9223372036854775808≤n∧n≤9223372036854775807:=by
 unfold Lit.wf at h;rw [Bool.and_eq_true,decide_eq_true_iff,decide_eq_true_iff] at h;exact h
end Hb
namespace Go.Proofs.YtbojljpldcijgaaGreatDoor
open Go.RowKit Hb Go.Shelf
set_option maxRecDepth 100000
set_option linter.unusedSimpArgs false
attribute [local go_sem] Oper.semAt_some
set_option maxHeartbeats 6400000 in
theorem law_integers (k:Int) (hk:-9223372036854775808≤k∧k≤9223372036854775807) (w:World) (hD:DoorOk w):Calls Tryz.prog 3 #[.int .i64 k] w fun e w'=>e=.returned (.bool true)∧Below w.heap.size w w':=by
 obtain ⟨l,HL⟩:=lz (Lib.itoa k)
 obtain ⟨S,HS⟩:=lz (α:=ByteArray) (⟨l.toArray⟩)
 have hln:l.length≤101:=by rw [HL.out];exact itoa_len k hk.1 hk.2
 have hsz:S.size≤101:=by rw [HS.out];exact hln
 have HF:Hid (∀W,Below w.heap.size w W→Calls Tryz.prog 4 #[.int .i64 k,.int .i64 10] W fun e w'=>e=.returned (.string S)∧Below W.heap.size W w'):=zq fun W hW=>by
  rw [HS.out,HL.out]
  exact (Tryz.strconv_FormatInt_10 k hk.1 hk.2 W (hD.below hW).pow).mono fun _ _ ⟨he,k,os,hw⟩=>⟨he,by rw [hw];exact bl_growR W k os⟩
 have HTa:Hid (((S++⟨#[46]⟩):ByteArray).size≤maxLen∧givesR ((S++⟨#[46]⟩):ByteArray).data.toList (intT (k))=true):=zq ⟨(st_a HS.out hln).1,by rw [(st_a HS.out hln).2,HL.out];exact gv_a k hk.1 hk.2⟩
 have HTb:Hid ((((⟨#[102,40]⟩++S)++⟨#[41,46]⟩):ByteArray).size≤maxLen∧givesR (((⟨#[102,40]⟩++S)++⟨#[41,46]⟩):ByteArray).data.toList (strT ⟨#[102]⟩ [(intT (k))])=true):=zq ⟨(st_b HS.out hln).1,by rw [(st_b HS.out hln).2,HL.out];exact gv_b k hk.1 hk.2⟩
 have HTc:Hid ((((((⟨#[91]⟩++S)++⟨#[32,124,32]⟩)++S)++⟨#[93,46]⟩):ByteArray).size≤maxLen∧givesR (((((⟨#[91]⟩++S)++⟨#[32,124,32]⟩)++S)++⟨#[93,46]⟩):ByteArray).data.toList (strT ⟨#[46]⟩ [(intT (k)),(intT (k))])=true):=zq ⟨(st_c HS.out hln).1,by rw [(st_c HS.out hln).2,HL.out];exact gv_c k hk.1 hk.2⟩
 have HTd:Hid ((((⟨#[45,32]⟩++S)++⟨#[46]⟩):ByteArray).size≤maxLen∧givesR (((⟨#[45,32]⟩++S)++⟨#[46]⟩):ByteArray).data.toList (strT ⟨#[45]⟩ [(intT (k))])=true):=zq ⟨(st_d HS.out hln).1,by rw [(st_d HS.out hln).2,HL.out];exact gv_d k hk.1 hk.2⟩
 have HAW:=zq (fun W=>l_awake W)
 have HLN:=zq (fun n W=>l_n n W)
 have HLF:=zq (fun s A n c W=>l_f s A n c W)
 have HB0:=zq (Below.refl w.heap.size w)
 have HK:=zq hk
 clear hk hD
 go_enter Tryz.func3,Tryz.ntmps3
 go_wp2_with fail
 refine (HF.out _ HB0.out).mono ?_;rintro e w1 ⟨rfl,hB⟩
 have HB1:=bz HB0 hB
 clear hB HB0 HF
 go_wp2_with fail
 refine (HLN.out (k) _).mono ?_;rintro e w21 ⟨rfl,hB⟩
 have HB_22:=bz HB1 hB
 clear hB HB1
 go_wp2_with fail
 have HG23:Hid (Calls Tryz.prog 5 #[.string (S++⟨#[46]⟩),.agg #[.int .i64 1,.int .i64 (k),.string ⟨#[]⟩,.slice none 0 0]] w21 fun e w'=>e=.returned (.bool true)∧Below w21.heap.size w21 w'):=zq (by
  have h:=l_gives (S++⟨#[46]⟩) (intT (k)) none 0 w21 HTa.out.1 TmsK.nil
  rw [HTa.out.2] at h
  exact h)
 refine HG23.out.mono ?_;rintro e w23 ⟨rfl,hB⟩
 clear HG23
 have HB_24:=bz HB_22 hB
 clear hB HB_22
 go_wp2_with fail
 refine (HLN.out (k) _).mono ?_;rintro e w25 ⟨rfl,hB⟩
 have HB_26:=bz HB_24 hB
 clear hB HB_24
 obtain ⟨y27,HY27⟩:=lz (w25.alloc (.cells #[.int .i64 1,.int .i64 (k),.string ⟨#[]⟩,.slice none 0 0] 26))
 have hB:Below w25.heap.size w25 y27:=by rw [HY27.out];exact (Below.refl _ _).alloc (Nat.le_refl _) _
 have HRN18:Hid (TmsAt y27.heap.size y27 (some ⟨w25.heap.size,0,none⟩) [(intT (k))]):=zq (by
  rw [HY27.out]
  exact row_new w25 [((intT (k)),none,0)] 26 (by simp [maxLen]) (fun r hr=>by
   simp only [List.mem_cons,List.mem_nil_iff,or_false] at hr
   rcases hr with rfl
   ·exact TmsK.nil))
 have HB_28:=bz HB_26 hB
 clear hB HB_26
 go_wp2_with fail
 rw [←HY27.out]
 clear HY27
 refine (HLF.out ⟨#[102]⟩ _ _ _ _).mono ?_;rintro e w29 ⟨rfl,hB⟩
 have HB_30:=bz HB_28 hB
 have HR18_30:=zq ((HRN18.out.keep hB).mono hB.size)
 clear hB HB_28 HRN18
 go_wp2_with fail
 have HG31:Hid (Calls Tryz.prog 5 #[.string ((⟨#[102,40]⟩++S)++⟨#[41,46]⟩),.agg #[.int .i64 3,.int .i64 0,.string ⟨#[102]⟩,.slice (some ⟨w25.heap.size,0,none⟩) 1 1]] w29 fun e w'=>e=.returned (.bool true)∧Below w29.heap.size w29 w'):=zq (by
  have h:=l_gives ((⟨#[102,40]⟩++S)++⟨#[41,46]⟩) (strT ⟨#[102]⟩ [(intT (k))]) (some ⟨w25.heap.size,0,none⟩) 1 w29 HTb.out.1 HR18_30.out
  rw [HTb.out.2] at h
  exact h)
 refine HG31.out.mono ?_;rintro e w31 ⟨rfl,hB⟩
 clear HG31
 have HB_32:=bz HB_30 hB
 clear hB HB_30 HR18_30
 go_wp2_with fail
 refine (HLN.out (k) _).mono ?_;rintro e w33 ⟨rfl,hB⟩
 have HB_34:=bz HB_32 hB
 clear hB HB_32
 go_wp2_with fail
 refine (HLN.out (k) _).mono ?_;rintro e w35 ⟨rfl,hB⟩
 have HB_36:=bz HB_34 hB
 clear hB HB_34
 obtain ⟨y37,HY37⟩:=lz (w35.alloc (.cells #[.int .i64 1,.int .i64 (k),.string ⟨#[]⟩,.slice none 0 0,.int .i64 1,.int .i64 (k),.string ⟨#[]⟩,.slice none 0 0] 26))
 have hB:Below w35.heap.size w35 y37:=by rw [HY37.out];exact (Below.refl _ _).alloc (Nat.le_refl _) _
 have HRN34:Hid (TmsAt y37.heap.size y37 (some ⟨w35.heap.size,0,none⟩) [(intT (k)),(intT (k))]):=zq (by
  rw [HY37.out]
  exact row_new w35 [((intT (k)),none,0),((intT (k)),none,0)] 26 (by simp [maxLen]) (fun r hr=>by
   simp only [List.mem_cons,List.mem_nil_iff,or_false] at hr
   rcases hr with rfl|rfl
   ·exact TmsK.nil
   ·exact TmsK.nil))
 have HB_38:=bz HB_36 hB
 clear hB HB_36
 go_wp2_with fail
 rw [←HY37.out]
 clear HY37
 refine (HLF.out ⟨#[46]⟩ _ _ _ _).mono ?_;rintro e w39 ⟨rfl,hB⟩
 have HB_40:=bz HB_38 hB
 have HR34_40:=zq ((HRN34.out.keep hB).mono hB.size)
 clear hB HB_38 HRN34
 go_wp2_with fail
 have HG41:Hid (Calls Tryz.prog 5 #[.string ((((⟨#[91]⟩++S)++⟨#[32,124,32]⟩)++S)++⟨#[93,46]⟩),.agg #[.int .i64 3,.int .i64 0,.string ⟨#[46]⟩,.slice (some ⟨w35.heap.size,0,none⟩) 2 2]] w39 fun e w'=>e=.returned (.bool true)∧Below w39.heap.size w39 w'):=zq (by
  have h:=l_gives ((((⟨#[91]⟩++S)++⟨#[32,124,32]⟩)++S)++⟨#[93,46]⟩) (strT ⟨#[46]⟩ [(intT (k)),(intT (k))]) (some ⟨w35.heap.size,0,none⟩) 2 w39 HTc.out.1 HR34_40.out
  rw [HTc.out.2] at h
  exact h)
 refine HG41.out.mono ?_;rintro e w41 ⟨rfl,hB⟩
 clear HG41
 have HB_42:=bz HB_40 hB
 clear hB HB_40 HR34_40
 by_cases hn:k<0
 ·by_cases hm:k=-9223372036854775808
  ·obtain ⟨m,hmm⟩:∃m,m=wrap64 (-k):=⟨_,rfl⟩
   have hm2:m=-9223372036854775808:=by rw [hmm,hm];decide +kernel
   have hw:=hmm.symm
   have HTf:Hid ((((⟨#[49,32]⟩++S)++⟨#[46]⟩):ByteArray).size≤maxLen∧givesR (((⟨#[49,32]⟩++S)++⟨#[46]⟩):ByteArray).data.toList (strT ⟨#[45]⟩ [(intT (1)),(intT (m))])=false):=zq ⟨(st_f HS.out hln).1,by rw [(st_f HS.out hln).2,HL.out];exact by rw [hm2,hm];exact gv_g⟩
   have b1:(k != -9223372036854775808)=false:=by simp [hm]
   clear hm hm2 hmm HS HL HK hln
   go_wp2_with fail
   refine (HLN.out (k) _).mono ?_;rintro e w44 ⟨rfl,hB⟩
   have HB_45:=bz HB_42 hB
   clear hB HB_42
   obtain ⟨y46,HY46⟩:=lz (w44.alloc (.cells #[.int .i64 1,.int .i64 (k),.string ⟨#[]⟩,.slice none 0 0] 26))
   have hB:Below w44.heap.size w44 y46:=by rw [HY46.out];exact (Below.refl _ _).alloc (Nat.le_refl _) _
   have HRN46:Hid (TmsAt y46.heap.size y46 (some ⟨w44.heap.size,0,none⟩) [(intT (k))]):=zq (by
    rw [HY46.out]
    exact row_new w44 [((intT (k)),none,0)] 26 (by simp [maxLen]) (fun r hr=>by
     simp only [List.mem_cons,List.mem_nil_iff,or_false] at hr
     rcases hr with rfl
     ·exact TmsK.nil))
   have HB_47:=bz HB_45 hB
   clear hB HB_45
   go_wp2_with fail
   rw [←HY46.out]
   clear HY46
   refine (HLF.out ⟨#[45]⟩ _ _ _ _).mono ?_;rintro e w48 ⟨rfl,hB⟩
   have HB_49:=bz HB_47 hB
   have HR46_49:=zq ((HRN46.out.keep hB).mono hB.size)
   clear hB HB_47 HRN46
   go_wp2_with fail
   have HG50:Hid (Calls Tryz.prog 5 #[.string ((⟨#[45,32]⟩++S)++⟨#[46]⟩),.agg #[.int .i64 3,.int .i64 0,.string ⟨#[45]⟩,.slice (some ⟨w44.heap.size,0,none⟩) 1 1]] w48 fun e w'=>e=.returned (.bool true)∧Below w48.heap.size w48 w'):=zq (by
    have h:=l_gives ((⟨#[45,32]⟩++S)++⟨#[46]⟩) (strT ⟨#[45]⟩ [(intT (k))]) (some ⟨w44.heap.size,0,none⟩) 1 w48 HTd.out.1 HR46_49.out
    rw [HTd.out.2] at h
    exact h)
   refine HG50.out.mono ?_;rintro e w50 ⟨rfl,hB⟩
   clear HG50
   have HB_51:=bz HB_49 hB
   clear hB HB_49 HR46_49
   go_wp2_with fail
   refine (HLN.out (1) _).mono ?_;rintro e w52 ⟨rfl,hB⟩
   have HB_53:=bz HB_51 hB
   clear hB HB_51
   go_wp2_with fail
   refine (HLN.out (m) _).mono ?_;rintro e w54 ⟨rfl,hB⟩
   have HB_55:=bz HB_53 hB
   clear hB HB_53
   obtain ⟨y56,HY56⟩:=lz (w54.alloc (.cells #[.int .i64 1,.int .i64 1,.string ⟨#[]⟩,.slice none 0 0,.int .i64 1,.int .i64 (m),.string ⟨#[]⟩,.slice none 0 0] 26))
   have hB:Below w54.heap.size w54 y56:=by rw [HY56.out];exact (Below.refl _ _).alloc (Nat.le_refl _) _
   have HRN57:Hid (TmsAt y56.heap.size y56 (some ⟨w54.heap.size,0,none⟩) [(intT (1)),(intT (m))]):=zq (by
    rw [HY56.out]
    exact row_new w54 [((intT (1)),none,0),((intT (m)),none,0)] 26 (by simp [maxLen]) (fun r hr=>by
     simp only [List.mem_cons,List.mem_nil_iff,or_false] at hr
     rcases hr with rfl|rfl
     ·exact TmsK.nil
     ·exact TmsK.nil))
   have HB_57:=bz HB_55 hB
   clear hB HB_55
   go_wp2_with fail
   rw [←HY56.out]
   clear HY56
   refine (HLF.out ⟨#[45]⟩ _ _ _ _).mono ?_;rintro e w58 ⟨rfl,hB⟩
   have HB_59:=bz HB_57 hB
   have HR57_59:=zq ((HRN57.out.keep hB).mono hB.size)
   clear hB HB_57 HRN57
   go_wp2_with fail
   have HG60:Hid (Calls Tryz.prog 5 #[.string ((⟨#[49,32]⟩++S)++⟨#[46]⟩),.agg #[.int .i64 3,.int .i64 0,.string ⟨#[45]⟩,.slice (some ⟨w54.heap.size,0,none⟩) 2 2]] w58 fun e w'=>e=.returned (.bool false)∧Below w58.heap.size w58 w'):=zq (by
    have h:=l_gives ((⟨#[49,32]⟩++S)++⟨#[46]⟩) (strT ⟨#[45]⟩ [(intT (1)),(intT (m))]) (some ⟨w54.heap.size,0,none⟩) 2 w58 HTf.out.1 HR57_59.out
    rw [HTf.out.2] at h
    exact h)
   refine HG60.out.mono ?_;rintro e w60 ⟨rfl,hB⟩
   clear HG60
   have HB_61:=bz HB_59 hB
   clear hB HB_59 HR57_59
   go_wp2_with fail
   refine (HAW.out _).mono ?_;rintro e w62 ⟨rfl,hB⟩
   have HB_63:=bz HB_61 hB
   clear hB HB_61
   go_wp2_with fail
   go_ret
   exact ⟨rfl,HB_63.out⟩
  ·obtain ⟨m,hmm⟩:∃m,m=wrap64 (-k):=⟨_,rfl⟩
   have hm2:m=-k:=by rw [hmm];exact IntWalk.wrap64_in _ (by have:=HK.out;omega)
   have hw:=hmm.symm
   have HTf:Hid ((((⟨#[49,32]⟩++S)++⟨#[46]⟩):ByteArray).size≤maxLen∧givesR (((⟨#[49,32]⟩++S)++⟨#[46]⟩):ByteArray).data.toList (strT ⟨#[45]⟩ [(intT (1)),(intT (m))])=true):=zq ⟨(st_f HS.out hln).1,by rw [(st_f HS.out hln).2,HL.out];exact by rw [hm2];exact gv_f k HK.out.1 HK.out.2 hn hm⟩
   have b1:(k != -9223372036854775808)=true:=by simpa using hm
   clear hm hm2 hmm HS HL HK hln
   go_wp2_with fail
   refine (HLN.out (k) _).mono ?_;rintro e w44 ⟨rfl,hB⟩
   have HB_45:=bz HB_42 hB
   clear hB HB_42
   obtain ⟨y46,HY46⟩:=lz (w44.alloc (.cells #[.int .i64 1,.int .i64 (k),.string ⟨#[]⟩,.slice none 0 0] 26))
   have hB:Below w44.heap.size w44 y46:=by rw [HY46.out];exact (Below.refl _ _).alloc (Nat.le_refl _) _
   have HRN46:Hid (TmsAt y46.heap.size y46 (some ⟨w44.heap.size,0,none⟩) [(intT (k))]):=zq (by
    rw [HY46.out]
    exact row_new w44 [((intT (k)),none,0)] 26 (by simp [maxLen]) (fun r hr=>by
     simp only [List.mem_cons,List.mem_nil_iff,or_false] at hr
     rcases hr with rfl
     ·exact TmsK.nil))
   have HB_47:=bz HB_45 hB
   clear hB HB_45
   go_wp2_with fail
   rw [←HY46.out]
   clear HY46
   refine (HLF.out ⟨#[45]⟩ _ _ _ _).mono ?_;rintro e w48 ⟨rfl,hB⟩
   have HB_49:=bz HB_47 hB
   have HR46_49:=zq ((HRN46.out.keep hB).mono hB.size)
   clear hB HB_47 HRN46
   go_wp2_with fail
   have HG50:Hid (Calls Tryz.prog 5 #[.string ((⟨#[45,32]⟩++S)++⟨#[46]⟩),.agg #[.int .i64 3,.int .i64 0,.string ⟨#[45]⟩,.slice (some ⟨w44.heap.size,0,none⟩) 1 1]] w48 fun e w'=>e=.returned (.bool true)∧Below w48.heap.size w48 w'):=zq (by
    have h:=l_gives ((⟨#[45,32]⟩++S)++⟨#[46]⟩) (strT ⟨#[45]⟩ [(intT (k))]) (some ⟨w44.heap.size,0,none⟩) 1 w48 HTd.out.1 HR46_49.out
    rw [HTd.out.2] at h
    exact h)
   refine HG50.out.mono ?_;rintro e w50 ⟨rfl,hB⟩
   clear HG50
   have HB_51:=bz HB_49 hB
   clear hB HB_49 HR46_49
   go_wp2_with fail
   refine (HLN.out (1) _).mono ?_;rintro e w52 ⟨rfl,hB⟩
   have HB_53:=bz HB_51 hB
   clear hB HB_51
   go_wp2_with fail
   refine (HLN.out (m) _).mono ?_;rintro e w54 ⟨rfl,hB⟩
   have HB_55:=bz HB_53 hB
   clear hB HB_53
   obtain ⟨y56,HY56⟩:=lz (w54.alloc (.cells #[.int .i64 1,.int .i64 1,.string ⟨#[]⟩,.slice none 0 0,.int .i64 1,.int .i64 (m),.string ⟨#[]⟩,.slice none 0 0] 26))
   have hB:Below w54.heap.size w54 y56:=by rw [HY56.out];exact (Below.refl _ _).alloc (Nat.le_refl _) _
   have HRN57:Hid (TmsAt y56.heap.size y56 (some ⟨w54.heap.size,0,none⟩) [(intT (1)),(intT (m))]):=zq (by
    rw [HY56.out]
    exact row_new w54 [((intT (1)),none,0),((intT (m)),none,0)] 26 (by simp [maxLen]) (fun r hr=>by
     simp only [List.mem_cons,List.mem_nil_iff,or_false] at hr
     rcases hr with rfl|rfl
     ·exact TmsK.nil
     ·exact TmsK.nil))
   have HB_57:=bz HB_55 hB
   clear hB HB_55
   go_wp2_with fail
   rw [←HY56.out]
   clear HY56
   refine (HLF.out ⟨#[45]⟩ _ _ _ _).mono ?_;rintro e w58 ⟨rfl,hB⟩
   have HB_59:=bz HB_57 hB
   have HR57_59:=zq ((HRN57.out.keep hB).mono hB.size)
   clear hB HB_57 HRN57
   go_wp2_with fail
   have HG60:Hid (Calls Tryz.prog 5 #[.string ((⟨#[49,32]⟩++S)++⟨#[46]⟩),.agg #[.int .i64 3,.int .i64 0,.string ⟨#[45]⟩,.slice (some ⟨w54.heap.size,0,none⟩) 2 2]] w58 fun e w'=>e=.returned (.bool true)∧Below w58.heap.size w58 w'):=zq (by
    have h:=l_gives ((⟨#[49,32]⟩++S)++⟨#[46]⟩) (strT ⟨#[45]⟩ [(intT (1)),(intT (m))]) (some ⟨w54.heap.size,0,none⟩) 2 w58 HTf.out.1 HR57_59.out
    rw [HTf.out.2] at h
    exact h)
   refine HG60.out.mono ?_;rintro e w60 ⟨rfl,hB⟩
   clear HG60
   have HB_61:=bz HB_59 hB
   clear hB HB_59 HR57_59
   go_wp2_with fail
   refine (HAW.out _).mono ?_;rintro e w62 ⟨rfl,hB⟩
   have HB_63:=bz HB_61 hB
   clear hB HB_61
   go_wp2_with fail
   go_ret
   exact ⟨rfl,HB_63.out⟩
 ·skip
  have HTe:Hid ((((⟨#[49,32,45]⟩++S)++⟨#[46]⟩):ByteArray).size≤maxLen∧givesR (((⟨#[49,32,45]⟩++S)++⟨#[46]⟩):ByteArray).data.toList (strT ⟨#[45]⟩ [(intT (1)),(intT (k))])=true):=zq ⟨(st_e HS.out hln).1,by rw [(st_e HS.out hln).2,HL.out];exact gv_e k HK.out.1 HK.out.2 hn⟩
  clear HS HL HK hln
  go_wp2_with fail
  refine (HLN.out (k) _).mono ?_;rintro e w44 ⟨rfl,hB⟩
  have HB_45:=bz HB_42 hB
  clear hB HB_42
  obtain ⟨y46,HY46⟩:=lz (w44.alloc (.cells #[.int .i64 1,.int .i64 (k),.string ⟨#[]⟩,.slice none 0 0] 26))
  have hB:Below w44.heap.size w44 y46:=by rw [HY46.out];exact (Below.refl _ _).alloc (Nat.le_refl _) _
  have HRN72:Hid (TmsAt y46.heap.size y46 (some ⟨w44.heap.size,0,none⟩) [(intT (k))]):=zq (by
   rw [HY46.out]
   exact row_new w44 [((intT (k)),none,0)] 26 (by simp [maxLen]) (fun r hr=>by
    simp only [List.mem_cons,List.mem_nil_iff,or_false] at hr
    rcases hr with rfl
    ·exact TmsK.nil))
  have HB_47:=bz HB_45 hB
  clear hB HB_45
  go_wp2_with fail
  rw [←HY46.out]
  clear HY46
  refine (HLF.out ⟨#[45]⟩ _ _ _ _).mono ?_;rintro e w48 ⟨rfl,hB⟩
  have HB_49:=bz HB_47 hB
  have HR72_49:=zq ((HRN72.out.keep hB).mono hB.size)
  clear hB HB_47 HRN72
  go_wp2_with fail
  have HG50:Hid (Calls Tryz.prog 5 #[.string ((⟨#[45,32]⟩++S)++⟨#[46]⟩),.agg #[.int .i64 3,.int .i64 0,.string ⟨#[45]⟩,.slice (some ⟨w44.heap.size,0,none⟩) 1 1]] w48 fun e w'=>e=.returned (.bool true)∧Below w48.heap.size w48 w'):=zq (by
   have h:=l_gives ((⟨#[45,32]⟩++S)++⟨#[46]⟩) (strT ⟨#[45]⟩ [(intT (k))]) (some ⟨w44.heap.size,0,none⟩) 1 w48 HTd.out.1 HR72_49.out
   rw [HTd.out.2] at h
   exact h)
  refine HG50.out.mono ?_;rintro e w50 ⟨rfl,hB⟩
  clear HG50
  have HB_51:=bz HB_49 hB
  clear hB HB_49 HR72_49
  go_wp2_with fail
  refine (HLN.out (1) _).mono ?_;rintro e w52 ⟨rfl,hB⟩
  have HB_53:=bz HB_51 hB
  clear hB HB_51
  go_wp2_with fail
  refine (HLN.out (k) _).mono ?_;rintro e w54 ⟨rfl,hB⟩
  have HB_55:=bz HB_53 hB
  clear hB HB_53
  obtain ⟨y56,HY56⟩:=lz (w54.alloc (.cells #[.int .i64 1,.int .i64 1,.string ⟨#[]⟩,.slice none 0 0,.int .i64 1,.int .i64 (k),.string ⟨#[]⟩,.slice none 0 0] 26))
  have hB:Below w54.heap.size w54 y56:=by rw [HY56.out];exact (Below.refl _ _).alloc (Nat.le_refl _) _
  have HRN82:Hid (TmsAt y56.heap.size y56 (some ⟨w54.heap.size,0,none⟩) [(intT (1)),(intT (k))]):=zq (by
   rw [HY56.out]
   exact row_new w54 [((intT (1)),none,0),((intT (k)),none,0)] 26 (by simp [maxLen]) (fun r hr=>by
    simp only [List.mem_cons,List.mem_nil_iff,or_false] at hr
    rcases hr with rfl|rfl
    ·exact TmsK.nil
    ·exact TmsK.nil))
  have HB_57:=bz HB_55 hB
  clear hB HB_55
  go_wp2_with fail
  rw [←HY56.out]
  clear HY56
  refine (HLF.out ⟨#[45]⟩ _ _ _ _).mono ?_;rintro e w58 ⟨rfl,hB⟩
  have HB_59:=bz HB_57 hB
  have HR82_59:=zq ((HRN82.out.keep hB).mono hB.size)
  clear hB HB_57 HRN82
  go_wp2_with fail
  have HG60:Hid (Calls Tryz.prog 5 #[.string ((⟨#[49,32,45]⟩++S)++⟨#[46]⟩),.agg #[.int .i64 3,.int .i64 0,.string ⟨#[45]⟩,.slice (some ⟨w54.heap.size,0,none⟩) 2 2]] w58 fun e w'=>e=.returned (.bool true)∧Below w58.heap.size w58 w'):=zq (by
   have h:=l_gives ((⟨#[49,32,45]⟩++S)++⟨#[46]⟩) (strT ⟨#[45]⟩ [(intT (1)),(intT (k))]) (some ⟨w54.heap.size,0,none⟩) 2 w58 HTe.out.1 HR82_59.out
   rw [HTe.out.2] at h
   exact h)
  refine HG60.out.mono ?_;rintro e w60 ⟨rfl,hB⟩
  clear HG60
  have HB_61:=bz HB_59 hB
  clear hB HB_59 HR82_59
  go_wp2_with fail
  refine (HAW.out _).mono ?_;rintro e w62 ⟨rfl,hB⟩
  have HB_63:=bz HB_61 hB
  clear hB HB_61
  go_wp2_with fail
  go_ret
  exact ⟨rfl,HB_63.out⟩
end Go.Proofs.YtbojljpldcijgaaGreatDoor
