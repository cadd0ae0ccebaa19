/- Atoms: the law AtomsDigits. -/
import Derived.Test.YtpokpgkjaifccaaGreatDoorRRH01
import Derived.Test.YtpokpgkjaifccaaGreatDoorRRH30
import Derived.Test.YtpokpgkjaifccaaGreatDoorRRZAtV1
import Derived.Test.YtpokpgkjaifccaaGreatDoorRRZRw
import Derived.Test.YtpokpgkjaifccaaGreatDoorRRZRv
namespace Hb
open Go Go.RowKit
theorem spaces_is:∀k:Nat,k<5→((⟨#[32,32,32,32,32]⟩:ByteArray).extract 0 k).data.toList=List.replicate k 32∧((⟨#[32,32,32,32,32]⟩:ByteArray).extract 0 k).size=k:=by decide +kernel
theorem conv_bkb {P:Program} {X:World} {g:Nat} (src dst e:TypeId) (hs:P.underlying src=some (.slice e)) (he:P.underlying e=some (.int .u8)) (hd:P.underlying dst=some .string) (c:UInt8) (hk:Bk X g [.int .u8 (c.toNat:Int)]) :
  (convert src dst (.slice (some ⟨g,0,none⟩) 1 1)).run P X=.ok (.string ⟨#[c]⟩) X:=by
 have h:=conv_bk1 src dst e hs he hd (c.toNat:Int) (by omega) (by have:=c.toNat_lt;omega) hk
 have e2:((c.toNat:Int)).toNat.toUInt8=c:=by rw [Int.toNat_natCast];exact UInt8.ofNat_toNat
 rw [e2] at h
 exact h
theorem app_list (a b:ByteArray):(a++b).data.toList=a.data.toList++b.data.toList:=by simp
end Hb
namespace Go.Proofs.YtpokpgkjaifccaaGreatDoorRR
open Go.RowKit Hb Go.Shelf
set_option maxRecDepth 100000
set_option maxHeartbeats 3200000 in
theorem law_digits (m:Int) (sp c:UInt8) (hm:I64 m) (w:World) (hD:DoorOk w):Calls Tryz.prog 9 #[.int .i64 m,.int .u8 (sp.toNat:Int),.int .u8 (c.toNat:Int)] w fun e w'=>e=.returned (.bool true)∧Below w.heap.size w w':=by
 have HDO:=zq hD
 have HLA:=zq (fun s W=>l_a s W)
 have HLX:=zq (fun n W=>l_x n W)
 have HLN:=zq (fun n W=>l_n n W)
 have HLF:=zq (fun s A n c W=>l_f s A n c W)
 have HIM:=zq hm
 have HFI:Hid (∀W,Below w.heap.size w W→Calls Tryz.prog 22 #[.int .i64 m,.int .i64 10] W fun e w'=>e=.returned (.string (fmA m))∧Below W.heap.size W w'):=zq fun W hW=>
  (Tryz.strconv_FormatInt_10 m hm.1 hm.2 W (hD.below hW).pow).mono fun _ _ ⟨he,k,os,hw⟩=>⟨he,by rw [hw];exact bl_growA W k os⟩
 have HAW:=zq (fun W (h:Below w.heap.size w W)=>l_awake W (hD.below h))
 have HB0:=zq (Below.refl w.heap.size w)
 obtain ⟨F,HFE⟩:=lz (fmA m)
 have hF21:F.size≤21:=by rw [HFE.out];exact fm_len m hm
 have HFD:Hid (F.data.toList=Lib.itoa m):=zq (by rw [HFE.out];rfl)
 rw [←HFE.out] at HFI
 obtain ⟨k,HKE⟩:=lz (sp.toNat % 5)
 have hk5:k<5:=by rw [HKE.out];exact Nat.mod_lt _ (by decide)
 have hmod:(sp.toNat:Int) % 5=(k:Int):=by rw [HKE.out];omega
 obtain ⟨B,HBE⟩:=lz (α:=ByteArray) ((⟨#[32,32,32,32,32]⟩:ByteArray).extract 0 k)
 have HBD:Hid (B.data.toList=List.replicate k 32):=zq (by rw [HBE.out];exact (spaces_is k hk5).1)
 have hBk:B.size=k:=by rw [HBE.out];exact (spaces_is k hk5).2
 have hBx:(⟨#[32,32,32,32,32]⟩:ByteArray).extract 0 k=B:=HBE.out.symm
 have HK5:=zq hk5
 have HBS:=zq hBk
 have HF1:=zq hF21
 have hkt:((k:Int)).toNat=k:=Int.toNat_natCast k
 have hks:(k:Int)≤5:=by omega
 have hk0:(0:Int)≤(k:Int):=by omega
 clear hD hm HFE HKE HBE
 go_enter Tryz.func9,Tryz.ntmps9
 go_wp2_with fail
 refine (HFI.out _ HB0.out).mono ?_;rintro e wf ⟨rfl,hB⟩
 have HBF:=bz HB0 hB
 clear hB HB0 HFI
 obtain ⟨T1,hT1⟩:∃t,B++F=t:=⟨_,rfl⟩
 have HT1:Hid (T1.data.toList=List.replicate k 32++Lib.itoa m):=zq (by rw [←hT1,app_list,HBD.out,HFD.out])
 have HT2:Hid ((T1++(⟨#[32]⟩:ByteArray)).data.toList=List.replicate k 32++(Lib.itoa m++[32])):=zq (by rw [app_list,HT1.out,List.append_assoc])
 have HS1:Hid (T1.size≤26):=zq (by rw [←hT1,ByteArray.size_append];omega)
 have HS2:Hid ((T1++(⟨#[32]⟩:ByteArray)).size≤27):=zq (by
  have h1:(⟨#[32]⟩:ByteArray).size=1:=rfl
  rw [ByteArray.size_append,h1];have:=HS1.out;omega)
 have hT1s:T1.size≤26:=HS1.out
 have hT1i:(T1.size:Int)≤26:=by omega
 have hBF:B.size+F.size≤9223372036854775807:=by omega
 have hT16:T1.size≤9223372036854775806:=by omega
 have hwn:wrap64 ((k:Int)+(F.size:Int))=(k:Int)+(F.size:Int):=IntWalk.wrap64_in _ (by omega)
 have HIN:Hid (I64 ((k:Int)+(F.size:Int))):=zq ⟨by omega,by omega⟩
 have HFS:Hid ((k:Int)+(F.size:Int)=(k:Int)+((fmA m).size:Int)):=zq (by
  have h1:F.size=F.data.toList.length:=by simp
  have h2:(fmA m).size=(Lib.itoa m).length:=rfl
  rw [h1,HFD.out,h2])
 go_wp2_with fail
 refine (HLX.out (0) _).mono ?_;rintro e w1 ⟨rfl,hB⟩
 have HB_2:=bz HBF hB
 clear hB HBF
 go_wp2_with fail
 obtain ⟨R3,HRE3⟩:=lz (textT true (T1:ByteArray).data.toList)
 have HC3:Hid (∀X,Calls Tryz.prog 20 #[.string T1] X fun e w'=>∃qa qc,e=.returned (.agg #[.int .i64 R3.kind,.int .i64 R3.num,.string R3.name,.slice qa R3.args.length qc])∧Below X.heap.size X w'∧TmsAt w'.heap.size w' qa R3.args):=zq fun X=>by
  rw [HRE3.out]
  exact (l_codes T1 X (by have:=HS1.out;omega)).mono fun e w' h=>by
   obtain ⟨qa,qc,he,hB,hN⟩:=h
   exact ⟨qa,qc,he,hB,hN.at'⟩
 refine (HC3.out _).mono ?_;rintro e w3 ⟨a3,c3,rfl,hB,hN⟩
 have HRN18:=zq hN
 clear hN HC3
 have HB_4:=bz HB_2 hB
 clear hB HB_2
 obtain ⟨y5,HY5⟩:=lz (w3.alloc (.cells #[.int .i64 0,.int .i64 0,.string ⟨#[]⟩,.slice none 0 0,.int .i64 R3.kind,.int .i64 R3.num,.string R3.name,.slice a3 R3.args.length c3] 32))
 have hB:Below w3.heap.size w3 y5:=by rw [HY5.out];exact (Below.refl _ _).alloc (Nat.le_refl _) _
 have HRN19:Hid (TmsAt y5.heap.size y5 (some ⟨w3.heap.size,0,none⟩) [(varT (0)),R3]):=zq (by
  rw [HY5.out]
  exact row_new w3 [((varT (0)),none,0),(R3,a3,c3)] 32 (by simp [maxLen]) (fun r hr=>by
   simp only [List.mem_cons,List.mem_nil_iff,or_false] at hr
   rcases hr with rfl | rfl
   ·exact TmsK.nil
   ·exact HRN18.out))
 have HB_6:=bz HB_4 hB
 clear hB HB_4 HRN18
 go_wp2_with fail
 rw [←HY5.out]
 clear HY5
 refine (HLF.out ⟨#[110,117,109,98,101,114,95,99,111,100,101,115]⟩ _ _ _ _).mono ?_;rintro e w7 ⟨rfl,hB⟩
 have HB_8:=bz HB_6 hB
 have HR19_8:=zq ((HRN19.out.keep hB).mono hB.size)
 clear hB HB_6 HRN19
 go_wp2_with fail
 refine (HLN.out (m) _).mono ?_;rintro e w9 ⟨rfl,hB⟩
 have HB_10:=bz HB_8 hB
 have HR19_10:=zq ((HR19_8.out.keep hB).mono hB.size)
 clear hB HB_8 HR19_8
 go_wp2_with fail
 obtain ⟨R11,HRE11⟩:=lz (textT true (T1:ByteArray).data.toList)
 have HC11:Hid (∀X,Calls Tryz.prog 20 #[.string T1] X fun e w'=>∃qa qc,e=.returned (.agg #[.int .i64 R11.kind,.int .i64 R11.num,.string R11.name,.slice qa R11.args.length qc])∧Below X.heap.size X w'∧TmsAt w'.heap.size w' qa R11.args):=zq fun X=>by
  rw [HRE11.out]
  exact (l_codes T1 X (by have:=HS1.out;omega)).mono fun e w' h=>by
   obtain ⟨qa,qc,he,hB,hN⟩:=h
   exact ⟨qa,qc,he,hB,hN.at'⟩
 refine (HC11.out _).mono ?_;rintro e w11 ⟨a11,c11,rfl,hB,hN⟩
 have HRN26:=zq hN
 clear hN HC11
 have HB_12:=bz HB_10 hB
 have HR19_12:=zq ((HR19_10.out.keep hB).mono hB.size)
 clear hB HB_10 HR19_10
 obtain ⟨y13,HY13⟩:=lz (w11.alloc (.cells #[.int .i64 1,.int .i64 (m),.string ⟨#[]⟩,.slice none 0 0,.int .i64 R11.kind,.int .i64 R11.num,.string R11.name,.slice a11 R11.args.length c11] 32))
 have hB:Below w11.heap.size w11 y13:=by rw [HY13.out];exact (Below.refl _ _).alloc (Nat.le_refl _) _
 have HRN27:Hid (TmsAt y13.heap.size y13 (some ⟨w11.heap.size,0,none⟩) [(intT (m)),R11]):=zq (by
  rw [HY13.out]
  exact row_new w11 [((intT (m)),none,0),(R11,a11,c11)] 32 (by simp [maxLen]) (fun r hr=>by
   simp only [List.mem_cons,List.mem_nil_iff,or_false] at hr
   rcases hr with rfl | rfl
   ·exact TmsK.nil
   ·exact HRN26.out))
 have HB_14:=bz HB_12 hB
 have HR19_14:=zq ((HR19_12.out.keep hB).mono hB.size)
 clear hB HB_12 HR19_12 HRN26
 go_wp2_with fail
 rw [←HY13.out]
 clear HY13
 refine (HLF.out ⟨#[110,117,109,98,101,114,95,99,111,100,101,115]⟩ _ _ _ _).mono ?_;rintro e w15 ⟨rfl,hB⟩
 have HB_16:=bz HB_14 hB
 have HR19_16:=zq ((HR19_14.out.keep hB).mono hB.size)
 have HR27_16:=zq ((HRN27.out.keep hB).mono hB.size)
 clear hB HB_14 HR19_14 HRN27
 obtain ⟨y17,HY17⟩:=lz (w15.alloc (.cells #[.int .i64 3,.int .i64 0,.string ⟨#[110,117,109,98,101,114,95,99,111,100,101,115]⟩,.slice (some ⟨w11.heap.size,0,none⟩) 2 2] 32))
 have hB:Below w15.heap.size w15 y17:=by rw [HY17.out];exact (Below.refl _ _).alloc (Nat.le_refl _) _
 have HRN29:Hid (TmsAt y17.heap.size y17 (some ⟨w15.heap.size,0,none⟩) [(strT ⟨#[110,117,109,98,101,114,95,99,111,100,101,115]⟩ [(intT (m)),R11])]):=zq (by
  rw [HY17.out]
  exact row_new w15 [((strT ⟨#[110,117,109,98,101,114,95,99,111,100,101,115]⟩ [(intT (m)),R11]),(some ⟨w11.heap.size,0,none⟩),2)] 32 (by simp [maxLen]) (fun r hr=>by
   simp only [List.mem_cons,List.mem_nil_iff,or_false] at hr
   rcases hr with rfl
   ·exact HR27_16.out))
 have HB_18:=bz HB_16 hB
 have HR19_18:=zq ((HR19_16.out.keep hB).mono hB.size)
 clear hB HB_16 HR19_16 HR27_16
 go_wp2_with fail
 rw [←HY17.out]
 clear HY17
 have HG19:Hid (Calls Tryz.prog 15 #[.agg #[.int .i64 3,.int .i64 0,.string ⟨#[110,117,109,98,101,114,95,99,111,100,101,115]⟩,.slice (some ⟨w3.heap.size,0,none⟩) 2 2],.slice (some ⟨w15.heap.size,0,none⟩) 1 1] y17 fun e w'=>e=.returned (.bool true)∧Below y17.heap.size y17 w'):=zq (by
  have h:=l_gives (strT ⟨#[110,117,109,98,101,114,95,99,111,100,101,115]⟩ [(varT (0)),R3]) (some ⟨w3.heap.size,0,none⟩) 2 [(strT ⟨#[110,117,109,98,101,114,95,99,111,100,101,115]⟩ [(intT (m)),R11])] (some ⟨w15.heap.size,0,none⟩) 1 1 y17 (HDO.out.below HB_18.out) (i64_of ⟨⟨by decide,by decide⟩,(by rw [HRE3.out];exact i64_text _ _),trivial⟩) (Nat.le_refl _) HR19_18.out rfl HRN29.out
  rw [show givesB (strT ⟨#[110,117,109,98,101,114,95,99,111,100,101,115]⟩ [(varT (0)),R3]) [(strT ⟨#[110,117,109,98,101,114,95,99,111,100,101,115]⟩ [(intT (m)),R11])]=true by rw [HRE3.out,HRE11.out];exact dg_gives m HIM.out k (Nat.le_of_lt HK5.out) T1 HT1.out] at h
  exact h)
 refine HG19.out.mono ?_;rintro e w19 ⟨rfl,hB⟩
 clear HG19
 have HB_20:=bz HB_18 hB
 clear hB HB_18 HR19_18 HRN29
 go_wp2_with fail
 refine (HLX.out (0) _).mono ?_;rintro e w21 ⟨rfl,hB⟩
 have HB_22:=bz HB_20 hB
 clear hB HB_20
 go_wp2_with fail
 obtain ⟨R23,HRE23⟩:=lz (textT true ((T1++(⟨#[32]⟩:ByteArray)):ByteArray).data.toList)
 have HC23:Hid (∀X,Calls Tryz.prog 20 #[.string (T1++(⟨#[32]⟩:ByteArray))] X fun e w'=>∃qa qc,e=.returned (.agg #[.int .i64 R23.kind,.int .i64 R23.num,.string R23.name,.slice qa R23.args.length qc])∧Below X.heap.size X w'∧TmsAt w'.heap.size w' qa R23.args):=zq fun X=>by
  rw [HRE23.out]
  exact (l_codes (T1++(⟨#[32]⟩:ByteArray)) X (Nat.le_trans HS2.out (by decide))).mono fun e w' h=>by
   obtain ⟨qa,qc,he,hB,hN⟩:=h
   exact ⟨qa,qc,he,hB,hN.at'⟩
 refine (HC23.out _).mono ?_;rintro e w23 ⟨a23,c23,rfl,hB,hN⟩
 have HRN37:=zq hN
 clear hN HC23
 have HB_24:=bz HB_22 hB
 clear hB HB_22
 obtain ⟨y25,HY25⟩:=lz (w23.alloc (.cells #[.int .i64 0,.int .i64 0,.string ⟨#[]⟩,.slice none 0 0,.int .i64 R23.kind,.int .i64 R23.num,.string R23.name,.slice a23 R23.args.length c23] 32))
 have hB:Below w23.heap.size w23 y25:=by rw [HY25.out];exact (Below.refl _ _).alloc (Nat.le_refl _) _
 have HRN38:Hid (TmsAt y25.heap.size y25 (some ⟨w23.heap.size,0,none⟩) [(varT (0)),R23]):=zq (by
  rw [HY25.out]
  exact row_new w23 [((varT (0)),none,0),(R23,a23,c23)] 32 (by simp [maxLen]) (fun r hr=>by
   simp only [List.mem_cons,List.mem_nil_iff,or_false] at hr
   rcases hr with rfl | rfl
   ·exact TmsK.nil
   ·exact HRN37.out))
 have HB_26:=bz HB_24 hB
 clear hB HB_24 HRN37
 go_wp2_with fail
 rw [←HY25.out]
 clear HY25
 refine (HLF.out ⟨#[110,117,109,98,101,114,95,99,111,100,101,115]⟩ _ _ _ _).mono ?_;rintro e w27 ⟨rfl,hB⟩
 have HB_28:=bz HB_26 hB
 have HR38_28:=zq ((HRN38.out.keep hB).mono hB.size)
 clear hB HB_26 HRN38
 go_wp2_with fail
 refine (HLN.out (((k:Int)+(F.size:Int))) _).mono ?_;rintro e w29 ⟨rfl,hB⟩
 have HB_30:=bz HB_28 hB
 have HR38_30:=zq ((HR38_28.out.keep hB).mono hB.size)
 clear hB HB_28 HR38_28
 obtain ⟨y31,HY31⟩:=lz (w29.alloc (.cells #[.int .i64 1,.int .i64 (((k:Int)+(F.size:Int))),.string ⟨#[]⟩,.slice none 0 0] 32))
 have hB:Below w29.heap.size w29 y31:=by rw [HY31.out];exact (Below.refl _ _).alloc (Nat.le_refl _) _
 have HRN46:Hid (TmsAt y31.heap.size y31 (some ⟨w29.heap.size,0,none⟩) [(intT (((k:Int)+(F.size:Int))))]):=zq (by
  rw [HY31.out]
  exact row_new w29 [((intT (((k:Int)+(F.size:Int)))),none,0)] 32 (by simp [maxLen]) (fun r hr=>by
   simp only [List.mem_cons,List.mem_nil_iff,or_false] at hr
   rcases hr with rfl
   ·exact TmsK.nil))
 have HB_32:=bz HB_30 hB
 have HR38_32:=zq ((HR38_30.out.keep hB).mono hB.size)
 clear hB HB_30 HR38_30
 go_wp2_with fail
 rw [←HY31.out]
 clear HY31
 refine (HLF.out ⟨#[115,121,110,116,97,120,95,101,114,114,111,114]⟩ _ _ _ _).mono ?_;rintro e w33 ⟨rfl,hB⟩
 have HB_34:=bz HB_32 hB
 have HR38_34:=zq ((HR38_32.out.keep hB).mono hB.size)
 have HR46_34:=zq ((HRN46.out.keep hB).mono hB.size)
 clear hB HB_32 HR38_32 HRN46
 go_wp2_with fail
 have HG35:Hid (Calls Tryz.prog 25 #[.agg #[.int .i64 3,.int .i64 0,.string ⟨#[110,117,109,98,101,114,95,99,111,100,101,115]⟩,.slice (some ⟨w23.heap.size,0,none⟩) 2 2],.agg #[.int .i64 3,.int .i64 0,.string ⟨#[115,121,110,116,97,120,95,101,114,114,111,114]⟩,.slice (some ⟨w29.heap.size,0,none⟩) 1 1]] w33 fun e w'=>e=.returned (.bool true)∧Below w33.heap.size w33 w'):=zq (by
  have h:=l_raises (strT ⟨#[110,117,109,98,101,114,95,99,111,100,101,115]⟩ [(varT (0)),R23]) (strT ⟨#[115,121,110,116,97,120,95,101,114,114,111,114]⟩ [(intT (((k:Int)+(F.size:Int))))]) (some ⟨w23.heap.size,0,none⟩) 2 (some ⟨w29.heap.size,0,none⟩) 1 w33 (HDO.out.below HB_34.out) (i64_of ⟨⟨by decide,by decide⟩,(by rw [HRE23.out];exact i64_text _ _),trivial⟩) (Nat.le_refl _) HR38_34.out HR46_34.out (by rw [HRE23.out];exact (dg_raises m HIM.out k (Nat.le_of_lt HK5.out) 32 (noDec_cons 32 [] (by decide) (by decide) (by decide) (by decide) (by decide)) (T1++(⟨#[32]⟩:ByteArray)) HT2.out _ HFS.out).2)
  rw [show raisesB (strT ⟨#[110,117,109,98,101,114,95,99,111,100,101,115]⟩ [(varT (0)),R23]) (strT ⟨#[115,121,110,116,97,120,95,101,114,114,111,114]⟩ [(intT (((k:Int)+(F.size:Int))))])=true by rw [HRE23.out];exact (dg_raises m HIM.out k (Nat.le_of_lt HK5.out) 32 (noDec_cons 32 [] (by decide) (by decide) (by decide) (by decide) (by decide)) (T1++(⟨#[32]⟩:ByteArray)) HT2.out _ HFS.out).1] at h
  exact h)
 refine HG35.out.mono ?_;rintro e w35 ⟨rfl,hB⟩
 clear HG35
 have HB_36:=bz HB_34 hB
 clear hB HB_34 HR38_34 HR46_34
 obtain ⟨w7,HW7⟩:=lz (w35)
 go_upto_region 7 with fail
 go_cut [70] from 50 to 69 (fun v wc=>v=.bool false∧Hid (Below w.heap.size w wc))
 case first=>
  by_cases hneg:m<0
  rotate_left
  ·go_wp2_with fail
   rename_i K7 hK7
   refine region_own (w0:=w35) [rPure [] [0] (fun | [v]=>v=.int .i64 m | _=>False),
     rPure [0] [1] (fun | [v]=>v=.bool false | _=>False),
     rPure [0,1] [2] (fun | [v]=>v=.bool false | _=>False),
     rVal (List.range 3) [3] (fun | [v]=>v=undef | _=>False),
     rPure (List.range 3) [4] (fun | [v]=>v=undef | _=>False),
     rPure [0,1,2,4] [5] (fun | [v]=>v=undef | _=>False),
     rPure (List.range 3) [6] (fun | [v]=>v=undef | _=>False),
     rPure [0,1,2,6] [7] (fun | [v]=>v=undef | _=>False),
     rPure [0,1,2,4,5,6,7] [8] (fun | [v]=>v=undef | _=>False),
     rVal (List.range 9) [9] (fun | [v]=>v=undef | _=>False),
     rPure (List.range 10) [10] (fun | [v]=>v=undef | _=>False),
     rVal (List.range 11) [11] (fun | [v]=>v=undef | _=>False),
     rPure (List.range 3) [12] (fun | [v]=>v=undef | _=>False),
     rPure [0,1,2,12] [13] (fun | [v]=>v=undef | _=>False),
     rPure [0,1,2,12,13] [14] (fun | [v]=>v=undef | _=>False),
     rVal (List.range 15) [15] (fun | [v]=>v=undef | _=>False),
     rPure (List.range 16) [16] (fun | [v]=>v=undef | _=>False),
     rVal (List.range 17) [17] (fun | [v]=>v=undef | _=>False),
     rVal (List.range 18) [18] (fun | [v]=>v=undef | _=>False),
     rPure (List.range 19) [19] (fun | [v]=>v=undef | _=>False),
     rPure (List.range 20) [20] (fun | [v]=>v=.bool false | _=>False)]
     [some 50,some 51,some 52,some 53,some 54,some 55,some 56,some 57,some 58,some 59,some 60,some 61,some 62,some 63,some 64,some 65,some 66,some 67,some 68,some 69,some 70] (fun _=>True) (w35.heap.size) (by kernel_rfl) (Nat.le_refl _) (by kernel_rfl) (by kernel_rfl) (by kernel_rfl) (fun j o ho=>?srv7) (fun val Y N hv HF=>?fin7)
   case srv7=>
     have hlt:j<21:=(Array.getElem?_eq_some_iff.1 ho).1
     rcases (show j=0∨j=1∨j=2∨j=3∨j=4∨j=5∨j=6∨j=7∨j=8∨j=9∨j=10∨j=11∨j=12∨j=13∨j=14∨j=15∨j=16∨j=17∨j=18∨j=19∨j=20 by omega) with rfl | rfl | rfl | rfl | rfl | rfl | rfl | rfl | rfl | rfl | rfl | rfl | rfl | rfl | rfl | rfl | rfl | rfl | rfl | rfl | rfl
     ·cases ho
      refine srv_pure rfl rfl (fun val E hE hA=>?_)
      have e0:=hE.t 0 (.int .i64 m) rfl
      exact ⟨.int .i64 m,fun X=>by simp [execOp,go_sem,e0],rfl⟩
     ·cases ho
      refine srv_pure rfl rfl (fun val E hE hA=>?_)
      have e50:=hE.t 50 (val 0) rfl
      have h0:val 0=.int .i64 m:=hA 0 (oz rfl)
      exact ⟨.bool false,fun X=>by simp [execOp,go_sem,hE.c,e50,h0,hneg],rfl⟩
     ·cases ho
      refine srv_pure rfl rfl (fun val E hE hA=>?_)
      have e51:=hE.t 51 (val 1) rfl
      have h1:val 1=.bool false:=hA 1 (oz rfl)
      exact ⟨.bool false,fun X=>by simp [execOp,go_sem,e51,h1],rfl⟩
     ·cases ho
      exact srv_calVG false rfl rfl (fun _ _ _=>trivial) (fun val hA=>hA 2 (oz rfl)) (fun h=>by cases h) fun _ val hA=>rfl
     ·cases ho
      exact srv_pureG false rfl rfl (fun val hA=>hA 2 (oz rfl)) (fun h=>by cases h) fun _ val hA=>rfl
     ·cases ho
      exact srv_pureG false rfl rfl (fun val hA=>hA 2 (oz rfl)) (fun h=>by cases h) fun _ val hA=>rfl
     ·cases ho
      exact srv_pureG false rfl rfl (fun val hA=>hA 2 (oz rfl)) (fun h=>by cases h) fun _ val hA=>rfl
     ·cases ho
      exact srv_pureG false rfl rfl (fun val hA=>hA 2 (oz rfl)) (fun h=>by cases h) fun _ val hA=>rfl
     ·cases ho
      exact srv_pureG false rfl rfl (fun val hA=>hA 2 (oz rfl)) (fun h=>by cases h) fun _ val hA=>rfl
     ·cases ho
      exact srv_calVG false rfl rfl (fun _ _ _=>trivial) (fun val hA=>hA 2 (oz rfl)) (fun h=>by cases h) fun _ val hA=>rfl
     ·cases ho
      exact srv_pureG false rfl rfl (fun val hA=>hA 2 (oz rfl)) (fun h=>by cases h) fun _ val hA=>rfl
     ·cases ho
      exact srv_calVG false rfl rfl (fun _ _ _=>trivial) (fun val hA=>hA 2 (oz rfl)) (fun h=>by cases h) fun _ val hA=>rfl
     ·cases ho
      exact srv_pureG false rfl rfl (fun val hA=>hA 2 (oz rfl)) (fun h=>by cases h) fun _ val hA=>rfl
     ·cases ho
      exact srv_pureG false rfl rfl (fun val hA=>hA 2 (oz rfl)) (fun h=>by cases h) fun _ val hA=>rfl
     ·cases ho
      exact srv_pureG false rfl rfl (fun val hA=>hA 2 (oz rfl)) (fun h=>by cases h) fun _ val hA=>rfl
     ·cases ho
      exact srv_calVG false rfl rfl (fun _ _ _=>trivial) (fun val hA=>hA 2 (oz rfl)) (fun h=>by cases h) fun _ val hA=>rfl
     ·cases ho
      exact srv_pureG false rfl rfl (fun val hA=>hA 2 (oz rfl)) (fun h=>by cases h) fun _ val hA=>rfl
     ·cases ho
      exact srv_calVG false rfl rfl (fun _ _ _=>trivial) (fun val hA=>hA 2 (oz rfl)) (fun h=>by cases h) fun _ val hA=>rfl
     ·cases ho
      exact srv_calVG false rfl rfl (fun _ _ _=>trivial) (fun val hA=>hA 2 (oz rfl)) (fun h=>by cases h) fun _ val hA=>rfl
     ·cases ho
      exact srv_pureG false rfl rfl (fun val hA=>hA 2 (oz rfl)) (fun h=>by cases h) fun _ val hA=>rfl
     ·cases ho
      refine srv_pure rfl rfl (fun val E hE hA=>?_)
      have e52:=hE.t 52 (val 2) rfl
      have h2:val 2=.bool false:=hA 2 (oz rfl)
      have e69:=hE.t 69 (val 19) rfl
      have h19:val 19=undef:=hA 19 (oz rfl)
      exact ⟨.bool false,fun X=>by simp [execOp,go_sem,hE.c,e52,h2,e69,h19],rfl⟩
   case fin7=>
     have h0:val 0=.int .i64 m:=hv 0 (by decide)
     have h1:val 1=.bool false:=hv 1 (by decide)
     have h2:val 2=.bool false:=hv 2 (by decide)
     have h3:val 3=undef:=hv 3 (by decide)
     have h4:val 4=undef:=hv 4 (by decide)
     have h5:val 5=undef:=hv 5 (by decide)
     have h6:val 6=undef:=hv 6 (by decide)
     have h7:val 7=undef:=hv 7 (by decide)
     have h8:val 8=undef:=hv 8 (by decide)
     have h9:val 9=undef:=hv 9 (by decide)
     have h10:val 10=undef:=hv 10 (by decide)
     have h11:val 11=undef:=hv 11 (by decide)
     have h12:val 12=undef:=hv 12 (by decide)
     have h13:val 13=undef:=hv 13 (by decide)
     have h14:val 14=undef:=hv 14 (by decide)
     have h15:val 15=undef:=hv 15 (by decide)
     have h16:val 16=undef:=hv 16 (by decide)
     have h17:val 17=undef:=hv 17 (by decide)
     have h18:val 18=undef:=hv 18 (by decide)
     have h19:val 19=undef:=hv 19 (by decide)
     have h20:val 20=.bool false:=hv 20 (by decide)
     refine hK7 _ _ ?_
     simp only [fillD,List.set_cons_zero,List.set_cons_succ,Nat.reduceAdd,Nat.zero_add,h0,h1,h2,h3,h4,h5,h6,h7,h8,h9,h10,h11,h12,h13,h14,h15,h16,h17,h18,h19,h20]
     have HBY:=zq (HB_36.out.trans (HF.bel.mono HB_36.out.size))
     clear hv HF hK7 h0 h1 h2 h3 h4 h5 h6 h7 h8 h9 h10 h11 h12 h13 h14 h15 h16 h17 h18 h19 h20 HB_36
     go_wp2_with fail
     go_meet
     exact ⟨rfl,HBY⟩
  ·have HNG:=zq hneg
   have hF0:1≤F.size:=by
    have h1:F.size=F.data.toList.length:=by simp
    rw [h1,HFD.out]
    obtain ⟨u,rfl⟩:∃u:Nat,m=-(u:Int):=⟨m.natAbs,by omega⟩
    rw [Lib.itoa_neg u (by omega)]
    simp
   have hF1i:(1:Int)≤(F.size:Int):=by omega
   have hB2:B.size≤9223372036854775805:=by rw [hBk];omega
   obtain ⟨T5,hT5⟩:∃t,B++(⟨#[45,32]⟩:ByteArray)=t:=⟨_,rfl⟩
   obtain ⟨F1,hF1⟩:∃t,F.extract 1 F.size=t:=⟨_,rfl⟩
   obtain ⟨T3,hT3⟩:∃t,T5++F1=t:=⟨_,rfl⟩
   have hT5s:T5.size≤7:=by
    have h1:(⟨#[45,32]⟩:ByteArray).size=2:=rfl
    rw [←hT5,ByteArray.size_append,h1];omega
   have hF1s:F1.size≤21:=by rw [←hF1];simp;omega
   have hT53:T5.size+F1.size≤9223372036854775807:=by omega
   have HT3:Hid (T3.data.toList=List.replicate k 32++(45::32::(Lib.itoa m).drop 1)):=zq (by
    have h1:F1.data.toList=F.data.toList.drop 1:=by
     rw [←hF1]
     simp
     exact List.take_of_length_le (by simp)
    have h2:(⟨#[45,32]⟩:ByteArray).data.toList=[45,32]:=rfl
    rw [←hT3,app_list,←hT5,app_list,HBD.out,h1,HFD.out,h2,List.append_assoc]
    rfl)
   have hv2:IntKind.i64.wrap ((k:Int)+2)=(k:Int)+2:=IntWalk.i64_in _ (by omega)
   have HI2:Hid (I64 ((k:Int)+2)):=zq ⟨by omega,by omega⟩
   have hT3s:T3.size≤900:=by rw [←hT3,ByteArray.size_append];omega
   obtain ⟨R69,HRE69⟩:=lz (textT true T3.data.toList)
   have HTX69:Hid (∀X,Calls Tryz.prog 20 #[.string T3] X fun e w'=>∃qa qc,e=.returned (.agg #[.int .i64 R69.kind,.int .i64 R69.num,.string R69.name,.slice qa R69.args.length qc])∧Below X.heap.size X w'∧NewT X w' qa R69.args):=zq fun X=>by
    rw [HRE69.out]
    exact l_codes T3 X hT3s
   go_wp2_with fail
   rename_i K7 hK7
   refine region_own (w0:=w35) [rPure [] [0] (fun | [v]=>v=.int .i64 m | _=>False),
     rPure [0] [1] (fun | [v]=>v=.bool true | _=>False),
     rPure [0,1] [2] (fun | [v]=>v=.bool true | _=>False),
     rVal (List.range 3) [3] (fun | [v]=>v=.agg #[.int .i64 0,.int .i64 0,.string ⟨#[]⟩,.slice none 0 0] | _=>False),
     rPure (List.range 3) [4] (fun | [v]=>v=.string B | _=>False),
     rPure [0,1,2,4] [5] (fun | [v]=>v=.string T5 | _=>False),
     rPure (List.range 3) [6] (fun | [v]=>v=.string F | _=>False),
     rPure [0,1,2,6] [7] (fun | [v]=>v=.string F1 | _=>False),
     rPure [0,1,2,4,5,6,7] [8] (fun | [v]=>v=.string T3 | _=>False),
     rTx (List.range 9) 9 R69,
     rRow (List.range 10) 10 2 [varT 0,R69],
     rGoal (List.range 11) 11 ⟨#[110,117,109,98,101,114,95,99,111,100,101,115]⟩ 2 [varT 0,R69],
     rPure (List.range 3) [12] (fun | [v]=>v=.string B | _=>False),
     rPure [0,1,2,12] [13] (fun | [v]=>v=.int .i64 (k:Int) | _=>False),
     rPure [0,1,2,12,13] [14] (fun | [v]=>v=.int .i64 ((k:Int)+2) | _=>False),
     rVal (List.range 15) [15] (fun | [v]=>v=.agg #[.int .i64 1,.int .i64 ((k:Int)+2),.string ⟨#[]⟩,.slice none 0 0] | _=>False),
     rRow (List.range 16) 16 1 [intT ((k:Int)+2)],
     rGoal (List.range 17) 17 ⟨#[115,121,110,116,97,120,95,101,114,114,111,114]⟩ 1 [intT ((k:Int)+2)],
     rVal (List.range 18) [18] (fun | [v]=>v=.bool true | _=>False),
     rPure (List.range 19) [19] (fun | [v]=>v=.bool false | _=>False),
     rPure (List.range 20) [20] (fun | [v]=>v=.bool false | _=>False)]
     [some 50,some 51,some 52,some 53,some 54,some 55,some 56,some 57,some 58,some 59,some 60,some 61,some 62,some 63,some 64,some 65,some 66,some 67,some 68,some 69,some 70] (fun _=>True) (w35.heap.size) (by kernel_rfl) (Nat.le_refl _) (by kernel_rfl) (by kernel_rfl) (by kernel_rfl) (fun j o ho=>?srv6) (fun val Y N hv HF=>?fin6)
   case srv6=>
     have hlt:j<21:=(Array.getElem?_eq_some_iff.1 ho).1
     rcases (show j=0∨j=1∨j=2∨j=3∨j=4∨j=5∨j=6∨j=7∨j=8∨j=9∨j=10∨j=11∨j=12∨j=13∨j=14∨j=15∨j=16∨j=17∨j=18∨j=19∨j=20 by omega) with rfl | rfl | rfl | rfl | rfl | rfl | rfl | rfl | rfl | rfl | rfl | rfl | rfl | rfl | rfl | rfl | rfl | rfl | rfl | rfl | rfl
     ·cases ho
      refine srv_pure rfl rfl (fun val E hE hA=>?_)
      have e0:=hE.t 0 (.int .i64 m) rfl
      exact ⟨.int .i64 m,fun X=>by simp [execOp,go_sem,e0],rfl⟩
     ·cases ho
      refine srv_pure rfl rfl (fun val E hE hA=>?_)
      have e50:=hE.t 50 (val 0) rfl
      have h0:val 0=.int .i64 m:=hA 0 (oz rfl)
      exact ⟨.bool true,fun X=>by simp [execOp,go_sem,hE.c,e50,h0,hneg],rfl⟩
     ·cases ho
      refine srv_pure rfl rfl (fun val E hE hA=>?_)
      have e51:=hE.t 51 (val 1) rfl
      have h1:val 1=.bool true:=hA 1 (oz rfl)
      exact ⟨.bool true,fun X=>by simp [execOp,go_sem,e51,h1],rfl⟩
     ·cases ho
      refine srv_calVG (true) rfl rfl (fun _ _ _=>trivial) (fun val hA=>hA 2 (oz rfl)) (fun _ val E X hE hB hA=>?_) (fun h=>absurd rfl h)
      exact ⟨_,_,_,by simp [execOp,go_sem,hE.c,hE.f] <;> rfl,HLX.out 0 X,rfl⟩
     ·cases ho
      refine srv_pureG (true) rfl rfl (fun val hA=>hA 2 (oz rfl)) (fun _ val E hE hA=>?_) (fun h=>absurd rfl h)
      have e8:=hE.t 8 (.string B) rfl
      exact ⟨.string B,fun X=>by simp [execOp,go_sem,e8],rfl⟩
     ·cases ho
      refine srv_pureG (true) rfl rfl (fun val hA=>hA 2 (oz rfl)) (fun _ val E hE hA=>?_) (fun h=>absurd rfl h)
      have e54:=hE.t 54 (val 4) rfl
      have h4:val 4=.string B:=hA 4 (oz rfl)
      exact ⟨.string T5,fun X=>by simp [execOp,go_sem,hE.c,e54,h4,hB2,hT5],rfl⟩
     ·cases ho
      refine srv_pureG (true) rfl rfl (fun val hA=>hA 2 (oz rfl)) (fun _ val E hE hA=>?_) (fun h=>absurd rfl h)
      have e7:=hE.t 7 (.string F) rfl
      exact ⟨.string F,fun X=>by simp [execOp,go_sem,e7],rfl⟩
     ·cases ho
      refine srv_pureG (true) rfl rfl (fun val hA=>hA 2 (oz rfl)) (fun _ val E hE hA=>?_) (fun h=>absurd rfl h)
      have e56:=hE.t 56 (val 6) rfl
      have h6:val 6=.string F:=hA 6 (oz rfl)
      exact ⟨.string F1,fun X=>by simp [execOp,go_sem,hE.c,e56,h6,hF1i,hF1],rfl⟩
     ·cases ho
      refine srv_pureG (true) rfl rfl (fun val hA=>hA 2 (oz rfl)) (fun _ val E hE hA=>?_) (fun h=>absurd rfl h)
      have e55:=hE.t 55 (val 5) rfl
      have h5:val 5=.string T5:=hA 5 (oz rfl)
      have e57:=hE.t 57 (val 7) rfl
      have h7:val 7=.string F1:=hA 7 (oz rfl)
      exact ⟨.string T3,fun X=>by simp [execOp,go_sem,e55,h5,e57,h7,hT53,hT3],rfl⟩
     ·cases ho
      refine srv_calG rfl rfl (fun val hA=>hA 2 (oz rfl)) fun val E X N hE hC hA hc=>?_
      have e58:=hE.t 58 (val 8) rfl
      have h8:val 8=.string T3:=hA 8 (oz rfl)
      exact ⟨_,_,by simp [execOp,go_sem,hE.f,e58,h8] <;> rfl,(HTX69.out X).mono fun e w' h=>by
       obtain ⟨a,c,he,hB,hN⟩:=h
       exact ⟨_,he,hB,⟨a,c,rfl⟩,fun N' _ h2=>⟨a,c,rfl,hN.keep (fun _ _=>rfl) fun b hb=>h2 b hb.1 hb.2⟩⟩⟩
     ·cases ho
      refine srv_mkG rfl rfl (fun val hA=>hA 2 (oz rfl)) fun val E X N hE hC hA hc=>?_
      have e53:=hE.t 53 (val 3) rfl
      have h3:val 3=.agg #[.int .i64 0,.int .i64 0,.string ⟨#[]⟩,.slice none 0 0]:=hA 3 (oz rfl)
      have e59:=hE.t 59 (val 9) rfl
      obtain ⟨a9,c9,h9,ht9⟩:∃a9 c9,val 9=.agg #[.int .i64 R69.kind,.int .i64 R69.num,.string R69.name,.slice a9 R69.args.length c9]∧TmsK N X a9 R69.args:=hc 9 (oz rfl) rfl
      exact ⟨.slice (some ⟨X.heap.size,0,none⟩) 2 2,X.alloc (.cells #[.int .i64 0,.int .i64 0,.string ⟨#[]⟩,.slice none 0 0,.int .i64 R69.kind,.int .i64 R69.num,.string R69.name,.slice a9 R69.args.length c9] 32),by simp [execOp,go_sem,e53,h3,e59,h9],(Below.refl _ _).alloc (Nat.le_refl _) _,⟨_,rfl⟩,fun N' h1 h2=>⟨_,rfl,TmsK.rows (K:=N') (w:=X) (rs:=[(varT 0,none,0),(R69,a9,c9)]) (e:=32) (h2 _ (Nat.le_refl _) (by simp)) (by simp [maxLen]) (fun x hx=>by
       simp only [List.mem_cons,List.mem_nil_iff,or_false] at hx
       rcases hx with rfl | rfl
       ·exact TmsK.nil
       ·exact row_stab ht9 (fun b hb=>((Below.refl X.heap.size X).alloc (Nat.le_refl _) _).block b (hC.lt b hb)) h1)⟩⟩
     ·cases ho
      refine srv_calG rfl rfl (fun val hA=>hA 2 (oz rfl)) fun val E X N hE hC hA hc=>?_
      obtain ⟨g10,h10,ht10⟩:∃g,val 10=.slice (some ⟨g,0,none⟩) 2 2∧TmsK N X (some ⟨g,0,none⟩) [varT 0,R69]:=hc 10 (oz rfl) rfl
      have e60:=hE.t 60 (val 10) rfl
      exact ⟨_,_,by simp [execOp,go_sem,hE.c,hE.f,e60,h10] <;> rfl,(HLF.out ⟨#[110,117,109,98,101,114,95,99,111,100,101,115]⟩ _ _ _ X).mono fun e w' h=>⟨_,h.1,h.2,⟨g10,rfl⟩,fun N' h1 _=>⟨g10,rfl,row_stab ht10 (fun b hb=>h.2.block b (hC.lt b hb)) h1⟩⟩⟩
     ·cases ho
      refine srv_pureG (true) rfl rfl (fun val hA=>hA 2 (oz rfl)) (fun _ val E hE hA=>?_) (fun h=>absurd rfl h)
      have e8:=hE.t 8 (.string B) rfl
      exact ⟨.string B,fun X=>by simp [execOp,go_sem,e8],rfl⟩
     ·cases ho
      refine srv_pureG (true) rfl rfl (fun val hA=>hA 2 (oz rfl)) (fun _ val E hE hA=>?_) (fun h=>absurd rfl h)
      have e62:=hE.t 62 (val 12) rfl
      have h12:val 12=.string B:=hA 12 (oz rfl)
      exact ⟨.int .i64 (k:Int),fun X=>by simp [execOp,go_sem,e62,h12,hBk],rfl⟩
     ·cases ho
      refine srv_pureG (true) rfl rfl (fun val hA=>hA 2 (oz rfl)) (fun _ val E hE hA=>?_) (fun h=>absurd rfl h)
      have e63:=hE.t 63 (val 13) rfl
      have h13:val 13=.int .i64 (k:Int):=hA 13 (oz rfl)
      exact ⟨.int .i64 ((k:Int)+2),fun X=>by simp [execOp,go_sem,hE.c,e63,h13,hv2],rfl⟩
     ·cases ho
      refine srv_calVG (true) rfl rfl (fun _ _ _=>trivial) (fun val hA=>hA 2 (oz rfl)) (fun _ val E X hE hB hA=>?_) (fun h=>absurd rfl h)
      have e64:=hE.t 64 (val 14) rfl
      have h14:val 14=.int .i64 ((k:Int)+2):=hA 14 (oz rfl)
      exact ⟨_,_,_,by simp [execOp,go_sem,hE.f,e64,h14] <;> rfl,HLN.out ((k:Int)+2) X,rfl⟩
     ·cases ho
      refine srv_mkG rfl rfl (fun val hA=>hA 2 (oz rfl)) fun val E X N hE hC hA hc=>?_
      have e65:=hE.t 65 (val 15) rfl
      have h15:val 15=.agg #[.int .i64 1,.int .i64 ((k:Int)+2),.string ⟨#[]⟩,.slice none 0 0]:=hA 15 (oz rfl)
      exact ⟨.slice (some ⟨X.heap.size,0,none⟩) 1 1,X.alloc (.cells #[.int .i64 1,.int .i64 ((k:Int)+2),.string ⟨#[]⟩,.slice none 0 0] 32),by simp [execOp,go_sem,e65,h15],(Below.refl _ _).alloc (Nat.le_refl _) _,⟨_,rfl⟩,fun N' h1 h2=>⟨_,rfl,TmsK.rows (K:=N') (w:=X) (rs:=[(intT ((k:Int)+2),none,0)]) (e:=32) (h2 _ (Nat.le_refl _) (by simp)) (by simp [maxLen]) (fun x hx=>by
       simp only [List.mem_cons,List.mem_nil_iff,or_false] at hx
       rcases hx with rfl
       ·exact TmsK.nil)⟩⟩
     ·cases ho
      refine srv_calG rfl rfl (fun val hA=>hA 2 (oz rfl)) fun val E X N hE hC hA hc=>?_
      obtain ⟨g16,h16,ht16⟩:∃g,val 16=.slice (some ⟨g,0,none⟩) 1 1∧TmsK N X (some ⟨g,0,none⟩) [intT ((k:Int)+2)]:=hc 16 (oz rfl) rfl
      have e66:=hE.t 66 (val 16) rfl
      exact ⟨_,_,by simp [execOp,go_sem,hE.c,hE.f,e66,h16] <;> rfl,(HLF.out ⟨#[115,121,110,116,97,120,95,101,114,114,111,114]⟩ _ _ _ X).mono fun e w' h=>⟨_,h.1,h.2,⟨g16,rfl⟩,fun N' h1 _=>⟨g16,rfl,row_stab ht16 (fun b hb=>h.2.block b (hC.lt b hb)) h1⟩⟩⟩
     ·cases ho
      refine srv_calG rfl rfl (fun val hA=>hA 2 (oz rfl)) fun val E X N hE hC hA hc=>?_
      obtain ⟨g11,h11,ht11⟩:∃g,val 11=.agg #[.int .i64 3,.int .i64 0,.string ⟨#[110,117,109,98,101,114,95,99,111,100,101,115]⟩,.slice (some ⟨g,0,none⟩) 2 2]∧TmsK N X (some ⟨g,0,none⟩) [varT 0,R69]:=hc 11 (oz rfl) rfl
      have e61:=hE.t 61 (val 11) rfl
      obtain ⟨g17,h17,ht17⟩:∃g,val 17=.agg #[.int .i64 3,.int .i64 0,.string ⟨#[115,121,110,116,97,120,95,101,114,114,111,114]⟩,.slice (some ⟨g,0,none⟩) 1 1]∧TmsK N X (some ⟨g,0,none⟩) [intT ((k:Int)+2)]:=hc 17 (oz rfl) rfl
      have e67:=hE.t 67 (val 17) rfl
      have h:=l_raises (strT ⟨#[110,117,109,98,101,114,95,99,111,100,101,115]⟩ [varT 0,R69]) (strT ⟨#[115,121,110,116,97,120,95,101,114,114,111,114]⟩ [intT ((k:Int)+2)]) (some ⟨g11,0,none⟩) 2 (some ⟨g17,0,none⟩) 1 X (HDO.out.below (HB_36.out.trans (hC.bel.mono HB_36.out.size))) (i64_of ⟨⟨by decide,by decide⟩,(by rw [HRE69.out];exact i64_text _ _),trivial⟩) (Nat.le_refl _) (TmsK.at' ht11) (TmsK.at' ht17) (by rw [HRE69.out];exact (dg_gap m HIM.out HNG.out k (Nat.le_of_lt HK5.out) T3 HT3.out).2)
      rw [show raisesB (strT ⟨#[110,117,109,98,101,114,95,99,111,100,101,115]⟩ [varT 0,R69]) (strT ⟨#[115,121,110,116,97,120,95,101,114,114,111,114]⟩ [intT ((k:Int)+2)])=true from by rw [HRE69.out];exact (dg_gap m HIM.out HNG.out k (Nat.le_of_lt HK5.out) T3 HT3.out).1] at h
      exact ⟨_,_,by simp [execOp,go_sem,hE.f,e61,h11,e67,h17] <;> first | rfl | exact ⟨rfl,rfl⟩,h.mono fun e w' h=>⟨_,h.1,h.2,rfl,fun _ _ _=>trivial⟩⟩
     ·cases ho
      refine srv_pureG (true) rfl rfl (fun val hA=>hA 2 (oz rfl)) (fun _ val E hE hA=>?_) (fun h=>absurd rfl h)
      have e68:=hE.t 68 (val 18) rfl
      have h18:val 18=.bool true:=hA 18 (oz rfl)
      exact ⟨.bool false,fun X=>by simp [execOp,go_sem,e68,h18],rfl⟩
     ·cases ho
      refine srv_pure rfl rfl (fun val E hE hA=>?_)
      have e52:=hE.t 52 (val 2) rfl
      have h2:val 2=.bool true:=hA 2 (oz rfl)
      have e69:=hE.t 69 (val 19) rfl
      have h19:val 19=.bool false:=hA 19 (oz rfl)
      exact ⟨.bool false,fun X=>by simp [execOp,go_sem,hE.c,e52,h2,e69,h19],rfl⟩
   case fin6=>
     have h0:val 0=.int .i64 m:=hv 0 (by decide)
     have h1:val 1=.bool true:=hv 1 (by decide)
     have h2:val 2=.bool true:=hv 2 (by decide)
     have h3:val 3=.agg #[.int .i64 0,.int .i64 0,.string ⟨#[]⟩,.slice none 0 0]:=hv 3 (by decide)
     have h4:val 4=.string B:=hv 4 (by decide)
     have h5:val 5=.string T5:=hv 5 (by decide)
     have h6:val 6=.string F:=hv 6 (by decide)
     have h7:val 7=.string F1:=hv 7 (by decide)
     have h8:val 8=.string T3:=hv 8 (by decide)
     obtain ⟨a9,c9,h9⟩:∃a9 c9,val 9=.agg #[.int .i64 R69.kind,.int .i64 R69.num,.string R69.name,.slice a9 R69.args.length c9]:=hv 9 (by decide)
     obtain ⟨g10,h10⟩:∃g,val 10=.slice (some ⟨g,0,none⟩) 2 2:=hv 10 (by decide)
     obtain ⟨gg11,h11⟩:∃g,val 11=.agg #[.int .i64 3,.int .i64 0,.string ⟨#[110,117,109,98,101,114,95,99,111,100,101,115]⟩,.slice (some ⟨g,0,none⟩) 2 2]:=hv 11 (by decide)
     have h12:val 12=.string B:=hv 12 (by decide)
     have h13:val 13=.int .i64 (k:Int):=hv 13 (by decide)
     have h14:val 14=.int .i64 ((k:Int)+2):=hv 14 (by decide)
     have h15:val 15=.agg #[.int .i64 1,.int .i64 ((k:Int)+2),.string ⟨#[]⟩,.slice none 0 0]:=hv 15 (by decide)
     obtain ⟨g16,h16⟩:∃g,val 16=.slice (some ⟨g,0,none⟩) 1 1:=hv 16 (by decide)
     obtain ⟨gg17,h17⟩:∃g,val 17=.agg #[.int .i64 3,.int .i64 0,.string ⟨#[115,121,110,116,97,120,95,101,114,114,111,114]⟩,.slice (some ⟨g,0,none⟩) 1 1]:=hv 17 (by decide)
     have h18:val 18=.bool true:=hv 18 (by decide)
     have h19:val 19=.bool false:=hv 19 (by decide)
     have h20:val 20=.bool false:=hv 20 (by decide)
     refine hK7 _ _ ?_
     simp only [fillD,List.set_cons_zero,List.set_cons_succ,Nat.reduceAdd,Nat.zero_add,h0,h1,h2,h3,h4,h5,h6,h7,h8,h9,h10,h11,h12,h13,h14,h15,h16,h17,h18,h19,h20]
     have HBY:=zq (HB_36.out.trans (HF.bel.mono HB_36.out.size))
     clear hv HF hK7 h0 h1 h2 h3 h4 h5 h6 h7 h8 h9 h10 h11 h12 h13 h14 h15 h16 h17 h18 h19 h20 HB_36
     go_wp2_with fail
     go_meet
     exact ⟨rfl,HBY⟩
 case rest=>
  obtain ⟨rfl,HB7⟩:=hcut
  clear HB_36
  obtain ⟨y7,HY7⟩:=lz (wc)
  rw [←HY7.out] at HB7 ⊢
  clear HY7
  by_cases hbad:((48≤c.toNat∧c.toNat≤57)∨c.toNat=120∨c.toNat=111∨c.toNat=98∨c.toNat=39)
  ·rcases hbad with ⟨h1,h2⟩ | h | h | h | h
   ·have e1:(48:Int)≤(c.toNat:Int):=by omega
    have e2:(c.toNat:Int)≤57:=by omega
    clear h1 h2
    go_wp2_with fail
    refine (HAW.out _ HB7.out).mono ?_;rintro e wz ⟨rfl,hB⟩
    have HBZ:=bz HB7 hB
    clear hB HB7
    go_wp2_with fail
    go_ret
    exact ⟨rfl,HBZ.out⟩
   ·have e1:(c.toNat:Int)=120:=by omega
    clear h
    go_wp2_with fail
    refine (HAW.out _ HB7.out).mono ?_;rintro e wz ⟨rfl,hB⟩
    have HBZ:=bz HB7 hB
    clear hB HB7
    go_wp2_with fail
    go_ret
    exact ⟨rfl,HBZ.out⟩
   ·have e1:(c.toNat:Int)=111:=by omega
    clear h
    go_wp2_with fail
    refine (HAW.out _ HB7.out).mono ?_;rintro e wz ⟨rfl,hB⟩
    have HBZ:=bz HB7 hB
    clear hB HB7
    go_wp2_with fail
    go_ret
    exact ⟨rfl,HBZ.out⟩
   ·have e1:(c.toNat:Int)=98:=by omega
    clear h
    go_wp2_with fail
    refine (HAW.out _ HB7.out).mono ?_;rintro e wz ⟨rfl,hB⟩
    have HBZ:=bz HB7 hB
    clear hB HB7
    go_wp2_with fail
    go_ret
    exact ⟨rfl,HBZ.out⟩
   ·have e1:(c.toNat:Int)=39:=by omega
    clear h
    go_wp2_with fail
    refine (HAW.out _ HB7.out).mono ?_;rintro e wz ⟨rfl,hB⟩
    have HBZ:=bz HB7 hB
    clear hB HB7
    go_wp2_with fail
    go_ret
    exact ⟨rfl,HBZ.out⟩
  ·have hn1:((c.toNat:Int)==120)=false:=by simp;omega
   have hn2:((c.toNat:Int)==111)=false:=by simp;omega
   have hn3:((c.toNat:Int)==98)=false:=by simp;omega
   have hn4:((c.toNat:Int)==39)=false:=by simp;omega
   have HBAD:=zq hbad
   clear hbad
   go_upto_region 9 with fail
   go_cut [92] from 71 to 91 (fun v wc=>v=.bool false∧wc=y7)
   case first=>
    by_cases e1:(48:Int)≤(c.toNat:Int)
    ·have e2:¬(c.toNat:Int)≤57:=fun h=>HBAD.out (.inl (by omega))
     go_wp2_with fail
     go_meet
     exact ⟨rfl,rfl⟩
    ·go_wp2_with fail
     go_meet
     exact ⟨rfl,rfl⟩
   case rest=>
    obtain ⟨rfl,rfl⟩:=hcut
    have hbad:=HBAD.out
    obtain ⟨T4,hT4⟩:∃t,T1++(⟨#[c]⟩:ByteArray)=t:=⟨_,rfl⟩
    have hT4s:T4.size≤900:=by
     have h1:(⟨#[c]⟩:ByteArray).size=1:=rfl
     rw [←hT4,ByteArray.size_append,h1];omega
    have HT4:Hid (T4.data.toList=List.replicate k 32++(Lib.itoa m++[c])):=zq (by rw [←hT4,app_list,HT1.out,List.append_assoc])
    have HND:Hid (NoDec [c]):=zq (noDec_cons c [] (fun h=>hbad (.inl h)) (fun h=>hbad (.inr (.inr (.inr (.inr h))))) (fun h=>hbad (.inr (.inl h))) (fun h=>hbad (.inr (.inr (.inl h)))) (fun h=>hbad (.inr (.inr (.inr (.inl h))))))
    have hvn:IntKind.i64.wrap ((k:Int)+(F.size:Int))=(k:Int)+(F.size:Int):=IntWalk.i64_in _ (by omega)
    obtain ⟨R118,HRE118⟩:=lz (textT true T4.data.toList)
    have HTX118:Hid (∀X,Calls Tryz.prog 20 #[.string T4] X fun e w'=>∃qa qc,e=.returned (.agg #[.int .i64 R118.kind,.int .i64 R118.num,.string R118.name,.slice qa R118.args.length qc])∧Below X.heap.size X w'∧NewT X w' qa R118.args):=zq fun X=>by
     rw [HRE118.out]
     exact l_codes T4 X hT4s
    clear hn1 hn2 hn3 hn4 hbad HBAD
    go_wp2_with fail
    rename_i K9 hK9
    refine region_own (w0:=wc) [rVal [] [0] (fun | [v]=>v=.agg #[.int .i64 0,.int .i64 0,.string ⟨#[]⟩,.slice none 0 0] | _=>False),
      rPure [] [1] (fun | [v]=>v=.string B | _=>False),
      rPure [] [2] (fun | [v]=>v=.string F | _=>False),
      rPure [1,2] [3] (fun | [v]=>v=.string T1 | _=>False),
      rPure [] [4] (fun | [v]=>v=.int .u8 (c.toNat:Int) | _=>False),
      rBytes [4] 5 1 [.int .u8 (c.toNat:Int)],
      rVal [4,5] [6] (fun | [v]=>v=.string ⟨#[c]⟩ | _=>False),
      rPure [1,2,3,4,5,6] [7] (fun | [v]=>v=.string T4 | _=>False),
      rTx (List.range 8) 8 R118,
      rRow (List.range 9) 9 2 [varT 0,R118],
      rGoal (List.range 10) 10 ⟨#[110,117,109,98,101,114,95,99,111,100,101,115]⟩ 2 [varT 0,R118],
      rPure [] [11] (fun | [v]=>v=.string B | _=>False),
      rPure [11] [12] (fun | [v]=>v=.int .i64 (k:Int) | _=>False),
      rPure [] [13] (fun | [v]=>v=.string F | _=>False),
      rPure [13] [14] (fun | [v]=>v=.int .i64 (F.size:Int) | _=>False),
      rPure [11,12,13,14] [15] (fun | [v]=>v=.int .i64 ((k:Int)+(F.size:Int)) | _=>False),
      rVal (List.range 16) [16] (fun | [v]=>v=.agg #[.int .i64 1,.int .i64 ((k:Int)+(F.size:Int)),.string ⟨#[]⟩,.slice none 0 0] | _=>False),
      rRow (List.range 17) 17 1 [intT ((k:Int)+(F.size:Int))],
      rGoal (List.range 18) 18 ⟨#[115,121,110,116,97,120,95,101,114,114,111,114]⟩ 1 [intT ((k:Int)+(F.size:Int))],
      rVal (List.range 19) [19] (fun | [v]=>v=.bool true | _=>False),
      rPure (List.range 20) [20] (fun | [v]=>v=.bool true | _=>False),
      rVal (List.range 21) [21] (fun | [v]=>v=.bool true | _=>False),
      rPure (List.range 22) [22] (fun | [v]=>v=.bool true | _=>False),
      rPure (List.range 23) [23] (fun | [v]=>v=.bool true | _=>False)]
      [some 94,some 95,some 96,some 97,some 98,some 99,some 100,some 101,some 102,some 103,some 104,some 105,some 106,some 107,some 108,some 109,some 110,some 111,some 112,some 113,some 114,some 115,some 116,some 6] (fun _=>True) (wc.heap.size) (by kernel_rfl) (Nat.le_refl _) (by kernel_rfl) (by kernel_rfl) (by kernel_rfl) (fun j o ho=>?srv11) (fun val Y N hv HF=>?fin11)
    case srv11=>
      have hlt:j<24:=(Array.getElem?_eq_some_iff.1 ho).1
      rcases (show j=0∨j=1∨j=2∨j=3∨j=4∨j=5∨j=6∨j=7∨j=8∨j=9∨j=10∨j=11∨j=12∨j=13∨j=14∨j=15∨j=16∨j=17∨j=18∨j=19∨j=20∨j=21∨j=22∨j=23 by omega) with rfl | rfl | rfl | rfl | rfl | rfl | rfl | rfl | rfl | rfl | rfl | rfl | rfl | rfl | rfl | rfl | rfl | rfl | rfl | rfl | rfl | rfl | rfl | rfl
      ·cases ho
       refine srv_calV rfl rfl (fun _ _ _=>trivial) (fun val E X hE hB hA=>?_)
       exact ⟨_,_,_,by simp [execOp,go_sem,hE.c,hE.f] <;> rfl,HLX.out 0 X,rfl⟩
      ·cases ho
       refine srv_pure rfl rfl (fun val E hE hA=>?_)
       have e8:=hE.t 8 (.string B) rfl
       exact ⟨.string B,fun X=>by simp [execOp,go_sem,e8],rfl⟩
      ·cases ho
       refine srv_pure rfl rfl (fun val E hE hA=>?_)
       have e7:=hE.t 7 (.string F) rfl
       exact ⟨.string F,fun X=>by simp [execOp,go_sem,e7],rfl⟩
      ·cases ho
       refine srv_pure rfl rfl (fun val E hE hA=>?_)
       have e95:=hE.t 95 (val 1) rfl
       have h1:val 1=.string B:=hA 1 (oz rfl)
       have e96:=hE.t 96 (val 2) rfl
       have h2:val 2=.string F:=hA 2 (oz rfl)
       exact ⟨.string T1,fun X=>by simp [execOp,go_sem,e95,h1,e96,h2,hBF,hT1],rfl⟩
      ·cases ho
       refine srv_pure rfl rfl (fun val E hE hA=>?_)
       have e2:=hE.t 2 (.int .u8 (c.toNat:Int)) rfl
       exact ⟨.int .u8 (c.toNat:Int),fun X=>by simp [execOp,go_sem,e2],rfl⟩
      ·cases ho
       refine srv_mk rfl rfl fun val E X N hE hC hA hc=>?_
       have e98:=hE.t 98 (val 4) rfl
       have h4:val 4=.int .u8 (c.toNat:Int):=hA 4 (oz rfl)
       exact ⟨.slice (some ⟨X.heap.size,0,none⟩) 1 1,X.alloc (.cells #[.int .u8 (c.toNat:Int)] 5),by simp [execOp,go_sem,e98,h4],(Below.refl _ _).alloc (Nat.le_refl _) _,⟨_,rfl⟩,fun N' h1 h2=>⟨_,rfl,h2 _ (Nat.le_refl _) (by simp),Bk.new X [.int .u8 (c.toNat:Int)] 5⟩⟩
      ·cases ho
       refine srv_mk rfl rfl fun val E X N hE hC hA hc=>?_
       obtain ⟨g,h5,hg,hk⟩:∃g,val 5=.slice (some ⟨g,0,none⟩) 1 1∧N g∧Bk X g [.int .u8 (c.toNat:Int)]:=hc 5 (oz rfl) rfl
       have e99:=hE.t 99 (val 5) rfl
       have hcv:=conv_bkb (P:=Tryz.prog) (X:=X) 44 9 5 Tryz.underlying44 Tryz.underlying5 Tryz.underlying9 c hk
       exact ⟨.string ⟨#[c]⟩,X,by simp [execOp,go_sem,e99,h5,hcv],Below.refl _ _,rfl,fun _ _ _=>trivial⟩
      ·cases ho
       refine srv_pure rfl rfl (fun val E hE hA=>?_)
       have e97:=hE.t 97 (val 3) rfl
       have h3:val 3=.string T1:=hA 3 (oz rfl)
       have e100:=hE.t 100 (val 6) rfl
       have h6:val 6=.string ⟨#[c]⟩:=hA 6 (oz rfl)
       exact ⟨.string T4,fun X=>by simp [execOp,go_sem,e97,h3,e100,h6,hT16,hT4],rfl⟩
      ·cases ho
       refine srv_cal rfl rfl fun val E X N hE hC hA hc=>?_
       have e101:=hE.t 101 (val 7) rfl
       have h7:val 7=.string T4:=hA 7 (oz rfl)
       exact ⟨_,_,by simp [execOp,go_sem,hE.f,e101,h7] <;> rfl,(HTX118.out X).mono fun e w' h=>by
        obtain ⟨a,c,he,hB,hN⟩:=h
        exact ⟨_,he,hB,⟨a,c,rfl⟩,fun N' _ h2=>⟨a,c,rfl,hN.keep (fun _ _=>rfl) fun b hb=>h2 b hb.1 hb.2⟩⟩⟩
      ·cases ho
       refine srv_mk rfl rfl fun val E X N hE hC hA hc=>?_
       have e94:=hE.t 94 (val 0) rfl
       have h0:val 0=.agg #[.int .i64 0,.int .i64 0,.string ⟨#[]⟩,.slice none 0 0]:=hA 0 (oz rfl)
       have e102:=hE.t 102 (val 8) rfl
       obtain ⟨a8,c8,h8,ht8⟩:∃a8 c8,val 8=.agg #[.int .i64 R118.kind,.int .i64 R118.num,.string R118.name,.slice a8 R118.args.length c8]∧TmsK N X a8 R118.args:=hc 8 (oz rfl) rfl
       exact ⟨.slice (some ⟨X.heap.size,0,none⟩) 2 2,X.alloc (.cells #[.int .i64 0,.int .i64 0,.string ⟨#[]⟩,.slice none 0 0,.int .i64 R118.kind,.int .i64 R118.num,.string R118.name,.slice a8 R118.args.length c8] 32),by simp [execOp,go_sem,e94,h0,e102,h8],(Below.refl _ _).alloc (Nat.le_refl _) _,⟨_,rfl⟩,fun N' h1 h2=>⟨_,rfl,TmsK.rows (K:=N') (w:=X) (rs:=[(varT 0,none,0),(R118,a8,c8)]) (e:=32) (h2 _ (Nat.le_refl _) (by simp)) (by simp [maxLen]) (fun x hx=>by
        simp only [List.mem_cons,List.mem_nil_iff,or_false] at hx
        rcases hx with rfl | rfl
        ·exact TmsK.nil
        ·exact row_stab ht8 (fun b hb=>((Below.refl X.heap.size X).alloc (Nat.le_refl _) _).block b (hC.lt b hb)) h1)⟩⟩
      ·cases ho
       refine srv_cal rfl rfl fun val E X N hE hC hA hc=>?_
       obtain ⟨g9,h9,ht9⟩:∃g,val 9=.slice (some ⟨g,0,none⟩) 2 2∧TmsK N X (some ⟨g,0,none⟩) [varT 0,R118]:=hc 9 (oz rfl) rfl
       have e103:=hE.t 103 (val 9) rfl
       exact ⟨_,_,by simp [execOp,go_sem,hE.c,hE.f,e103,h9] <;> rfl,(HLF.out ⟨#[110,117,109,98,101,114,95,99,111,100,101,115]⟩ _ _ _ X).mono fun e w' h=>⟨_,h.1,h.2,⟨g9,rfl⟩,fun N' h1 _=>⟨g9,rfl,row_stab ht9 (fun b hb=>h.2.block b (hC.lt b hb)) h1⟩⟩⟩
      ·cases ho
       refine srv_pure rfl rfl (fun val E hE hA=>?_)
       have e8:=hE.t 8 (.string B) rfl
       exact ⟨.string B,fun X=>by simp [execOp,go_sem,e8],rfl⟩
      ·cases ho
       refine srv_pure rfl rfl (fun val E hE hA=>?_)
       have e105:=hE.t 105 (val 11) rfl
       have h11:val 11=.string B:=hA 11 (oz rfl)
       exact ⟨.int .i64 (k:Int),fun X=>by simp [execOp,go_sem,e105,h11,hBk],rfl⟩
      ·cases ho
       refine srv_pure rfl rfl (fun val E hE hA=>?_)
       have e7:=hE.t 7 (.string F) rfl
       exact ⟨.string F,fun X=>by simp [execOp,go_sem,e7],rfl⟩
      ·cases ho
       refine srv_pure rfl rfl (fun val E hE hA=>?_)
       have e107:=hE.t 107 (val 13) rfl
       have h13:val 13=.string F:=hA 13 (oz rfl)
       exact ⟨.int .i64 (F.size:Int),fun X=>by simp [execOp,go_sem,e107,h13],rfl⟩
      ·cases ho
       refine srv_pure rfl rfl (fun val E hE hA=>?_)
       have e106:=hE.t 106 (val 12) rfl
       have h12:val 12=.int .i64 (k:Int):=hA 12 (oz rfl)
       have e108:=hE.t 108 (val 14) rfl
       have h14:val 14=.int .i64 (F.size:Int):=hA 14 (oz rfl)
       exact ⟨.int .i64 ((k:Int)+(F.size:Int)),fun X=>by simp [execOp,go_sem,e106,h12,e108,h14,hvn],rfl⟩
      ·cases ho
       refine srv_calV rfl rfl (fun _ _ _=>trivial) (fun val E X hE hB hA=>?_)
       have e109:=hE.t 109 (val 15) rfl
       have h15:val 15=.int .i64 ((k:Int)+(F.size:Int)):=hA 15 (oz rfl)
       exact ⟨_,_,_,by simp [execOp,go_sem,hE.f,e109,h15] <;> rfl,HLN.out ((k:Int)+(F.size:Int)) X,rfl⟩
      ·cases ho
       refine srv_mk rfl rfl fun val E X N hE hC hA hc=>?_
       have e110:=hE.t 110 (val 16) rfl
       have h16:val 16=.agg #[.int .i64 1,.int .i64 ((k:Int)+(F.size:Int)),.string ⟨#[]⟩,.slice none 0 0]:=hA 16 (oz rfl)
       exact ⟨.slice (some ⟨X.heap.size,0,none⟩) 1 1,X.alloc (.cells #[.int .i64 1,.int .i64 ((k:Int)+(F.size:Int)),.string ⟨#[]⟩,.slice none 0 0] 32),by simp [execOp,go_sem,e110,h16],(Below.refl _ _).alloc (Nat.le_refl _) _,⟨_,rfl⟩,fun N' h1 h2=>⟨_,rfl,TmsK.rows (K:=N') (w:=X) (rs:=[(intT ((k:Int)+(F.size:Int)),none,0)]) (e:=32) (h2 _ (Nat.le_refl _) (by simp)) (by simp [maxLen]) (fun x hx=>by
        simp only [List.mem_cons,List.mem_nil_iff,or_false] at hx
        rcases hx with rfl
        ·exact TmsK.nil)⟩⟩
      ·cases ho
       refine srv_cal rfl rfl fun val E X N hE hC hA hc=>?_
       obtain ⟨g17,h17,ht17⟩:∃g,val 17=.slice (some ⟨g,0,none⟩) 1 1∧TmsK N X (some ⟨g,0,none⟩) [intT ((k:Int)+(F.size:Int))]:=hc 17 (oz rfl) rfl
       have e111:=hE.t 111 (val 17) rfl
       exact ⟨_,_,by simp [execOp,go_sem,hE.c,hE.f,e111,h17] <;> rfl,(HLF.out ⟨#[115,121,110,116,97,120,95,101,114,114,111,114]⟩ _ _ _ X).mono fun e w' h=>⟨_,h.1,h.2,⟨g17,rfl⟩,fun N' h1 _=>⟨g17,rfl,row_stab ht17 (fun b hb=>h.2.block b (hC.lt b hb)) h1⟩⟩⟩
      ·cases ho
       refine srv_cal rfl rfl fun val E X N hE hC hA hc=>?_
       obtain ⟨g10,h10,ht10⟩:∃g,val 10=.agg #[.int .i64 3,.int .i64 0,.string ⟨#[110,117,109,98,101,114,95,99,111,100,101,115]⟩,.slice (some ⟨g,0,none⟩) 2 2]∧TmsK N X (some ⟨g,0,none⟩) [varT 0,R118]:=hc 10 (oz rfl) rfl
       have e104:=hE.t 104 (val 10) rfl
       obtain ⟨g18,h18,ht18⟩:∃g,val 18=.agg #[.int .i64 3,.int .i64 0,.string ⟨#[115,121,110,116,97,120,95,101,114,114,111,114]⟩,.slice (some ⟨g,0,none⟩) 1 1]∧TmsK N X (some ⟨g,0,none⟩) [intT ((k:Int)+(F.size:Int))]:=hc 18 (oz rfl) rfl
       have e112:=hE.t 112 (val 18) rfl
       have h:=l_raises (strT ⟨#[110,117,109,98,101,114,95,99,111,100,101,115]⟩ [varT 0,R118]) (strT ⟨#[115,121,110,116,97,120,95,101,114,114,111,114]⟩ [intT ((k:Int)+(F.size:Int))]) (some ⟨g10,0,none⟩) 2 (some ⟨g18,0,none⟩) 1 X (HDO.out.below (HB7.out.trans (hC.bel.mono HB7.out.size))) (i64_of ⟨⟨by decide,by decide⟩,(by rw [HRE118.out];exact i64_text _ _),trivial⟩) (Nat.le_refl _) (TmsK.at' ht10) (TmsK.at' ht18) (by rw [HRE118.out];exact (dg_raises m HIM.out k (Nat.le_of_lt HK5.out) c HND.out T4 HT4.out _ HFS.out).2)
       rw [show raisesB (strT ⟨#[110,117,109,98,101,114,95,99,111,100,101,115]⟩ [varT 0,R118]) (strT ⟨#[115,121,110,116,97,120,95,101,114,114,111,114]⟩ [intT ((k:Int)+(F.size:Int))])=true from by rw [HRE118.out];exact (dg_raises m HIM.out k (Nat.le_of_lt HK5.out) c HND.out T4 HT4.out _ HFS.out).1] at h
       exact ⟨_,_,by simp [execOp,go_sem,hE.f,e104,h10,e112,h18] <;> first | rfl | exact ⟨rfl,rfl⟩,h.mono fun e w' h=>⟨_,h.1,h.2,rfl,fun _ _ _=>trivial⟩⟩
      ·cases ho
       refine srv_pure rfl rfl (fun val E hE hA=>?_)
       have e113:=hE.t 113 (val 19) rfl
       have h19:val 19=.bool true:=hA 19 (oz rfl)
       exact ⟨.bool true,fun X=>by simp [execOp,go_sem,e113,h19],rfl⟩
      ·cases ho
       refine srv_calVG (true) rfl rfl (fun _ _ _=>trivial) (fun val hA=>hA 20 (oz rfl)) (fun _ val E X hE hB hA=>?_) (fun h=>absurd rfl h)
       exact ⟨_,_,_,by simp [execOp,go_sem,hE.f] <;> rfl,HAW.out X (HB7.out.trans (hB.mono HB7.out.size)),rfl⟩
      ·cases ho
       refine srv_pure rfl rfl (fun val E hE hA=>?_)
       have e114:=hE.t 114 (val 20) rfl
       have h20:val 20=.bool true:=hA 20 (oz rfl)
       have e115:=hE.t 115 (val 21) rfl
       have h21:val 21=.bool true:=hA 21 (oz rfl)
       exact ⟨.bool true,fun X=>by simp [execOp,go_sem,hE.c,e114,h20,e115,h21],rfl⟩
      ·cases ho
       refine srv_pure rfl rfl (fun val E hE hA=>?_)
       have e116:=hE.t 116 (val 22) rfl
       have h22:val 22=.bool true:=hA 22 (oz rfl)
       exact ⟨.bool true,fun X=>by simp [execOp,go_sem,e116,h22],rfl⟩
    case fin11=>
      have h0:val 0=.agg #[.int .i64 0,.int .i64 0,.string ⟨#[]⟩,.slice none 0 0]:=hv 0 (by decide)
      have h1:val 1=.string B:=hv 1 (by decide)
      have h2:val 2=.string F:=hv 2 (by decide)
      have h3:val 3=.string T1:=hv 3 (by decide)
      have h4:val 4=.int .u8 (c.toNat:Int):=hv 4 (by decide)
      obtain ⟨g5,h5⟩:∃g,val 5=.slice (some ⟨g,0,none⟩) 1 1:=hv 5 (by decide)
      have h6:val 6=.string ⟨#[c]⟩:=hv 6 (by decide)
      have h7:val 7=.string T4:=hv 7 (by decide)
      obtain ⟨a8,c8,h8⟩:∃a8 c8,val 8=.agg #[.int .i64 R118.kind,.int .i64 R118.num,.string R118.name,.slice a8 R118.args.length c8]:=hv 8 (by decide)
      obtain ⟨g9,h9⟩:∃g,val 9=.slice (some ⟨g,0,none⟩) 2 2:=hv 9 (by decide)
      obtain ⟨gg10,h10⟩:∃g,val 10=.agg #[.int .i64 3,.int .i64 0,.string ⟨#[110,117,109,98,101,114,95,99,111,100,101,115]⟩,.slice (some ⟨g,0,none⟩) 2 2]:=hv 10 (by decide)
      have h11:val 11=.string B:=hv 11 (by decide)
      have h12:val 12=.int .i64 (k:Int):=hv 12 (by decide)
      have h13:val 13=.string F:=hv 13 (by decide)
      have h14:val 14=.int .i64 (F.size:Int):=hv 14 (by decide)
      have h15:val 15=.int .i64 ((k:Int)+(F.size:Int)):=hv 15 (by decide)
      have h16:val 16=.agg #[.int .i64 1,.int .i64 ((k:Int)+(F.size:Int)),.string ⟨#[]⟩,.slice none 0 0]:=hv 16 (by decide)
      obtain ⟨g17,h17⟩:∃g,val 17=.slice (some ⟨g,0,none⟩) 1 1:=hv 17 (by decide)
      obtain ⟨gg18,h18⟩:∃g,val 18=.agg #[.int .i64 3,.int .i64 0,.string ⟨#[115,121,110,116,97,120,95,101,114,114,111,114]⟩,.slice (some ⟨g,0,none⟩) 1 1]:=hv 18 (by decide)
      have h19:val 19=.bool true:=hv 19 (by decide)
      have h20:val 20=.bool true:=hv 20 (by decide)
      have h21:val 21=.bool true:=hv 21 (by decide)
      have h22:val 22=.bool true:=hv 22 (by decide)
      have h23:val 23=.bool true:=hv 23 (by decide)
      refine hK9 _ _ ?_
      simp only [fillD,List.set_cons_zero,List.set_cons_succ,Nat.reduceAdd,Nat.zero_add,h0,h1,h2,h3,h4,h5,h6,h7,h8,h9,h10,h11,h12,h13,h14,h15,h16,h17,h18,h19,h20,h21,h22,h23]
      have HBZ:=zq (HB7.out.trans (HF.bel.mono HB7.out.size))
      clear hv HF hK9 h0 h1 h2 h3 h4 h5 h6 h7 h8 h9 h10 h11 h12 h13 h14 h15 h16 h17 h18 h19 h20 h21 h22 h23 HB7
      go_wp2_with fail
      go_ret
      exact ⟨rfl,HBZ.out⟩
theorem law_digitsL (m i j:Int) (hm:(Lit.int .i64 m).wf=true) (hi:(Lit.int .u8 i).wf=true) (hj:(Lit.int .u8 j).wf=true) (w:World) (hD:DoorOk w):Calls Tryz.prog 9 #[.int .i64 m,.int .u8 i,.int .u8 j] w fun e w'=>e=.returned (.bool true)∧Below w.heap.size w w':=by
 obtain ⟨b,rfl⟩:=wfB hi
 obtain ⟨c,rfl⟩:=wfB hj
 exact law_digits m b c (wfI hm) w hD
end Go.Proofs.YtpokpgkjaifccaaGreatDoorRR
