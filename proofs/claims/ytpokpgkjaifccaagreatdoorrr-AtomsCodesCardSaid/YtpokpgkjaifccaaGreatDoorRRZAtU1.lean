/- Atoms: the law AtomsCodes. -/
import Derived.Test.YtpokpgkjaifccaaGreatDoorRRH01
import Derived.Test.YtpokpgkjaifccaaGreatDoorRRH30
import Derived.Test.YtpokpgkjaifccaaGreatDoorRRZAtU0
import Derived.Test.YtpokpgkjaifccaaGreatDoorRRZRv
namespace Go.Proofs.YtpokpgkjaifccaaGreatDoorRR
open Go.RowKit Hb Go.Shelf
set_option maxRecDepth 100000
theorem wf_i64 {n:Int} (h:(Lit.int .i64 n).wf=true):I64 n:=by
 unfold Lit.wf at h;rw [Bool.and_eq_true,decide_eq_true_iff,decide_eq_true_iff] at h;exact h
theorem wf_u8 {n:Int} (h:(Lit.int .u8 n).wf=true):∃b:UInt8,n=(b.toNat:Int):=by
 unfold Lit.wf at h;rw [Bool.and_eq_true,decide_eq_true_iff,decide_eq_true_iff] at h
 have h:(0:Int)≤n∧n≤255:=h
 refine ⟨n.toNat.toUInt8,?_⟩
 have e:n.toNat.toUInt8.toNat=n.toNat % 256:=rfl
 rw [e]
 omega
theorem i64_u8 (b:UInt8):I64 (b.toNat:Int):=by
 have:=b.toNat_lt
 constructor <;> omega
set_option maxHeartbeats 3200000 in
theorem law_codes (b:UInt8) (m:Int) (hm:I64 m) (w:World) (hD:DoorOk w):Calls Tryz.prog 8 #[.int .u8 (b.toNat:Int),.int .i64 m] w fun e w'=>e=.returned (.bool true)∧Below w.heap.size w w':=by
 have HDO:=zq hD
 have HIM:=zq hm
 have HLA:=zq (fun s W=>l_a s W)
 have HLX:=zq (fun n W=>l_x n W)
 have HLN:=zq (fun n W=>l_n n W)
 have HLF:=zq (fun s A n c W=>l_f s A n c W)
 have HAW:=zq (fun W (h:Below w.heap.size w W)=>l_awake W (hD.below h))
 have HBA:=zq ((Below.refl w.heap.size w).alloc (Nat.le_refl _) (.cells #[.int .u8 (b.toNat:Int)] 5))
 have hb0:(0:Int)≤(b.toNat:Int):=by omega
 have hb1:(b.toNat:Int)≤255:=by have:=b.toNat_lt;omega
 have hcv:∀W:World,(convert 44 9 (.slice (some ⟨W.heap.size,0,none⟩) 1 1)).run Tryz.prog (W.alloc (.cells #[.int .u8 (b.toNat:Int)] 5))=.ok (.string ⟨#[b]⟩) (W.alloc (.cells #[.int .u8 (b.toNat:Int)] 5)):=fun W=>by
  have h:=conv_new1 (P:=Tryz.prog) 44 9 5 Tryz.underlying44 Tryz.underlying5 Tryz.underlying9 (b.toNat:Int) hb0 hb1 W
  rw [u8_back] at h
  exact h
 have hwi:IntKind.i64.wrap (b.toNat:Int)=(b.toNat:Int):=IntWalk.i64_in _ (by omega)
 clear hD hm hb0 hb1
 go_enter Tryz.func8,Tryz.ntmps8
 go_wp2_with fail
 refine (HLA.out (⟨#[b]⟩) _).mono ?_;rintro e w1 ⟨rfl,hB⟩
 have HB_2:=bz HBA hB
 clear hB HBA
 go_wp2_with fail
 refine (HLX.out (0) _).mono ?_;rintro e w3 ⟨rfl,hB⟩
 have HB_4:=bz HB_2 hB
 clear hB HB_2
 obtain ⟨y5,HY5⟩:=lz (w3.alloc (.cells #[.int .i64 2,.int .i64 0,.string ⟨#[b]⟩,.slice none 0 0,.int .i64 0,.int .i64 0,.string ⟨#[]⟩,.slice none 0 0] 32))
 have hB:Below w3.heap.size w3 y5:=by rw [HY5.out];exact (Below.refl _ _).alloc (Nat.le_refl _) _
 have HRN12:Hid (TmsAt y5.heap.size y5 (some ⟨w3.heap.size,0,none⟩) [(atomT (⟨#[b]⟩)),(varT (0))]):=zq (by
  rw [HY5.out]
  exact row_new w3 [((atomT (⟨#[b]⟩)),none,0),((varT (0)),none,0)] 32 (by simp [maxLen]) (fun r hr=>by
   simp only [List.mem_cons,List.mem_nil_iff,or_false] at hr
   rcases hr with rfl | rfl
   ·exact TmsK.nil
   ·exact TmsK.nil))
 have HB_6:=bz HB_4 hB
 clear hB HB_4
 go_wp2_with fail
 rw [←HY5.out]
 clear HY5
 refine (HLF.out ⟨#[99,104,97,114,95,99,111,100,101]⟩ _ _ _ _).mono ?_;rintro e w7 ⟨rfl,hB⟩
 have HB_8:=bz HB_6 hB
 have HR12_8:=zq ((HRN12.out.keep hB).mono hB.size)
 clear hB HB_6 HRN12
 go_wp2_with fail
 refine (HLA.out (⟨#[b]⟩) _).mono ?_;rintro e w9 ⟨rfl,hB⟩
 have HB_10:=bz HB_8 hB
 have HR12_10:=zq ((HR12_8.out.keep hB).mono hB.size)
 clear hB HB_8 HR12_8
 go_wp2_with fail
 refine (HLN.out ((b.toNat:Int)) _).mono ?_;rintro e w11 ⟨rfl,hB⟩
 have HB_12:=bz HB_10 hB
 have HR12_12:=zq ((HR12_10.out.keep hB).mono hB.size)
 clear hB HB_10 HR12_10
 obtain ⟨y13,HY13⟩:=lz (w11.alloc (.cells #[.int .i64 2,.int .i64 0,.string ⟨#[b]⟩,.slice none 0 0,.int .i64 1,.int .i64 ((b.toNat:Int)),.string ⟨#[]⟩,.slice none 0 0] 32))
 have hB:Below w11.heap.size w11 y13:=by rw [HY13.out];exact (Below.refl _ _).alloc (Nat.le_refl _) _
 have HRN19:Hid (TmsAt y13.heap.size y13 (some ⟨w11.heap.size,0,none⟩) [(atomT (⟨#[b]⟩)),(intT ((b.toNat:Int)))]):=zq (by
  rw [HY13.out]
  exact row_new w11 [((atomT (⟨#[b]⟩)),none,0),((intT ((b.toNat:Int))),none,0)] 32 (by simp [maxLen]) (fun r hr=>by
   simp only [List.mem_cons,List.mem_nil_iff,or_false] at hr
   rcases hr with rfl | rfl
   ·exact TmsK.nil
   ·exact TmsK.nil))
 have HB_14:=bz HB_12 hB
 have HR12_14:=zq ((HR12_12.out.keep hB).mono hB.size)
 clear hB HB_12 HR12_12
 go_wp2_with fail
 rw [←HY13.out]
 clear HY13
 refine (HLF.out ⟨#[99,104,97,114,95,99,111,100,101]⟩ _ _ _ _).mono ?_;rintro e w15 ⟨rfl,hB⟩
 have HB_16:=bz HB_14 hB
 have HR12_16:=zq ((HR12_14.out.keep hB).mono hB.size)
 have HR19_16:=zq ((HRN19.out.keep hB).mono hB.size)
 clear hB HB_14 HR12_14 HRN19
 obtain ⟨y17,HY17⟩:=lz (w15.alloc (.cells #[.int .i64 3,.int .i64 0,.string ⟨#[99,104,97,114,95,99,111,100,101]⟩,.slice (some ⟨w11.heap.size,0,none⟩) 2 2] 32))
 have hB:Below w15.heap.size w15 y17:=by rw [HY17.out];exact (Below.refl _ _).alloc (Nat.le_refl _) _
 have HRN21:Hid (TmsAt y17.heap.size y17 (some ⟨w15.heap.size,0,none⟩) [(strT ⟨#[99,104,97,114,95,99,111,100,101]⟩ [(atomT (⟨#[b]⟩)),(intT ((b.toNat:Int)))])]):=zq (by
  rw [HY17.out]
  exact row_new w15 [((strT ⟨#[99,104,97,114,95,99,111,100,101]⟩ [(atomT (⟨#[b]⟩)),(intT ((b.toNat:Int)))]),(some ⟨w11.heap.size,0,none⟩),2)] 32 (by simp [maxLen]) (fun r hr=>by
   simp only [List.mem_cons,List.mem_nil_iff,or_false] at hr
   rcases hr with rfl
   ·exact HR19_16.out))
 have HB_18:=bz HB_16 hB
 have HR12_18:=zq ((HR12_16.out.keep hB).mono hB.size)
 clear hB HB_16 HR12_16 HR19_16
 go_wp2_with fail
 rw [←HY17.out]
 clear HY17
 have HG19:Hid (Calls Tryz.prog 15 #[.agg #[.int .i64 3,.int .i64 0,.string ⟨#[99,104,97,114,95,99,111,100,101]⟩,.slice (some ⟨w3.heap.size,0,none⟩) 2 2],.slice (some ⟨w15.heap.size,0,none⟩) 1 1] y17 fun e w'=>e=.returned (.bool true)∧Below y17.heap.size y17 w'):=zq (by
  have h:=l_gives (strT ⟨#[99,104,97,114,95,99,111,100,101]⟩ [(atomT (⟨#[b]⟩)),(varT (0))]) (some ⟨w3.heap.size,0,none⟩) 2 [(strT ⟨#[99,104,97,114,95,99,111,100,101]⟩ [(atomT (⟨#[b]⟩)),(intT ((b.toNat:Int)))])] (some ⟨w15.heap.size,0,none⟩) 1 1 y17 (HDO.out.below HB_18.out) (i64_of ⟨i64_zero,⟨by decide,by decide⟩,trivial⟩) (Nat.le_refl _) HR12_18.out rfl HRN21.out
  rw [show givesB (strT ⟨#[99,104,97,114,95,99,111,100,101]⟩ [(atomT (⟨#[b]⟩)),(varT (0))]) [(strT ⟨#[99,104,97,114,95,99,111,100,101]⟩ [(atomT (⟨#[b]⟩)),(intT ((b.toNat:Int)))])]=true by exact code1 b] at h
  exact h)
 refine HG19.out.mono ?_;rintro e w19 ⟨rfl,hB⟩
 clear HG19
 have HB_20:=bz HB_18 hB
 clear hB HB_18 HR12_18 HRN21
 go_wp2_with fail
 refine (HLX.out (0) _).mono ?_;rintro e w21 ⟨rfl,hB⟩
 have HB_22:=bz HB_20 hB
 clear hB HB_20
 go_wp2_with fail
 refine (HLN.out ((b.toNat:Int)) _).mono ?_;rintro e w23 ⟨rfl,hB⟩
 have HB_24:=bz HB_22 hB
 clear hB HB_22
 obtain ⟨y25,HY25⟩:=lz (w23.alloc (.cells #[.int .i64 0,.int .i64 0,.string ⟨#[]⟩,.slice none 0 0,.int .i64 1,.int .i64 ((b.toNat:Int)),.string ⟨#[]⟩,.slice none 0 0] 32))
 have hB:Below w23.heap.size w23 y25:=by rw [HY25.out];exact (Below.refl _ _).alloc (Nat.le_refl _) _
 have HRN29:Hid (TmsAt y25.heap.size y25 (some ⟨w23.heap.size,0,none⟩) [(varT (0)),(intT ((b.toNat:Int)))]):=zq (by
  rw [HY25.out]
  exact row_new w23 [((varT (0)),none,0),((intT ((b.toNat:Int))),none,0)] 32 (by simp [maxLen]) (fun r hr=>by
   simp only [List.mem_cons,List.mem_nil_iff,or_false] at hr
   rcases hr with rfl | rfl
   ·exact TmsK.nil
   ·exact TmsK.nil))
 have HB_26:=bz HB_24 hB
 clear hB HB_24
 go_wp2_with fail
 rw [←HY25.out]
 clear HY25
 refine (HLF.out ⟨#[99,104,97,114,95,99,111,100,101]⟩ _ _ _ _).mono ?_;rintro e w27 ⟨rfl,hB⟩
 have HB_28:=bz HB_26 hB
 have HR29_28:=zq ((HRN29.out.keep hB).mono hB.size)
 clear hB HB_26 HRN29
 go_wp2_with fail
 refine (HLA.out (⟨#[b]⟩) _).mono ?_;rintro e w29 ⟨rfl,hB⟩
 have HB_30:=bz HB_28 hB
 have HR29_30:=zq ((HR29_28.out.keep hB).mono hB.size)
 clear hB HB_28 HR29_28
 go_wp2_with fail
 refine (HLN.out ((b.toNat:Int)) _).mono ?_;rintro e w31 ⟨rfl,hB⟩
 have HB_32:=bz HB_30 hB
 have HR29_32:=zq ((HR29_30.out.keep hB).mono hB.size)
 clear hB HB_30 HR29_30
 obtain ⟨y33,HY33⟩:=lz (w31.alloc (.cells #[.int .i64 2,.int .i64 0,.string ⟨#[b]⟩,.slice none 0 0,.int .i64 1,.int .i64 ((b.toNat:Int)),.string ⟨#[]⟩,.slice none 0 0] 32))
 have hB:Below w31.heap.size w31 y33:=by rw [HY33.out];exact (Below.refl _ _).alloc (Nat.le_refl _) _
 have HRN36:Hid (TmsAt y33.heap.size y33 (some ⟨w31.heap.size,0,none⟩) [(atomT (⟨#[b]⟩)),(intT ((b.toNat:Int)))]):=zq (by
  rw [HY33.out]
  exact row_new w31 [((atomT (⟨#[b]⟩)),none,0),((intT ((b.toNat:Int))),none,0)] 32 (by simp [maxLen]) (fun r hr=>by
   simp only [List.mem_cons,List.mem_nil_iff,or_false] at hr
   rcases hr with rfl | rfl
   ·exact TmsK.nil
   ·exact TmsK.nil))
 have HB_34:=bz HB_32 hB
 have HR29_34:=zq ((HR29_32.out.keep hB).mono hB.size)
 clear hB HB_32 HR29_32
 go_wp2_with fail
 rw [←HY33.out]
 clear HY33
 refine (HLF.out ⟨#[99,104,97,114,95,99,111,100,101]⟩ _ _ _ _).mono ?_;rintro e w35 ⟨rfl,hB⟩
 have HB_36:=bz HB_34 hB
 have HR29_36:=zq ((HR29_34.out.keep hB).mono hB.size)
 have HR36_36:=zq ((HRN36.out.keep hB).mono hB.size)
 clear hB HB_34 HR29_34 HRN36
 obtain ⟨y37,HY37⟩:=lz (w35.alloc (.cells #[.int .i64 3,.int .i64 0,.string ⟨#[99,104,97,114,95,99,111,100,101]⟩,.slice (some ⟨w31.heap.size,0,none⟩) 2 2] 32))
 have hB:Below w35.heap.size w35 y37:=by rw [HY37.out];exact (Below.refl _ _).alloc (Nat.le_refl _) _
 have HRN38:Hid (TmsAt y37.heap.size y37 (some ⟨w35.heap.size,0,none⟩) [(strT ⟨#[99,104,97,114,95,99,111,100,101]⟩ [(atomT (⟨#[b]⟩)),(intT ((b.toNat:Int)))])]):=zq (by
  rw [HY37.out]
  exact row_new w35 [((strT ⟨#[99,104,97,114,95,99,111,100,101]⟩ [(atomT (⟨#[b]⟩)),(intT ((b.toNat:Int)))]),(some ⟨w31.heap.size,0,none⟩),2)] 32 (by simp [maxLen]) (fun r hr=>by
   simp only [List.mem_cons,List.mem_nil_iff,or_false] at hr
   rcases hr with rfl
   ·exact HR36_36.out))
 have HB_38:=bz HB_36 hB
 have HR29_38:=zq ((HR29_36.out.keep hB).mono hB.size)
 clear hB HB_36 HR29_36 HR36_36
 go_wp2_with fail
 rw [←HY37.out]
 clear HY37
 have HG39:Hid (Calls Tryz.prog 15 #[.agg #[.int .i64 3,.int .i64 0,.string ⟨#[99,104,97,114,95,99,111,100,101]⟩,.slice (some ⟨w23.heap.size,0,none⟩) 2 2],.slice (some ⟨w35.heap.size,0,none⟩) 1 1] y37 fun e w'=>e=.returned (.bool true)∧Below y37.heap.size y37 w'):=zq (by
  have h:=l_gives (strT ⟨#[99,104,97,114,95,99,111,100,101]⟩ [(varT (0)),(intT ((b.toNat:Int)))]) (some ⟨w23.heap.size,0,none⟩) 2 [(strT ⟨#[99,104,97,114,95,99,111,100,101]⟩ [(atomT (⟨#[b]⟩)),(intT ((b.toNat:Int)))])] (some ⟨w35.heap.size,0,none⟩) 1 1 y37 (HDO.out.below HB_38.out) (i64_of ⟨⟨by decide,by decide⟩,i64_u8 b,trivial⟩) (Nat.le_refl _) HR29_38.out rfl HRN38.out
  rw [show givesB (strT ⟨#[99,104,97,114,95,99,111,100,101]⟩ [(varT (0)),(intT ((b.toNat:Int)))]) [(strT ⟨#[99,104,97,114,95,99,111,100,101]⟩ [(atomT (⟨#[b]⟩)),(intT ((b.toNat:Int)))])]=true by exact code2b b] at h
  exact h)
 refine HG39.out.mono ?_;rintro e w39 ⟨rfl,hB⟩
 clear HG39
 have HB_40:=bz HB_38 hB
 clear hB HB_38 HR29_38 HRN38
 by_cases h0:(0:Int)≤m
 ·have h0':¬m<0:=by omega
  by_cases h1:m≤255
  ·have h1':¬255<m:=by omega
   have hw8:IntKind.u8.wrap m=m:=IntWalk.u8_in _ ⟨h0,h1⟩
   go_wp2_with fail
   rename_i K9 hK9
   refine region_own (w0:=w39) [rVal [] [0] (fun | [v]=>v=.agg #[.int .i64 0,.int .i64 0,.string ⟨#[]⟩,.slice none 0 0] | _=>False),
    rPure [] [1] (fun | [v]=>v=.int .i64 m | _=>False),
    rVal [0,1] [2] (fun | [v]=>v=.agg #[.int .i64 1,.int .i64 m,.string ⟨#[]⟩,.slice none 0 0] | _=>False),
    rRow (List.range 3) 3 2 [varT 0,intT m],
    rGoal (List.range 4) 4 ⟨#[99,104,97,114,95,99,111,100,101]⟩ 2 [varT 0,intT m],
    rPure [] [5] (fun | [v]=>v=.int .i64 m | _=>False),
    rPure [5] [6] (fun | [v]=>v=.int .u8 m | _=>False),
    rBytes [5,6] 7 1 [.int .u8 m],
    rVal [5,6,7] [8] (fun | [v]=>v=.string ⟨#[m.toNat.toUInt8]⟩ | _=>False),
    rVal (List.range 9) [9] (fun | [v]=>v=.agg #[.int .i64 2,.int .i64 0,.string ⟨#[m.toNat.toUInt8]⟩,.slice none 0 0] | _=>False),
    rPure [] [10] (fun | [v]=>v=.int .i64 m | _=>False),
    rVal (List.range 11) [11] (fun | [v]=>v=.agg #[.int .i64 1,.int .i64 m,.string ⟨#[]⟩,.slice none 0 0] | _=>False),
    rRow (List.range 12) 12 2 [atomT ⟨#[m.toNat.toUInt8]⟩,intT m],
    rGoal (List.range 13) 13 ⟨#[99,104,97,114,95,99,111,100,101]⟩ 2 [atomT ⟨#[m.toNat.toUInt8]⟩,intT m],
    rRow (List.range 14) 14 1 [strT ⟨#[99,104,97,114,95,99,111,100,101]⟩ [atomT ⟨#[m.toNat.toUInt8]⟩,intT m]],
    rVal (List.range 15) [15] (fun | [v]=>v=.bool true | _=>False),
    rPure (List.range 16) [16] (fun | [v]=>v=.bool true | _=>False),
    rVal (List.range 17) [17] (fun | [v]=>v=.bool true | _=>False),
    rPure (List.range 18) [18] (fun | [v]=>v=.bool true | _=>False),
    rPure (List.range 19) [19] (fun | [v]=>v=.bool true | _=>False)]
    [some 48,some 49,some 50,some 51,some 52,some 53,some 54,some 55,some 56,some 57,some 58,some 59,some 60,some 61,some 62,some 63,some 64,some 65,some 66,some 4] (fun _=>True) (w39.heap.size) (by kernel_rfl) (Nat.le_refl _) (by kernel_rfl) (by kernel_rfl) (by kernel_rfl) (fun j o ho=>?srv) (fun val Y N hv HF=>?fin)
   case srv=>
    have hlt:j<20:=(Array.getElem?_eq_some_iff.1 ho).1
    rcases (show j=0∨j=1∨j=2∨j=3∨j=4∨j=5∨j=6∨j=7∨j=8∨j=9∨j=10∨j=11∨j=12∨j=13∨j=14∨j=15∨j=16∨j=17∨j=18∨j=19 by omega) with rfl | rfl | rfl | rfl | rfl | rfl | rfl | rfl | rfl | rfl | rfl | rfl | rfl | rfl | rfl | rfl | rfl | rfl | rfl | rfl
    ·cases ho
     refine srv_calV rfl rfl (fun _ _ _=>trivial) (fun val E X hE hB hA=>?_)
     exact ⟨_,_,_,by simp [execOp,go_sem,hE.c,hE.f] <;> rfl,HLX.out 0 X,rfl⟩
    ·cases ho
     refine srv_pure rfl rfl (fun val E hE hA=>?_)
     have e1:=hE.t 1 (.int .i64 m) rfl
     exact ⟨.int .i64 m,fun X=>by simp [execOp,go_sem,e1],rfl⟩
    ·cases ho
     refine srv_calV rfl rfl (fun _ _ _=>trivial) (fun val E X hE hB hA=>?_)
     have e49:=hE.t 49 (val 1) rfl
     have h1:val 1=.int .i64 m:=hA 1 (oz rfl)
     exact ⟨_,_,_,by simp [execOp,go_sem,hE.f,e49,h1] <;> rfl,HLN.out m X,rfl⟩
    ·cases ho
     refine srv_mk rfl rfl fun val E X N hE hC hA hc=>?_
     have e48:=hE.t 48 (val 0) rfl
     have h0:val 0=.agg #[.int .i64 0,.int .i64 0,.string ⟨#[]⟩,.slice none 0 0]:=hA 0 (oz rfl)
     have e50:=hE.t 50 (val 2) rfl
     have h2:val 2=.agg #[.int .i64 1,.int .i64 m,.string ⟨#[]⟩,.slice none 0 0]:=hA 2 (oz rfl)
     exact ⟨.slice (some ⟨X.heap.size,0,none⟩) 2 2,X.alloc (.cells #[.int .i64 0,.int .i64 0,.string ⟨#[]⟩,.slice none 0 0,.int .i64 1,.int .i64 m,.string ⟨#[]⟩,.slice none 0 0] 32),by simp [execOp,go_sem,e48,h0,e50,h2],(Below.refl _ _).alloc (Nat.le_refl _) _,⟨_,rfl⟩,fun N' h1 h2=>⟨_,rfl,TmsK.rows (K:=N') (w:=X) (rs:=[(varT 0,none,0),(intT m,none,0)]) (e:=32) (h2 _ (Nat.le_refl _) (by simp)) (by simp [maxLen]) (fun x hx=>by
      simp only [List.mem_cons,List.mem_nil_iff,or_false] at hx
      rcases hx with rfl | rfl
      ·exact TmsK.nil
      ·exact TmsK.nil)⟩⟩
    ·cases ho
     refine srv_cal rfl rfl fun val E X N hE hC hA hc=>?_
     obtain ⟨g3,h3,ht3⟩:∃g,val 3=.slice (some ⟨g,0,none⟩) 2 2∧TmsK N X (some ⟨g,0,none⟩) [varT 0,intT m]:=hc 3 (oz rfl) rfl
     have e51:=hE.t 51 (val 3) rfl
     exact ⟨_,_,by simp [execOp,go_sem,hE.c,hE.f,e51,h3] <;> rfl,(HLF.out ⟨#[99,104,97,114,95,99,111,100,101]⟩ _ _ _ X).mono fun e w' h=>⟨_,h.1,h.2,⟨g3,rfl⟩,fun N' h1 _=>⟨g3,rfl,row_stab ht3 (fun b hb=>h.2.block b (hC.lt b hb)) h1⟩⟩⟩
    ·cases ho
     refine srv_pure rfl rfl (fun val E hE hA=>?_)
     have e1:=hE.t 1 (.int .i64 m) rfl
     exact ⟨.int .i64 m,fun X=>by simp [execOp,go_sem,e1],rfl⟩
    ·cases ho
     refine srv_pure rfl rfl (fun val E hE hA=>?_)
     have e53:=hE.t 53 (val 5) rfl
     have h5:val 5=.int .i64 m:=hA 5 (oz rfl)
     exact ⟨.int .u8 m,fun X=>by simp [execOp,go_sem,e53,h5,hw8],rfl⟩
    ·cases ho
     refine srv_mk rfl rfl fun val E X N hE hC hA hc=>?_
     have e54:=hE.t 54 (val 6) rfl
     have h6:val 6=.int .u8 m:=hA 6 (oz rfl)
     exact ⟨.slice (some ⟨X.heap.size,0,none⟩) 1 1,X.alloc (.cells #[.int .u8 m] 5),by simp [execOp,go_sem,e54,h6],(Below.refl _ _).alloc (Nat.le_refl _) _,⟨_,rfl⟩,fun N' h1 h2=>⟨_,rfl,h2 _ (Nat.le_refl _) (by simp),Bk.new X [.int .u8 m] 5⟩⟩
    ·cases ho
     refine srv_mk rfl rfl fun val E X N hE hC hA hc=>?_
     obtain ⟨g,h7,hg,hk⟩:∃g,val 7=.slice (some ⟨g,0,none⟩) 1 1∧N g∧Bk X g [.int .u8 m]:=hc 7 (oz rfl) rfl
     have e55:=hE.t 55 (val 7) rfl
     have hcv:=conv_bk1 (P:=Tryz.prog) (X:=X) 44 9 5 Tryz.underlying44 Tryz.underlying5 Tryz.underlying9 m h0 h1 hk
     exact ⟨.string ⟨#[m.toNat.toUInt8]⟩,X,by simp [execOp,go_sem,e55,h7,hcv],Below.refl _ _,rfl,fun _ _ _=>trivial⟩
    ·cases ho
     refine srv_calV rfl rfl (fun _ _ _=>trivial) (fun val E X hE hB hA=>?_)
     have e56:=hE.t 56 (val 8) rfl
     have h8:val 8=.string ⟨#[m.toNat.toUInt8]⟩:=hA 8 (oz rfl)
     exact ⟨_,_,_,by simp [execOp,go_sem,hE.f,e56,h8] <;> rfl,HLA.out ⟨#[m.toNat.toUInt8]⟩ X,rfl⟩
    ·cases ho
     refine srv_pure rfl rfl (fun val E hE hA=>?_)
     have e1:=hE.t 1 (.int .i64 m) rfl
     exact ⟨.int .i64 m,fun X=>by simp [execOp,go_sem,e1],rfl⟩
    ·cases ho
     refine srv_calV rfl rfl (fun _ _ _=>trivial) (fun val E X hE hB hA=>?_)
     have e58:=hE.t 58 (val 10) rfl
     have h10:val 10=.int .i64 m:=hA 10 (oz rfl)
     exact ⟨_,_,_,by simp [execOp,go_sem,hE.f,e58,h10] <;> rfl,HLN.out m X,rfl⟩
    ·cases ho
     refine srv_mk rfl rfl fun val E X N hE hC hA hc=>?_
     have e57:=hE.t 57 (val 9) rfl
     have h9:val 9=.agg #[.int .i64 2,.int .i64 0,.string ⟨#[m.toNat.toUInt8]⟩,.slice none 0 0]:=hA 9 (oz rfl)
     have e59:=hE.t 59 (val 11) rfl
     have h11:val 11=.agg #[.int .i64 1,.int .i64 m,.string ⟨#[]⟩,.slice none 0 0]:=hA 11 (oz rfl)
     exact ⟨.slice (some ⟨X.heap.size,0,none⟩) 2 2,X.alloc (.cells #[.int .i64 2,.int .i64 0,.string ⟨#[m.toNat.toUInt8]⟩,.slice none 0 0,.int .i64 1,.int .i64 m,.string ⟨#[]⟩,.slice none 0 0] 32),by simp [execOp,go_sem,e57,h9,e59,h11],(Below.refl _ _).alloc (Nat.le_refl _) _,⟨_,rfl⟩,fun N' h1 h2=>⟨_,rfl,TmsK.rows (K:=N') (w:=X) (rs:=[(atomT ⟨#[m.toNat.toUInt8]⟩,none,0),(intT m,none,0)]) (e:=32) (h2 _ (Nat.le_refl _) (by simp)) (by simp [maxLen]) (fun x hx=>by
      simp only [List.mem_cons,List.mem_nil_iff,or_false] at hx
      rcases hx with rfl | rfl
      ·exact TmsK.nil
      ·exact TmsK.nil)⟩⟩
    ·cases ho
     refine srv_cal rfl rfl fun val E X N hE hC hA hc=>?_
     obtain ⟨g12,h12,ht12⟩:∃g,val 12=.slice (some ⟨g,0,none⟩) 2 2∧TmsK N X (some ⟨g,0,none⟩) [atomT ⟨#[m.toNat.toUInt8]⟩,intT m]:=hc 12 (oz rfl) rfl
     have e60:=hE.t 60 (val 12) rfl
     exact ⟨_,_,by simp [execOp,go_sem,hE.c,hE.f,e60,h12] <;> rfl,(HLF.out ⟨#[99,104,97,114,95,99,111,100,101]⟩ _ _ _ X).mono fun e w' h=>⟨_,h.1,h.2,⟨g12,rfl⟩,fun N' h1 _=>⟨g12,rfl,row_stab ht12 (fun b hb=>h.2.block b (hC.lt b hb)) h1⟩⟩⟩
    ·cases ho
     refine srv_mk rfl rfl fun val E X N hE hC hA hc=>?_
     have e61:=hE.t 61 (val 13) rfl
     obtain ⟨g13,h13,ht13⟩:∃g,val 13=.agg #[.int .i64 3,.int .i64 0,.string ⟨#[99,104,97,114,95,99,111,100,101]⟩,.slice (some ⟨g,0,none⟩) 2 2]∧TmsK N X (some ⟨g,0,none⟩) [atomT ⟨#[m.toNat.toUInt8]⟩,intT m]:=hc 13 (oz rfl) rfl
     exact ⟨.slice (some ⟨X.heap.size,0,none⟩) 1 1,X.alloc (.cells #[.int .i64 3,.int .i64 0,.string ⟨#[99,104,97,114,95,99,111,100,101]⟩,.slice (some ⟨g13,0,none⟩) 2 2] 32),by simp [execOp,go_sem,e61,h13],(Below.refl _ _).alloc (Nat.le_refl _) _,⟨_,rfl⟩,fun N' h1 h2=>⟨_,rfl,TmsK.rows (K:=N') (w:=X) (rs:=[(strT ⟨#[99,104,97,114,95,99,111,100,101]⟩ [atomT ⟨#[m.toNat.toUInt8]⟩,intT m],some ⟨g13,0,none⟩,2)]) (e:=32) (h2 _ (Nat.le_refl _) (by simp)) (by simp [maxLen]) (fun x hx=>by
      simp only [List.mem_cons,List.mem_nil_iff,or_false] at hx
      rcases hx with rfl
      ·exact row_stab ht13 (fun b hb=>((Below.refl X.heap.size X).alloc (Nat.le_refl _) _).block b (hC.lt b hb)) h1)⟩⟩
    ·cases ho
     refine srv_cal rfl rfl fun val E X N hE hC hA hc=>?_
     obtain ⟨g4,h4,ht4⟩:∃g,val 4=.agg #[.int .i64 3,.int .i64 0,.string ⟨#[99,104,97,114,95,99,111,100,101]⟩,.slice (some ⟨g,0,none⟩) 2 2]∧TmsK N X (some ⟨g,0,none⟩) [varT 0,intT m]:=hc 4 (oz rfl) rfl
     have e52:=hE.t 52 (val 4) rfl
     obtain ⟨g14,h14,ht14⟩:∃g,val 14=.slice (some ⟨g,0,none⟩) 1 1∧TmsK N X (some ⟨g,0,none⟩) [strT ⟨#[99,104,97,114,95,99,111,100,101]⟩ [atomT ⟨#[m.toNat.toUInt8]⟩,intT m]]:=hc 14 (oz rfl) rfl
     have e62:=hE.t 62 (val 14) rfl
     have h:=l_gives (strT ⟨#[99,104,97,114,95,99,111,100,101]⟩ [varT 0,intT m]) (some ⟨g4,0,none⟩) 2 [strT ⟨#[99,104,97,114,95,99,111,100,101]⟩ [atomT ⟨#[m.toNat.toUInt8]⟩,intT m]] (some ⟨g14,0,none⟩) 1 1 X (HDO.out.below (HB_40.out.trans (hC.bel.mono HB_40.out.size))) (i64_of ⟨⟨by decide,by decide⟩,HIM.out,trivial⟩) (Nat.le_refl _) (TmsK.at' ht4) rfl (TmsK.at' ht14)
     rw [show givesB (strT ⟨#[99,104,97,114,95,99,111,100,101]⟩ [varT 0,intT m]) [strT ⟨#[99,104,97,114,95,99,111,100,101]⟩ [atomT ⟨#[m.toNat.toUInt8]⟩,intT m]]=true from code2 m h0 h1] at h
     exact ⟨_,_,by simp [execOp,go_sem,hE.f,e52,h4,e62,h14] <;> rfl,h.mono fun e w' h=>⟨_,h.1,h.2,rfl,fun _ _ _=>trivial⟩⟩
    ·cases ho
     refine srv_pure rfl rfl (fun val E hE hA=>?_)
     have e63:=hE.t 63 (val 15) rfl
     have h15:val 15=.bool true:=hA 15 (oz rfl)
     exact ⟨.bool true,fun X=>by simp [execOp,go_sem,e63,h15],rfl⟩
    ·cases ho
     refine srv_calVG (true) rfl rfl (fun _ _ _=>trivial) (fun val hA=>hA 16 (oz rfl)) (fun _ val E X hE hB hA=>?_) (fun h=>absurd rfl h)
     exact ⟨_,_,_,by simp [execOp,go_sem,hE.f] <;> rfl,HAW.out X (HB_40.out.trans (hB.mono HB_40.out.size)),rfl⟩
    ·cases ho
     refine srv_pure rfl rfl (fun val E hE hA=>?_)
     have e64:=hE.t 64 (val 16) rfl
     have h16:val 16=.bool true:=hA 16 (oz rfl)
     have e65:=hE.t 65 (val 17) rfl
     have h17:val 17=.bool true:=hA 17 (oz rfl)
     exact ⟨.bool true,fun X=>by simp [execOp,go_sem,hE.c,e64,h16,e65,h17],rfl⟩
    ·cases ho
     refine srv_pure rfl rfl (fun val E hE hA=>?_)
     have e66:=hE.t 66 (val 18) rfl
     have h18:val 18=.bool true:=hA 18 (oz rfl)
     exact ⟨.bool true,fun X=>by simp [execOp,go_sem,e66,h18],rfl⟩
   case fin=>
    have h0:val 0=.agg #[.int .i64 0,.int .i64 0,.string ⟨#[]⟩,.slice none 0 0]:=hv 0 (by decide)
    have h1:val 1=.int .i64 m:=hv 1 (by decide)
    have h2:val 2=.agg #[.int .i64 1,.int .i64 m,.string ⟨#[]⟩,.slice none 0 0]:=hv 2 (by decide)
    obtain ⟨g3,h3⟩:∃g,val 3=.slice (some ⟨g,0,none⟩) 2 2:=hv 3 (by decide)
    obtain ⟨gg4,h4⟩:∃g,val 4=.agg #[.int .i64 3,.int .i64 0,.string ⟨#[99,104,97,114,95,99,111,100,101]⟩,.slice (some ⟨g,0,none⟩) 2 2]:=hv 4 (by decide)
    have h5:val 5=.int .i64 m:=hv 5 (by decide)
    have h6:val 6=.int .u8 m:=hv 6 (by decide)
    obtain ⟨g7,h7⟩:∃g,val 7=.slice (some ⟨g,0,none⟩) 1 1:=hv 7 (by decide)
    have h8:val 8=.string ⟨#[m.toNat.toUInt8]⟩:=hv 8 (by decide)
    have h9:val 9=.agg #[.int .i64 2,.int .i64 0,.string ⟨#[m.toNat.toUInt8]⟩,.slice none 0 0]:=hv 9 (by decide)
    have h10:val 10=.int .i64 m:=hv 10 (by decide)
    have h11:val 11=.agg #[.int .i64 1,.int .i64 m,.string ⟨#[]⟩,.slice none 0 0]:=hv 11 (by decide)
    obtain ⟨g12,h12⟩:∃g,val 12=.slice (some ⟨g,0,none⟩) 2 2:=hv 12 (by decide)
    obtain ⟨gg13,h13⟩:∃g,val 13=.agg #[.int .i64 3,.int .i64 0,.string ⟨#[99,104,97,114,95,99,111,100,101]⟩,.slice (some ⟨g,0,none⟩) 2 2]:=hv 13 (by decide)
    obtain ⟨g14,h14⟩:∃g,val 14=.slice (some ⟨g,0,none⟩) 1 1:=hv 14 (by decide)
    have h15:val 15=.bool true:=hv 15 (by decide)
    have h16:val 16=.bool true:=hv 16 (by decide)
    have h17:val 17=.bool true:=hv 17 (by decide)
    have h18:val 18=.bool true:=hv 18 (by decide)
    have h19:val 19=.bool true:=hv 19 (by decide)
    refine hK9 _ _ ?_
    simp only [fillD,List.set_cons_zero,List.set_cons_succ,Nat.reduceAdd,Nat.zero_add,h0,h1,h2,h3,h4,h5,h6,h7,h8,h9,h10,h11,h12,h13,h14,h15,h16,h17,h18,h19]
    have HBZ:=zq (HB_40.out.trans (HF.bel.mono HB_40.out.size))
    clear hv HF hK9 h0 h1 h2 h3 h4 h5 h6 h7 h8 h9 h10 h11 h12 h13 h14 h15 h16 h17 h18 h19 HB_40
    go_wp2_with fail
    go_ret
    exact ⟨rfl,HBZ.out⟩
  ·have h1':255<m:=by omega
   go_wp2_with fail
   refine (HLX.out (0) _).mono ?_;rintro e w41 ⟨rfl,hB⟩
   have HB_42:=bz HB_40 hB
   clear hB HB_40
   go_wp2_with fail
   refine (HLN.out (m) _).mono ?_;rintro e w43 ⟨rfl,hB⟩
   have HB_44:=bz HB_42 hB
   clear hB HB_42
   obtain ⟨y45,HY45⟩:=lz (w43.alloc (.cells #[.int .i64 0,.int .i64 0,.string ⟨#[]⟩,.slice none 0 0,.int .i64 1,.int .i64 (m),.string ⟨#[]⟩,.slice none 0 0] 32))
   have hB:Below w43.heap.size w43 y45:=by rw [HY45.out];exact (Below.refl _ _).alloc (Nat.le_refl _) _
   have HRN70:Hid (TmsAt y45.heap.size y45 (some ⟨w43.heap.size,0,none⟩) [(varT (0)),(intT (m))]):=zq (by
    rw [HY45.out]
    exact row_new w43 [((varT (0)),none,0),((intT (m)),none,0)] 32 (by simp [maxLen]) (fun r hr=>by
     simp only [List.mem_cons,List.mem_nil_iff,or_false] at hr
     rcases hr with rfl | rfl
     ·exact TmsK.nil
     ·exact TmsK.nil))
   have HB_46:=bz HB_44 hB
   clear hB HB_44
   go_wp2_with fail
   rw [←HY45.out]
   clear HY45
   refine (HLF.out ⟨#[99,104,97,114,95,99,111,100,101]⟩ _ _ _ _).mono ?_;rintro e w47 ⟨rfl,hB⟩
   have HB_48:=bz HB_46 hB
   have HR70_48:=zq ((HRN70.out.keep hB).mono hB.size)
   clear hB HB_46 HRN70
   go_wp2_with fail
   refine (HLA.out (⟨#[99,104,97,114,97,99,116,101,114,95,99,111,100,101]⟩) _).mono ?_;rintro e w49 ⟨rfl,hB⟩
   have HB_50:=bz HB_48 hB
   have HR70_50:=zq ((HR70_48.out.keep hB).mono hB.size)
   clear hB HB_48 HR70_48
   obtain ⟨y51,HY51⟩:=lz (w49.alloc (.cells #[.int .i64 2,.int .i64 0,.string ⟨#[99,104,97,114,97,99,116,101,114,95,99,111,100,101]⟩,.slice none 0 0] 32))
   have hB:Below w49.heap.size w49 y51:=by rw [HY51.out];exact (Below.refl _ _).alloc (Nat.le_refl _) _
   have HRN73:Hid (TmsAt y51.heap.size y51 (some ⟨w49.heap.size,0,none⟩) [(atomT (⟨#[99,104,97,114,97,99,116,101,114,95,99,111,100,101]⟩))]):=zq (by
    rw [HY51.out]
    exact row_new w49 [((atomT (⟨#[99,104,97,114,97,99,116,101,114,95,99,111,100,101]⟩)),none,0)] 32 (by simp [maxLen]) (fun r hr=>by
     simp only [List.mem_cons,List.mem_nil_iff,or_false] at hr
     rcases hr with rfl
     ·exact TmsK.nil))
   have HB_52:=bz HB_50 hB
   have HR70_52:=zq ((HR70_50.out.keep hB).mono hB.size)
   clear hB HB_50 HR70_50
   go_wp2_with fail
   rw [←HY51.out]
   clear HY51
   refine (HLF.out ⟨#[114,101,112,114,101,115,101,110,116,97,116,105,111,110,95,101,114,114,111,114]⟩ _ _ _ _).mono ?_;rintro e w53 ⟨rfl,hB⟩
   have HB_54:=bz HB_52 hB
   have HR70_54:=zq ((HR70_52.out.keep hB).mono hB.size)
   have HR73_54:=zq ((HRN73.out.keep hB).mono hB.size)
   clear hB HB_52 HR70_52 HRN73
   go_wp2_with fail
   have HG55:Hid (Calls Tryz.prog 25 #[.agg #[.int .i64 3,.int .i64 0,.string ⟨#[99,104,97,114,95,99,111,100,101]⟩,.slice (some ⟨w43.heap.size,0,none⟩) 2 2],.agg #[.int .i64 3,.int .i64 0,.string ⟨#[114,101,112,114,101,115,101,110,116,97,116,105,111,110,95,101,114,114,111,114]⟩,.slice (some ⟨w49.heap.size,0,none⟩) 1 1]] w53 fun e w'=>e=.returned (.bool true)∧Below w53.heap.size w53 w'):=zq (by
    have h:=l_raises (strT ⟨#[99,104,97,114,95,99,111,100,101]⟩ [(varT (0)),(intT (m))]) (strT ⟨#[114,101,112,114,101,115,101,110,116,97,116,105,111,110,95,101,114,114,111,114]⟩ [(atomT (⟨#[99,104,97,114,97,99,116,101,114,95,99,111,100,101]⟩))]) (some ⟨w43.heap.size,0,none⟩) 2 (some ⟨w49.heap.size,0,none⟩) 1 w53 (HDO.out.below HB_54.out) (i64_of ⟨⟨by decide,by decide⟩,HIM.out,trivial⟩) (Nat.le_refl _) HR70_54.out HR73_54.out (by exact (code3 m (.inr h1')).2)
    rw [show raisesB (strT ⟨#[99,104,97,114,95,99,111,100,101]⟩ [(varT (0)),(intT (m))]) (strT ⟨#[114,101,112,114,101,115,101,110,116,97,116,105,111,110,95,101,114,114,111,114]⟩ [(atomT (⟨#[99,104,97,114,97,99,116,101,114,95,99,111,100,101]⟩))])=true by exact (code3 m (.inr h1')).1] at h
    exact h)
   refine HG55.out.mono ?_;rintro e w55 ⟨rfl,hB⟩
   clear HG55
   have HB_56:=bz HB_54 hB
   clear hB HB_54 HR70_54 HR73_54
   go_wp2_with fail
   refine (HAW.out _ HB_56.out).mono ?_;rintro e wz ⟨rfl,hB⟩
   have HBZ:=bz HB_56 hB
   clear hB HB_56
   go_wp2_with fail
   go_ret
   exact ⟨rfl,HBZ.out⟩
 ·have h0':m<0:=by omega
  go_wp2_with fail
  refine (HLX.out (0) _).mono ?_;rintro e w41 ⟨rfl,hB⟩
  have HB_42:=bz HB_40 hB
  clear hB HB_40
  go_wp2_with fail
  refine (HLN.out (m) _).mono ?_;rintro e w43 ⟨rfl,hB⟩
  have HB_44:=bz HB_42 hB
  clear hB HB_42
  obtain ⟨y45,HY45⟩:=lz (w43.alloc (.cells #[.int .i64 0,.int .i64 0,.string ⟨#[]⟩,.slice none 0 0,.int .i64 1,.int .i64 (m),.string ⟨#[]⟩,.slice none 0 0] 32))
  have hB:Below w43.heap.size w43 y45:=by rw [HY45.out];exact (Below.refl _ _).alloc (Nat.le_refl _) _
  have HRN70:Hid (TmsAt y45.heap.size y45 (some ⟨w43.heap.size,0,none⟩) [(varT (0)),(intT (m))]):=zq (by
   rw [HY45.out]
   exact row_new w43 [((varT (0)),none,0),((intT (m)),none,0)] 32 (by simp [maxLen]) (fun r hr=>by
    simp only [List.mem_cons,List.mem_nil_iff,or_false] at hr
    rcases hr with rfl | rfl
    ·exact TmsK.nil
    ·exact TmsK.nil))
  have HB_46:=bz HB_44 hB
  clear hB HB_44
  go_wp2_with fail
  rw [←HY45.out]
  clear HY45
  refine (HLF.out ⟨#[99,104,97,114,95,99,111,100,101]⟩ _ _ _ _).mono ?_;rintro e w47 ⟨rfl,hB⟩
  have HB_48:=bz HB_46 hB
  have HR70_48:=zq ((HRN70.out.keep hB).mono hB.size)
  clear hB HB_46 HRN70
  go_wp2_with fail
  refine (HLA.out (⟨#[99,104,97,114,97,99,116,101,114,95,99,111,100,101]⟩) _).mono ?_;rintro e w49 ⟨rfl,hB⟩
  have HB_50:=bz HB_48 hB
  have HR70_50:=zq ((HR70_48.out.keep hB).mono hB.size)
  clear hB HB_48 HR70_48
  obtain ⟨y51,HY51⟩:=lz (w49.alloc (.cells #[.int .i64 2,.int .i64 0,.string ⟨#[99,104,97,114,97,99,116,101,114,95,99,111,100,101]⟩,.slice none 0 0] 32))
  have hB:Below w49.heap.size w49 y51:=by rw [HY51.out];exact (Below.refl _ _).alloc (Nat.le_refl _) _
  have HRN73:Hid (TmsAt y51.heap.size y51 (some ⟨w49.heap.size,0,none⟩) [(atomT (⟨#[99,104,97,114,97,99,116,101,114,95,99,111,100,101]⟩))]):=zq (by
   rw [HY51.out]
   exact row_new w49 [((atomT (⟨#[99,104,97,114,97,99,116,101,114,95,99,111,100,101]⟩)),none,0)] 32 (by simp [maxLen]) (fun r hr=>by
    simp only [List.mem_cons,List.mem_nil_iff,or_false] at hr
    rcases hr with rfl
    ·exact TmsK.nil))
  have HB_52:=bz HB_50 hB
  have HR70_52:=zq ((HR70_50.out.keep hB).mono hB.size)
  clear hB HB_50 HR70_50
  go_wp2_with fail
  rw [←HY51.out]
  clear HY51
  refine (HLF.out ⟨#[114,101,112,114,101,115,101,110,116,97,116,105,111,110,95,101,114,114,111,114]⟩ _ _ _ _).mono ?_;rintro e w53 ⟨rfl,hB⟩
  have HB_54:=bz HB_52 hB
  have HR70_54:=zq ((HR70_52.out.keep hB).mono hB.size)
  have HR73_54:=zq ((HRN73.out.keep hB).mono hB.size)
  clear hB HB_52 HR70_52 HRN73
  go_wp2_with fail
  have HG55:Hid (Calls Tryz.prog 25 #[.agg #[.int .i64 3,.int .i64 0,.string ⟨#[99,104,97,114,95,99,111,100,101]⟩,.slice (some ⟨w43.heap.size,0,none⟩) 2 2],.agg #[.int .i64 3,.int .i64 0,.string ⟨#[114,101,112,114,101,115,101,110,116,97,116,105,111,110,95,101,114,114,111,114]⟩,.slice (some ⟨w49.heap.size,0,none⟩) 1 1]] w53 fun e w'=>e=.returned (.bool true)∧Below w53.heap.size w53 w'):=zq (by
   have h:=l_raises (strT ⟨#[99,104,97,114,95,99,111,100,101]⟩ [(varT (0)),(intT (m))]) (strT ⟨#[114,101,112,114,101,115,101,110,116,97,116,105,111,110,95,101,114,114,111,114]⟩ [(atomT (⟨#[99,104,97,114,97,99,116,101,114,95,99,111,100,101]⟩))]) (some ⟨w43.heap.size,0,none⟩) 2 (some ⟨w49.heap.size,0,none⟩) 1 w53 (HDO.out.below HB_54.out) (i64_of ⟨⟨by decide,by decide⟩,HIM.out,trivial⟩) (Nat.le_refl _) HR70_54.out HR73_54.out (by exact (code3 m (.inl h0')).2)
   rw [show raisesB (strT ⟨#[99,104,97,114,95,99,111,100,101]⟩ [(varT (0)),(intT (m))]) (strT ⟨#[114,101,112,114,101,115,101,110,116,97,116,105,111,110,95,101,114,114,111,114]⟩ [(atomT (⟨#[99,104,97,114,97,99,116,101,114,95,99,111,100,101]⟩))])=true by exact (code3 m (.inl h0')).1] at h
   exact h)
  refine HG55.out.mono ?_;rintro e w55 ⟨rfl,hB⟩
  clear HG55
  have HB_56:=bz HB_54 hB
  clear hB HB_54 HR70_54 HR73_54
  go_wp2_with fail
  refine (HAW.out _ HB_56.out).mono ?_;rintro e wz ⟨rfl,hB⟩
  have HBZ:=bz HB_56 hB
  clear hB HB_56
  go_wp2_with fail
  go_ret
  exact ⟨rfl,HBZ.out⟩
theorem law_codesL (i m:Int) (hi:(Lit.int .u8 i).wf=true) (hm:(Lit.int .i64 m).wf=true) (w:World) (hD:DoorOk w):Calls Tryz.prog 8 #[.int .u8 i,.int .i64 m] w fun e w'=>e=.returned (.bool true)∧Below w.heap.size w w':=by
 obtain ⟨b,rfl⟩:=wf_u8 hi
 exact law_codes b m (wf_i64 hm) w hD
end Go.Proofs.YtpokpgkjaifccaaGreatDoorRR
