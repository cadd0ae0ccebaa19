/- Parts of the proof. -/
import Derived.Test.YtpokpgkjaifccaaGreatDoorRRH01
import Derived.Test.YtpokpgkjaifccaaGreatDoorRRH28
import Derived.Test.YtpokpgkjaifccaaGreatDoorRRH29
namespace Go.Proofs.YtpokpgkjaifccaaGreatDoorRR
open Go.RowKit Hb Go.Shelf
set_option maxRecDepth 100000
def i64L:List Tm→Prop
 | []=>True
 | t::l=>I64 t.num∧i64L l
theorem i64_of:∀{l:List Tm},i64L l→∀x∈l,I64 x.num
 | [],_,x,hx=>(by cases hx)
 | t::l,h,x,hx=>by
  rcases List.mem_cons.1 hx with rfl | hx
  ·exact h.1
  ·exact i64_of h.2 x hx
theorem i64_zero:I64 0:=⟨by decide,by decide⟩
theorem i64_text (c:Bool) (l:List UInt8):I64 (textT c l).num:=by
 cases l <;> exact i64_zero
set_option maxHeartbeats 3200000 in
theorem l_awake (w:World) (hD:DoorOk w):Calls Tryz.prog 12 #[] w fun e w'=>e=.returned (.bool true)∧Below w.heap.size w w':=by
 have HDO:=zq hD
 have HLA:=zq (fun s W=>l_a s W)
 have HLX:=zq (fun n W=>l_x n W)
 have HLN:=zq (fun n W=>l_n n W)
 have HLF:=zq (fun s A n c W=>l_f s A n c W)
 have HSU:=zq (fun W=>a_Sub ⟨#[97,98]⟩ W)
 have HB0:=zq (Below.refl w.heap.size w)
 clear hD
 go_enter Tryz.func12,Tryz.ntmps12
 go_wp2_with fail
 refine (HLA.out (⟨#[97,98,99]⟩) _).mono ?_;rintro e w1 ⟨rfl,hB⟩
 have HB_2:=bz HB0 hB
 clear hB HB0
 go_wp2_with fail
 refine (HLX.out (0) _).mono ?_;rintro e w3 ⟨rfl,hB⟩
 have HB_4:=bz HB_2 hB
 clear hB HB_2
 obtain ⟨y5,HY5⟩:=lz (w3.alloc (.cells #[.int .i64 2,.int .i64 0,.string ⟨#[97,98,99]⟩,.slice none 0 0,.int .i64 0,.int .i64 0,.string ⟨#[]⟩,.slice none 0 0] 32))
 have hB:Below w3.heap.size w3 y5:=by rw [HY5.out];exact (Below.refl _ _).alloc (Nat.le_refl _) _
 have HRN3:Hid (TmsAt y5.heap.size y5 (some ⟨w3.heap.size,0,none⟩) [(atomT (⟨#[97,98,99]⟩)),(varT (0))]):=zq (by
  rw [HY5.out]
  exact row_new w3 [((atomT (⟨#[97,98,99]⟩)),none,0),((varT (0)),none,0)] 32 (by simp [maxLen]) (fun r hr=>by
   simp only [List.mem_cons,List.mem_nil_iff,or_false] at hr
   rcases hr with rfl | rfl
   ·exact TmsK.nil
   ·exact TmsK.nil))
 have HB_6:=bz HB_4 hB
 clear hB HB_4
 go_wp2_with fail
 rw [←HY5.out]
 clear HY5
 refine (HLF.out ⟨#[97,116,111,109,95,108,101,110,103,116,104]⟩ _ _ _ _).mono ?_;rintro e w7 ⟨rfl,hB⟩
 have HB_8:=bz HB_6 hB
 have HR3_8:=zq ((HRN3.out.keep hB).mono hB.size)
 clear hB HB_6 HRN3
 go_wp2_with fail
 refine (HLA.out (⟨#[97,98,99]⟩) _).mono ?_;rintro e w9 ⟨rfl,hB⟩
 have HB_10:=bz HB_8 hB
 have HR3_10:=zq ((HR3_8.out.keep hB).mono hB.size)
 clear hB HB_8 HR3_8
 go_wp2_with fail
 refine (HLN.out (3) _).mono ?_;rintro e w11 ⟨rfl,hB⟩
 have HB_12:=bz HB_10 hB
 have HR3_12:=zq ((HR3_10.out.keep hB).mono hB.size)
 clear hB HB_10 HR3_10
 obtain ⟨y13,HY13⟩:=lz (w11.alloc (.cells #[.int .i64 2,.int .i64 0,.string ⟨#[97,98,99]⟩,.slice none 0 0,.int .i64 1,.int .i64 3,.string ⟨#[]⟩,.slice none 0 0] 32))
 have hB:Below w11.heap.size w11 y13:=by rw [HY13.out];exact (Below.refl _ _).alloc (Nat.le_refl _) _
 have HRN7:Hid (TmsAt y13.heap.size y13 (some ⟨w11.heap.size,0,none⟩) [(atomT (⟨#[97,98,99]⟩)),(intT (3))]):=zq (by
  rw [HY13.out]
  exact row_new w11 [((atomT (⟨#[97,98,99]⟩)),none,0),((intT (3)),none,0)] 32 (by simp [maxLen]) (fun r hr=>by
   simp only [List.mem_cons,List.mem_nil_iff,or_false] at hr
   rcases hr with rfl | rfl
   ·exact TmsK.nil
   ·exact TmsK.nil))
 have HB_14:=bz HB_12 hB
 have HR3_14:=zq ((HR3_12.out.keep hB).mono hB.size)
 clear hB HB_12 HR3_12
 go_wp2_with fail
 rw [←HY13.out]
 clear HY13
 refine (HLF.out ⟨#[97,116,111,109,95,108,101,110,103,116,104]⟩ _ _ _ _).mono ?_;rintro e w15 ⟨rfl,hB⟩
 have HB_16:=bz HB_14 hB
 have HR3_16:=zq ((HR3_14.out.keep hB).mono hB.size)
 have HR7_16:=zq ((HRN7.out.keep hB).mono hB.size)
 clear hB HB_14 HR3_14 HRN7
 obtain ⟨y17,HY17⟩:=lz (w15.alloc (.cells #[.int .i64 3,.int .i64 0,.string ⟨#[97,116,111,109,95,108,101,110,103,116,104]⟩,.slice (some ⟨w11.heap.size,0,none⟩) 2 2] 32))
 have hB:Below w15.heap.size w15 y17:=by rw [HY17.out];exact (Below.refl _ _).alloc (Nat.le_refl _) _
 have HRN9:Hid (TmsAt y17.heap.size y17 (some ⟨w15.heap.size,0,none⟩) [(strT ⟨#[97,116,111,109,95,108,101,110,103,116,104]⟩ [(atomT (⟨#[97,98,99]⟩)),(intT (3))])]):=zq (by
  rw [HY17.out]
  exact row_new w15 [((strT ⟨#[97,116,111,109,95,108,101,110,103,116,104]⟩ [(atomT (⟨#[97,98,99]⟩)),(intT (3))]),(some ⟨w11.heap.size,0,none⟩),2)] 32 (by simp [maxLen]) (fun r hr=>by
   simp only [List.mem_cons,List.mem_nil_iff,or_false] at hr
   rcases hr with rfl
   ·exact HR7_16.out))
 have HB_18:=bz HB_16 hB
 have HR3_18:=zq ((HR3_16.out.keep hB).mono hB.size)
 clear hB HB_16 HR3_16 HR7_16
 go_wp2_with fail
 rw [←HY17.out]
 clear HY17
 have HG19:Hid (Calls Tryz.prog 15 #[.agg #[.int .i64 3,.int .i64 0,.string ⟨#[97,116,111,109,95,108,101,110,103,116,104]⟩,.slice (some ⟨w3.heap.size,0,none⟩) 2 2],.slice (some ⟨w15.heap.size,0,none⟩) 1 1] y17 fun e w'=>e=.returned (.bool true)∧Below y17.heap.size y17 w'):=zq (by
  have h:=l_gives (strT ⟨#[97,116,111,109,95,108,101,110,103,116,104]⟩ [(atomT (⟨#[97,98,99]⟩)),(varT (0))]) (some ⟨w3.heap.size,0,none⟩) 2 [(strT ⟨#[97,116,111,109,95,108,101,110,103,116,104]⟩ [(atomT (⟨#[97,98,99]⟩)),(intT (3))])] (some ⟨w15.heap.size,0,none⟩) 1 1 y17 (HDO.out.below HB_18.out) (i64_of ⟨i64_zero,⟨by decide,by decide⟩,trivial⟩) (Nat.le_refl _) HR3_18.out rfl HRN9.out
  rw [show givesB (strT ⟨#[97,116,111,109,95,108,101,110,103,116,104]⟩ [(atomT (⟨#[97,98,99]⟩)),(varT (0))]) [(strT ⟨#[97,116,111,109,95,108,101,110,103,116,104]⟩ [(atomT (⟨#[97,98,99]⟩)),(intT (3))])]=true by exact ex1] at h
  exact h)
 refine HG19.out.mono ?_;rintro e w19 ⟨rfl,hB⟩
 clear HG19
 have HB_20:=bz HB_18 hB
 clear hB HB_18 HR3_18 HRN9
 go_wp2_with fail
 refine (HLN.out (3) _).mono ?_;rintro e w21 ⟨rfl,hB⟩
 have HB_22:=bz HB_20 hB
 clear hB HB_20
 go_wp2_with fail
 refine (HLX.out (0) _).mono ?_;rintro e w23 ⟨rfl,hB⟩
 have HB_24:=bz HB_22 hB
 clear hB HB_22
 obtain ⟨y25,HY25⟩:=lz (w23.alloc (.cells #[.int .i64 1,.int .i64 3,.string ⟨#[]⟩,.slice none 0 0,.int .i64 0,.int .i64 0,.string ⟨#[]⟩,.slice none 0 0] 32))
 have hB:Below w23.heap.size w23 y25:=by rw [HY25.out];exact (Below.refl _ _).alloc (Nat.le_refl _) _
 have HRN14:Hid (TmsAt y25.heap.size y25 (some ⟨w23.heap.size,0,none⟩) [(intT (3)),(varT (0))]):=zq (by
  rw [HY25.out]
  exact row_new w23 [((intT (3)),none,0),((varT (0)),none,0)] 32 (by simp [maxLen]) (fun r hr=>by
   simp only [List.mem_cons,List.mem_nil_iff,or_false] at hr
   rcases hr with rfl | rfl
   ·exact TmsK.nil
   ·exact TmsK.nil))
 have HB_26:=bz HB_24 hB
 clear hB HB_24
 go_wp2_with fail
 rw [←HY25.out]
 clear HY25
 refine (HLF.out ⟨#[97,116,111,109,95,108,101,110,103,116,104]⟩ _ _ _ _).mono ?_;rintro e w27 ⟨rfl,hB⟩
 have HB_28:=bz HB_26 hB
 have HR14_28:=zq ((HRN14.out.keep hB).mono hB.size)
 clear hB HB_26 HRN14
 go_wp2_with fail
 refine (HLA.out (⟨#[97,116,111,109]⟩) _).mono ?_;rintro e w29 ⟨rfl,hB⟩
 have HB_30:=bz HB_28 hB
 have HR14_30:=zq ((HR14_28.out.keep hB).mono hB.size)
 clear hB HB_28 HR14_28
 go_wp2_with fail
 refine (HLN.out (3) _).mono ?_;rintro e w31 ⟨rfl,hB⟩
 have HB_32:=bz HB_30 hB
 have HR14_32:=zq ((HR14_30.out.keep hB).mono hB.size)
 clear hB HB_30 HR14_30
 obtain ⟨y33,HY33⟩:=lz (w31.alloc (.cells #[.int .i64 2,.int .i64 0,.string ⟨#[97,116,111,109]⟩,.slice none 0 0,.int .i64 1,.int .i64 3,.string ⟨#[]⟩,.slice none 0 0] 32))
 have hB:Below w31.heap.size w31 y33:=by rw [HY33.out];exact (Below.refl _ _).alloc (Nat.le_refl _) _
 have HRN18:Hid (TmsAt y33.heap.size y33 (some ⟨w31.heap.size,0,none⟩) [(atomT (⟨#[97,116,111,109]⟩)),(intT (3))]):=zq (by
  rw [HY33.out]
  exact row_new w31 [((atomT (⟨#[97,116,111,109]⟩)),none,0),((intT (3)),none,0)] 32 (by simp [maxLen]) (fun r hr=>by
   simp only [List.mem_cons,List.mem_nil_iff,or_false] at hr
   rcases hr with rfl | rfl
   ·exact TmsK.nil
   ·exact TmsK.nil))
 have HB_34:=bz HB_32 hB
 have HR14_34:=zq ((HR14_32.out.keep hB).mono hB.size)
 clear hB HB_32 HR14_32
 go_wp2_with fail
 rw [←HY33.out]
 clear HY33
 refine (HLF.out ⟨#[116,121,112,101,95,101,114,114,111,114]⟩ _ _ _ _).mono ?_;rintro e w35 ⟨rfl,hB⟩
 have HB_36:=bz HB_34 hB
 have HR14_36:=zq ((HR14_34.out.keep hB).mono hB.size)
 have HR18_36:=zq ((HRN18.out.keep hB).mono hB.size)
 clear hB HB_34 HR14_34 HRN18
 go_wp2_with fail
 have HG37:Hid (Calls Tryz.prog 25 #[.agg #[.int .i64 3,.int .i64 0,.string ⟨#[97,116,111,109,95,108,101,110,103,116,104]⟩,.slice (some ⟨w23.heap.size,0,none⟩) 2 2],.agg #[.int .i64 3,.int .i64 0,.string ⟨#[116,121,112,101,95,101,114,114,111,114]⟩,.slice (some ⟨w31.heap.size,0,none⟩) 2 2]] w35 fun e w'=>e=.returned (.bool true)∧Below w35.heap.size w35 w'):=zq (by
  have h:=l_raises (strT ⟨#[97,116,111,109,95,108,101,110,103,116,104]⟩ [(intT (3)),(varT (0))]) (strT ⟨#[116,121,112,101,95,101,114,114,111,114]⟩ [(atomT (⟨#[97,116,111,109]⟩)),(intT (3))]) (some ⟨w23.heap.size,0,none⟩) 2 (some ⟨w31.heap.size,0,none⟩) 2 w35 (HDO.out.below HB_36.out) (i64_of ⟨⟨by decide,by decide⟩,⟨by decide,by decide⟩,trivial⟩) (Nat.le_refl _) HR14_36.out HR18_36.out (by exact ex2n)
  rw [show raisesB (strT ⟨#[97,116,111,109,95,108,101,110,103,116,104]⟩ [(intT (3)),(varT (0))]) (strT ⟨#[116,121,112,101,95,101,114,114,111,114]⟩ [(atomT (⟨#[97,116,111,109]⟩)),(intT (3))])=true by exact ex2] at h
  exact h)
 refine HG37.out.mono ?_;rintro e w37 ⟨rfl,hB⟩
 clear HG37
 have HB_38:=bz HB_36 hB
 clear hB HB_36 HR14_36 HR18_36
 go_wp2_with fail
 refine (HLX.out (0) _).mono ?_;rintro e w39 ⟨rfl,hB⟩
 have HB_40:=bz HB_38 hB
 clear hB HB_38
 go_wp2_with fail
 refine (HLX.out (1) _).mono ?_;rintro e w41 ⟨rfl,hB⟩
 have HB_42:=bz HB_40 hB
 clear hB HB_40
 go_wp2_with fail
 refine (HLA.out (⟨#[97,98]⟩) _).mono ?_;rintro e w43 ⟨rfl,hB⟩
 have HB_44:=bz HB_42 hB
 clear hB HB_42
 obtain ⟨y45,HY45⟩:=lz (w43.alloc (.cells #[.int .i64 0,.int .i64 0,.string ⟨#[]⟩,.slice none 0 0,.int .i64 0,.int .i64 1,.string ⟨#[]⟩,.slice none 0 0,.int .i64 2,.int .i64 0,.string ⟨#[97,98]⟩,.slice none 0 0] 32))
 have hB:Below w43.heap.size w43 y45:=by rw [HY45.out];exact (Below.refl _ _).alloc (Nat.le_refl _) _
 have HRN26:Hid (TmsAt y45.heap.size y45 (some ⟨w43.heap.size,0,none⟩) [(varT (0)),(varT (1)),(atomT (⟨#[97,98]⟩))]):=zq (by
  rw [HY45.out]
  exact row_new w43 [((varT (0)),none,0),((varT (1)),none,0),((atomT (⟨#[97,98]⟩)),none,0)] 32 (by simp [maxLen]) (fun r hr=>by
   simp only [List.mem_cons,List.mem_nil_iff,or_false] at hr
   rcases hr with rfl | rfl | rfl
   ·exact TmsK.nil
   ·exact TmsK.nil
   ·exact TmsK.nil))
 have HB_46:=bz HB_44 hB
 clear hB HB_44
 go_wp2_with fail
 rw [←HY45.out]
 clear HY45
 refine (HLF.out ⟨#[97,116,111,109,95,99,111,110,99,97,116]⟩ _ _ _ _).mono ?_;rintro e w47 ⟨rfl,hB⟩
 have HB_48:=bz HB_46 hB
 have HR26_48:=zq ((HRN26.out.keep hB).mono hB.size)
 clear hB HB_46 HRN26
 go_wp2_with fail
 refine (HLA.out (⟨#[]⟩) _).mono ?_;rintro e w49 ⟨rfl,hB⟩
 have HB_50:=bz HB_48 hB
 have HR26_50:=zq ((HR26_48.out.keep hB).mono hB.size)
 clear hB HB_48 HR26_48
 go_wp2_with fail
 refine (HLA.out (⟨#[97,98]⟩) _).mono ?_;rintro e w51 ⟨rfl,hB⟩
 have HB_52:=bz HB_50 hB
 have HR26_52:=zq ((HR26_50.out.keep hB).mono hB.size)
 clear hB HB_50 HR26_50
 go_wp2_with fail
 refine (HLA.out (⟨#[97,98]⟩) _).mono ?_;rintro e w53 ⟨rfl,hB⟩
 have HB_54:=bz HB_52 hB
 have HR26_54:=zq ((HR26_52.out.keep hB).mono hB.size)
 clear hB HB_52 HR26_52
 obtain ⟨y55,HY55⟩:=lz (w53.alloc (.cells #[.int .i64 2,.int .i64 0,.string ⟨#[]⟩,.slice none 0 0,.int .i64 2,.int .i64 0,.string ⟨#[97,98]⟩,.slice none 0 0,.int .i64 2,.int .i64 0,.string ⟨#[97,98]⟩,.slice none 0 0] 32))
 have hB:Below w53.heap.size w53 y55:=by rw [HY55.out];exact (Below.refl _ _).alloc (Nat.le_refl _) _
 have HRN31:Hid (TmsAt y55.heap.size y55 (some ⟨w53.heap.size,0,none⟩) [(atomT (⟨#[]⟩)),(atomT (⟨#[97,98]⟩)),(atomT (⟨#[97,98]⟩))]):=zq (by
  rw [HY55.out]
  exact row_new w53 [((atomT (⟨#[]⟩)),none,0),((atomT (⟨#[97,98]⟩)),none,0),((atomT (⟨#[97,98]⟩)),none,0)] 32 (by simp [maxLen]) (fun r hr=>by
   simp only [List.mem_cons,List.mem_nil_iff,or_false] at hr
   rcases hr with rfl | rfl | rfl
   ·exact TmsK.nil
   ·exact TmsK.nil
   ·exact TmsK.nil))
 have HB_56:=bz HB_54 hB
 have HR26_56:=zq ((HR26_54.out.keep hB).mono hB.size)
 clear hB HB_54 HR26_54
 go_wp2_with fail
 rw [←HY55.out]
 clear HY55
 refine (HLF.out ⟨#[97,116,111,109,95,99,111,110,99,97,116]⟩ _ _ _ _).mono ?_;rintro e w57 ⟨rfl,hB⟩
 have HB_58:=bz HB_56 hB
 have HR26_58:=zq ((HR26_56.out.keep hB).mono hB.size)
 have HR31_58:=zq ((HRN31.out.keep hB).mono hB.size)
 clear hB HB_56 HR26_56 HRN31
 go_wp2_with fail
 refine (HLA.out (⟨#[97]⟩) _).mono ?_;rintro e w59 ⟨rfl,hB⟩
 have HB_60:=bz HB_58 hB
 have HR26_60:=zq ((HR26_58.out.keep hB).mono hB.size)
 have HR31_60:=zq ((HR31_58.out.keep hB).mono hB.size)
 clear hB HB_58 HR26_58 HR31_58
 go_wp2_with fail
 refine (HLA.out (⟨#[98]⟩) _).mono ?_;rintro e w61 ⟨rfl,hB⟩
 have HB_62:=bz HB_60 hB
 have HR26_62:=zq ((HR26_60.out.keep hB).mono hB.size)
 have HR31_62:=zq ((HR31_60.out.keep hB).mono hB.size)
 clear hB HB_60 HR26_60 HR31_60
 go_wp2_with fail
 refine (HLA.out (⟨#[97,98]⟩) _).mono ?_;rintro e w63 ⟨rfl,hB⟩
 have HB_64:=bz HB_62 hB
 have HR26_64:=zq ((HR26_62.out.keep hB).mono hB.size)
 have HR31_64:=zq ((HR31_62.out.keep hB).mono hB.size)
 clear hB HB_62 HR26_62 HR31_62
 obtain ⟨y65,HY65⟩:=lz (w63.alloc (.cells #[.int .i64 2,.int .i64 0,.string ⟨#[97]⟩,.slice none 0 0,.int .i64 2,.int .i64 0,.string ⟨#[98]⟩,.slice none 0 0,.int .i64 2,.int .i64 0,.string ⟨#[97,98]⟩,.slice none 0 0] 32))
 have hB:Below w63.heap.size w63 y65:=by rw [HY65.out];exact (Below.refl _ _).alloc (Nat.le_refl _) _
 have HRN36:Hid (TmsAt y65.heap.size y65 (some ⟨w63.heap.size,0,none⟩) [(atomT (⟨#[97]⟩)),(atomT (⟨#[98]⟩)),(atomT (⟨#[97,98]⟩))]):=zq (by
  rw [HY65.out]
  exact row_new w63 [((atomT (⟨#[97]⟩)),none,0),((atomT (⟨#[98]⟩)),none,0),((atomT (⟨#[97,98]⟩)),none,0)] 32 (by simp [maxLen]) (fun r hr=>by
   simp only [List.mem_cons,List.mem_nil_iff,or_false] at hr
   rcases hr with rfl | rfl | rfl
   ·exact TmsK.nil
   ·exact TmsK.nil
   ·exact TmsK.nil))
 have HB_66:=bz HB_64 hB
 have HR26_66:=zq ((HR26_64.out.keep hB).mono hB.size)
 have HR31_66:=zq ((HR31_64.out.keep hB).mono hB.size)
 clear hB HB_64 HR26_64 HR31_64
 go_wp2_with fail
 rw [←HY65.out]
 clear HY65
 refine (HLF.out ⟨#[97,116,111,109,95,99,111,110,99,97,116]⟩ _ _ _ _).mono ?_;rintro e w67 ⟨rfl,hB⟩
 have HB_68:=bz HB_66 hB
 have HR26_68:=zq ((HR26_66.out.keep hB).mono hB.size)
 have HR31_68:=zq ((HR31_66.out.keep hB).mono hB.size)
 have HR36_68:=zq ((HRN36.out.keep hB).mono hB.size)
 clear hB HB_66 HR26_66 HR31_66 HRN36
 go_wp2_with fail
 refine (HLA.out (⟨#[97,98]⟩) _).mono ?_;rintro e w69 ⟨rfl,hB⟩
 have HB_70:=bz HB_68 hB
 have HR26_70:=zq ((HR26_68.out.keep hB).mono hB.size)
 have HR31_70:=zq ((HR31_68.out.keep hB).mono hB.size)
 have HR36_70:=zq ((HR36_68.out.keep hB).mono hB.size)
 clear hB HB_68 HR26_68 HR31_68 HR36_68
 go_wp2_with fail
 refine (HLA.out (⟨#[]⟩) _).mono ?_;rintro e w71 ⟨rfl,hB⟩
 have HB_72:=bz HB_70 hB
 have HR26_72:=zq ((HR26_70.out.keep hB).mono hB.size)
 have HR31_72:=zq ((HR31_70.out.keep hB).mono hB.size)
 have HR36_72:=zq ((HR36_70.out.keep hB).mono hB.size)
 clear hB HB_70 HR26_70 HR31_70 HR36_70
 go_wp2_with fail
 refine (HLA.out (⟨#[97,98]⟩) _).mono ?_;rintro e w73 ⟨rfl,hB⟩
 have HB_74:=bz HB_72 hB
 have HR26_74:=zq ((HR26_72.out.keep hB).mono hB.size)
 have HR31_74:=zq ((HR31_72.out.keep hB).mono hB.size)
 have HR36_74:=zq ((HR36_72.out.keep hB).mono hB.size)
 clear hB HB_72 HR26_72 HR31_72 HR36_72
 obtain ⟨y75,HY75⟩:=lz (w73.alloc (.cells #[.int .i64 2,.int .i64 0,.string ⟨#[97,98]⟩,.slice none 0 0,.int .i64 2,.int .i64 0,.string ⟨#[]⟩,.slice none 0 0,.int .i64 2,.int .i64 0,.string ⟨#[97,98]⟩,.slice none 0 0] 32))
 have hB:Below w73.heap.size w73 y75:=by rw [HY75.out];exact (Below.refl _ _).alloc (Nat.le_refl _) _
 have HRN41:Hid (TmsAt y75.heap.size y75 (some ⟨w73.heap.size,0,none⟩) [(atomT (⟨#[97,98]⟩)),(atomT (⟨#[]⟩)),(atomT (⟨#[97,98]⟩))]):=zq (by
  rw [HY75.out]
  exact row_new w73 [((atomT (⟨#[97,98]⟩)),none,0),((atomT (⟨#[]⟩)),none,0),((atomT (⟨#[97,98]⟩)),none,0)] 32 (by simp [maxLen]) (fun r hr=>by
   simp only [List.mem_cons,List.mem_nil_iff,or_false] at hr
   rcases hr with rfl | rfl | rfl
   ·exact TmsK.nil
   ·exact TmsK.nil
   ·exact TmsK.nil))
 have HB_76:=bz HB_74 hB
 have HR26_76:=zq ((HR26_74.out.keep hB).mono hB.size)
 have HR31_76:=zq ((HR31_74.out.keep hB).mono hB.size)
 have HR36_76:=zq ((HR36_74.out.keep hB).mono hB.size)
 clear hB HB_74 HR26_74 HR31_74 HR36_74
 go_wp2_with fail
 rw [←HY75.out]
 clear HY75
 refine (HLF.out ⟨#[97,116,111,109,95,99,111,110,99,97,116]⟩ _ _ _ _).mono ?_;rintro e w77 ⟨rfl,hB⟩
 have HB_78:=bz HB_76 hB
 have HR26_78:=zq ((HR26_76.out.keep hB).mono hB.size)
 have HR31_78:=zq ((HR31_76.out.keep hB).mono hB.size)
 have HR36_78:=zq ((HR36_76.out.keep hB).mono hB.size)
 have HR41_78:=zq ((HRN41.out.keep hB).mono hB.size)
 clear hB HB_76 HR26_76 HR31_76 HR36_76 HRN41
 obtain ⟨y79,HY79⟩:=lz (w77.alloc (.cells #[.int .i64 3,.int .i64 0,.string ⟨#[97,116,111,109,95,99,111,110,99,97,116]⟩,.slice (some ⟨w53.heap.size,0,none⟩) 3 3,.int .i64 3,.int .i64 0,.string ⟨#[97,116,111,109,95,99,111,110,99,97,116]⟩,.slice (some ⟨w63.heap.size,0,none⟩) 3 3,.int .i64 3,.int .i64 0,.string ⟨#[97,116,111,109,95,99,111,110,99,97,116]⟩,.slice (some ⟨w73.heap.size,0,none⟩) 3 3] 32))
 have hB:Below w77.heap.size w77 y79:=by rw [HY79.out];exact (Below.refl _ _).alloc (Nat.le_refl _) _
 have HRN43:Hid (TmsAt y79.heap.size y79 (some ⟨w77.heap.size,0,none⟩) [(strT ⟨#[97,116,111,109,95,99,111,110,99,97,116]⟩ [(atomT (⟨#[]⟩)),(atomT (⟨#[97,98]⟩)),(atomT (⟨#[97,98]⟩))]),(strT ⟨#[97,116,111,109,95,99,111,110,99,97,116]⟩ [(atomT (⟨#[97]⟩)),(atomT (⟨#[98]⟩)),(atomT (⟨#[97,98]⟩))]),(strT ⟨#[97,116,111,109,95,99,111,110,99,97,116]⟩ [(atomT (⟨#[97,98]⟩)),(atomT (⟨#[]⟩)),(atomT (⟨#[97,98]⟩))])]):=zq (by
  rw [HY79.out]
  exact row_new w77 [((strT ⟨#[97,116,111,109,95,99,111,110,99,97,116]⟩ [(atomT (⟨#[]⟩)),(atomT (⟨#[97,98]⟩)),(atomT (⟨#[97,98]⟩))]),(some ⟨w53.heap.size,0,none⟩),3),((strT ⟨#[97,116,111,109,95,99,111,110,99,97,116]⟩ [(atomT (⟨#[97]⟩)),(atomT (⟨#[98]⟩)),(atomT (⟨#[97,98]⟩))]),(some ⟨w63.heap.size,0,none⟩),3),((strT ⟨#[97,116,111,109,95,99,111,110,99,97,116]⟩ [(atomT (⟨#[97,98]⟩)),(atomT (⟨#[]⟩)),(atomT (⟨#[97,98]⟩))]),(some ⟨w73.heap.size,0,none⟩),3)] 32 (by simp [maxLen]) (fun r hr=>by
   simp only [List.mem_cons,List.mem_nil_iff,or_false] at hr
   rcases hr with rfl | rfl | rfl
   ·exact HR31_78.out
   ·exact HR36_78.out
   ·exact HR41_78.out))
 have HB_80:=bz HB_78 hB
 have HR26_80:=zq ((HR26_78.out.keep hB).mono hB.size)
 clear hB HB_78 HR26_78 HR31_78 HR36_78 HR41_78
 go_wp2_with fail
 rw [←HY79.out]
 clear HY79
 have HG81:Hid (Calls Tryz.prog 15 #[.agg #[.int .i64 3,.int .i64 0,.string ⟨#[97,116,111,109,95,99,111,110,99,97,116]⟩,.slice (some ⟨w43.heap.size,0,none⟩) 3 3],.slice (some ⟨w77.heap.size,0,none⟩) 3 3] y79 fun e w'=>e=.returned (.bool true)∧Below y79.heap.size y79 w'):=zq (by
  have h:=l_gives (strT ⟨#[97,116,111,109,95,99,111,110,99,97,116]⟩ [(varT (0)),(varT (1)),(atomT (⟨#[97,98]⟩))]) (some ⟨w43.heap.size,0,none⟩) 3 [(strT ⟨#[97,116,111,109,95,99,111,110,99,97,116]⟩ [(atomT (⟨#[]⟩)),(atomT (⟨#[97,98]⟩)),(atomT (⟨#[97,98]⟩))]),(strT ⟨#[97,116,111,109,95,99,111,110,99,97,116]⟩ [(atomT (⟨#[97]⟩)),(atomT (⟨#[98]⟩)),(atomT (⟨#[97,98]⟩))]),(strT ⟨#[97,116,111,109,95,99,111,110,99,97,116]⟩ [(atomT (⟨#[97,98]⟩)),(atomT (⟨#[]⟩)),(atomT (⟨#[97,98]⟩))])] (some ⟨w77.heap.size,0,none⟩) 3 3 y79 (HDO.out.below HB_80.out) (i64_of ⟨⟨by decide,by decide⟩,⟨by decide,by decide⟩,i64_zero,trivial⟩) (Nat.le_refl _) HR26_80.out rfl HRN43.out
  rw [show givesB (strT ⟨#[97,116,111,109,95,99,111,110,99,97,116]⟩ [(varT (0)),(varT (1)),(atomT (⟨#[97,98]⟩))]) [(strT ⟨#[97,116,111,109,95,99,111,110,99,97,116]⟩ [(atomT (⟨#[]⟩)),(atomT (⟨#[97,98]⟩)),(atomT (⟨#[97,98]⟩))]),(strT ⟨#[97,116,111,109,95,99,111,110,99,97,116]⟩ [(atomT (⟨#[97]⟩)),(atomT (⟨#[98]⟩)),(atomT (⟨#[97,98]⟩))]),(strT ⟨#[97,116,111,109,95,99,111,110,99,97,116]⟩ [(atomT (⟨#[97,98]⟩)),(atomT (⟨#[]⟩)),(atomT (⟨#[97,98]⟩))])]=true by exact ex3] at h
  exact h)
 refine HG81.out.mono ?_;rintro e w81 ⟨rfl,hB⟩
 clear HG81
 have HB_82:=bz HB_80 hB
 clear hB HB_80 HR26_80 HRN43
 go_wp2_with fail
 refine (HLA.out (⟨#[97,98]⟩) _).mono ?_;rintro e w83 ⟨rfl,hB⟩
 have HB_84:=bz HB_82 hB
 clear hB HB_82
 go_wp2_with fail
 refine (HLX.out (0) _).mono ?_;rintro e w85 ⟨rfl,hB⟩
 have HB_86:=bz HB_84 hB
 clear hB HB_84
 go_wp2_with fail
 refine (HLN.out (1) _).mono ?_;rintro e w87 ⟨rfl,hB⟩
 have HB_88:=bz HB_86 hB
 clear hB HB_86
 go_wp2_with fail
 refine (HLX.out (1) _).mono ?_;rintro e w89 ⟨rfl,hB⟩
 have HB_90:=bz HB_88 hB
 clear hB HB_88
 go_wp2_with fail
 refine (HLX.out (2) _).mono ?_;rintro e w91 ⟨rfl,hB⟩
 have HB_92:=bz HB_90 hB
 clear hB HB_90
 obtain ⟨y93,HY93⟩:=lz (w91.alloc (.cells #[.int .i64 2,.int .i64 0,.string ⟨#[97,98]⟩,.slice none 0 0,.int .i64 0,.int .i64 0,.string ⟨#[]⟩,.slice none 0 0,.int .i64 1,.int .i64 1,.string ⟨#[]⟩,.slice none 0 0,.int .i64 0,.int .i64 1,.string ⟨#[]⟩,.slice none 0 0,.int .i64 0,.int .i64 2,.string ⟨#[]⟩,.slice none 0 0] 32))
 have hB:Below w91.heap.size w91 y93:=by rw [HY93.out];exact (Below.refl _ _).alloc (Nat.le_refl _) _
 have HRN52:Hid (TmsAt y93.heap.size y93 (some ⟨w91.heap.size,0,none⟩) [(atomT (⟨#[97,98]⟩)),(varT (0)),(intT (1)),(varT (1)),(varT (2))]):=zq (by
  rw [HY93.out]
  exact row_new w91 [((atomT (⟨#[97,98]⟩)),none,0),((varT (0)),none,0),((intT (1)),none,0),((varT (1)),none,0),((varT (2)),none,0)] 32 (by simp [maxLen]) (fun r hr=>by
   simp only [List.mem_cons,List.mem_nil_iff,or_false] at hr
   rcases hr with rfl | rfl | rfl | rfl | rfl
   ·exact TmsK.nil
   ·exact TmsK.nil
   ·exact TmsK.nil
   ·exact TmsK.nil
   ·exact TmsK.nil))
 have HB_94:=bz HB_92 hB
 clear hB HB_92
 go_wp2_with fail
 rw [←HY93.out]
 clear HY93
 refine (HLF.out ⟨#[115,117,98,95,97,116,111,109]⟩ _ _ _ _).mono ?_;rintro e w95 ⟨rfl,hB⟩
 have HB_96:=bz HB_94 hB
 have HR52_96:=zq ((HRN52.out.keep hB).mono hB.size)
 clear hB HB_94 HRN52
 go_wp2_with fail
 refine (HLA.out (⟨#[97,98]⟩) _).mono ?_;rintro e w97 ⟨rfl,hB⟩
 have HB_98:=bz HB_96 hB
 have HR52_98:=zq ((HR52_96.out.keep hB).mono hB.size)
 clear hB HB_96 HR52_96
 go_wp2_with fail
 refine (HLN.out (0) _).mono ?_;rintro e w99 ⟨rfl,hB⟩
 have HB_100:=bz HB_98 hB
 have HR52_100:=zq ((HR52_98.out.keep hB).mono hB.size)
 clear hB HB_98 HR52_98
 go_wp2_with fail
 refine (HLN.out (1) _).mono ?_;rintro e w101 ⟨rfl,hB⟩
 have HB_102:=bz HB_100 hB
 have HR52_102:=zq ((HR52_100.out.keep hB).mono hB.size)
 clear hB HB_100 HR52_100
 go_wp2_with fail
 refine (HLN.out (1) _).mono ?_;rintro e w103 ⟨rfl,hB⟩
 have HB_104:=bz HB_102 hB
 have HR52_104:=zq ((HR52_102.out.keep hB).mono hB.size)
 clear hB HB_102 HR52_102
 go_wp2_with fail
 refine (HLA.out (⟨#[97]⟩) _).mono ?_;rintro e w105 ⟨rfl,hB⟩
 have HB_106:=bz HB_104 hB
 have HR52_106:=zq ((HR52_104.out.keep hB).mono hB.size)
 clear hB HB_104 HR52_104
 obtain ⟨y107,HY107⟩:=lz (w105.alloc (.cells #[.int .i64 2,.int .i64 0,.string ⟨#[97,98]⟩,.slice none 0 0,.int .i64 1,.int .i64 0,.string ⟨#[]⟩,.slice none 0 0,.int .i64 1,.int .i64 1,.string ⟨#[]⟩,.slice none 0 0,.int .i64 1,.int .i64 1,.string ⟨#[]⟩,.slice none 0 0,.int .i64 2,.int .i64 0,.string ⟨#[97]⟩,.slice none 0 0] 32))
 have hB:Below w105.heap.size w105 y107:=by rw [HY107.out];exact (Below.refl _ _).alloc (Nat.le_refl _) _
 have HRN59:Hid (TmsAt y107.heap.size y107 (some ⟨w105.heap.size,0,none⟩) [(atomT (⟨#[97,98]⟩)),(intT (0)),(intT (1)),(intT (1)),(atomT (⟨#[97]⟩))]):=zq (by
  rw [HY107.out]
  exact row_new w105 [((atomT (⟨#[97,98]⟩)),none,0),((intT (0)),none,0),((intT (1)),none,0),((intT (1)),none,0),((atomT (⟨#[97]⟩)),none,0)] 32 (by simp [maxLen]) (fun r hr=>by
   simp only [List.mem_cons,List.mem_nil_iff,or_false] at hr
   rcases hr with rfl | rfl | rfl | rfl | rfl
   ·exact TmsK.nil
   ·exact TmsK.nil
   ·exact TmsK.nil
   ·exact TmsK.nil
   ·exact TmsK.nil))
 have HB_108:=bz HB_106 hB
 have HR52_108:=zq ((HR52_106.out.keep hB).mono hB.size)
 clear hB HB_106 HR52_106
 go_wp2_with fail
 rw [←HY107.out]
 clear HY107
 refine (HLF.out ⟨#[115,117,98,95,97,116,111,109]⟩ _ _ _ _).mono ?_;rintro e w109 ⟨rfl,hB⟩
 have HB_110:=bz HB_108 hB
 have HR52_110:=zq ((HR52_108.out.keep hB).mono hB.size)
 have HR59_110:=zq ((HRN59.out.keep hB).mono hB.size)
 clear hB HB_108 HR52_108 HRN59
 go_wp2_with fail
 refine (HLA.out (⟨#[97,98]⟩) _).mono ?_;rintro e w111 ⟨rfl,hB⟩
 have HB_112:=bz HB_110 hB
 have HR52_112:=zq ((HR52_110.out.keep hB).mono hB.size)
 have HR59_112:=zq ((HR59_110.out.keep hB).mono hB.size)
 clear hB HB_110 HR52_110 HR59_110
 go_wp2_with fail
 refine (HLN.out (1) _).mono ?_;rintro e w113 ⟨rfl,hB⟩
 have HB_114:=bz HB_112 hB
 have HR52_114:=zq ((HR52_112.out.keep hB).mono hB.size)
 have HR59_114:=zq ((HR59_112.out.keep hB).mono hB.size)
 clear hB HB_112 HR52_112 HR59_112
 go_wp2_with fail
 refine (HLN.out (1) _).mono ?_;rintro e w115 ⟨rfl,hB⟩
 have HB_116:=bz HB_114 hB
 have HR52_116:=zq ((HR52_114.out.keep hB).mono hB.size)
 have HR59_116:=zq ((HR59_114.out.keep hB).mono hB.size)
 clear hB HB_114 HR52_114 HR59_114
 go_wp2_with fail
 refine (HLN.out (0) _).mono ?_;rintro e w117 ⟨rfl,hB⟩
 have HB_118:=bz HB_116 hB
 have HR52_118:=zq ((HR52_116.out.keep hB).mono hB.size)
 have HR59_118:=zq ((HR59_116.out.keep hB).mono hB.size)
 clear hB HB_116 HR52_116 HR59_116
 go_wp2_with fail
 refine (HLA.out (⟨#[98]⟩) _).mono ?_;rintro e w119 ⟨rfl,hB⟩
 have HB_120:=bz HB_118 hB
 have HR52_120:=zq ((HR52_118.out.keep hB).mono hB.size)
 have HR59_120:=zq ((HR59_118.out.keep hB).mono hB.size)
 clear hB HB_118 HR52_118 HR59_118
 obtain ⟨y121,HY121⟩:=lz (w119.alloc (.cells #[.int .i64 2,.int .i64 0,.string ⟨#[97,98]⟩,.slice none 0 0,.int .i64 1,.int .i64 1,.string ⟨#[]⟩,.slice none 0 0,.int .i64 1,.int .i64 1,.string ⟨#[]⟩,.slice none 0 0,.int .i64 1,.int .i64 0,.string ⟨#[]⟩,.slice none 0 0,.int .i64 2,.int .i64 0,.string ⟨#[98]⟩,.slice none 0 0] 32))
 have hB:Below w119.heap.size w119 y121:=by rw [HY121.out];exact (Below.refl _ _).alloc (Nat.le_refl _) _
 have HRN66:Hid (TmsAt y121.heap.size y121 (some ⟨w119.heap.size,0,none⟩) [(atomT (⟨#[97,98]⟩)),(intT (1)),(intT (1)),(intT (0)),(atomT (⟨#[98]⟩))]):=zq (by
  rw [HY121.out]
  exact row_new w119 [((atomT (⟨#[97,98]⟩)),none,0),((intT (1)),none,0),((intT (1)),none,0),((intT (0)),none,0),((atomT (⟨#[98]⟩)),none,0)] 32 (by simp [maxLen]) (fun r hr=>by
   simp only [List.mem_cons,List.mem_nil_iff,or_false] at hr
   rcases hr with rfl | rfl | rfl | rfl | rfl
   ·exact TmsK.nil
   ·exact TmsK.nil
   ·exact TmsK.nil
   ·exact TmsK.nil
   ·exact TmsK.nil))
 have HB_122:=bz HB_120 hB
 have HR52_122:=zq ((HR52_120.out.keep hB).mono hB.size)
 have HR59_122:=zq ((HR59_120.out.keep hB).mono hB.size)
 clear hB HB_120 HR52_120 HR59_120
 go_wp2_with fail
 rw [←HY121.out]
 clear HY121
 refine (HLF.out ⟨#[115,117,98,95,97,116,111,109]⟩ _ _ _ _).mono ?_;rintro e w123 ⟨rfl,hB⟩
 have HB_124:=bz HB_122 hB
 have HR52_124:=zq ((HR52_122.out.keep hB).mono hB.size)
 have HR59_124:=zq ((HR59_122.out.keep hB).mono hB.size)
 have HR66_124:=zq ((HRN66.out.keep hB).mono hB.size)
 clear hB HB_122 HR52_122 HR59_122 HRN66
 obtain ⟨y125,HY125⟩:=lz (w123.alloc (.cells #[.int .i64 3,.int .i64 0,.string ⟨#[115,117,98,95,97,116,111,109]⟩,.slice (some ⟨w105.heap.size,0,none⟩) 5 5,.int .i64 3,.int .i64 0,.string ⟨#[115,117,98,95,97,116,111,109]⟩,.slice (some ⟨w119.heap.size,0,none⟩) 5 5] 32))
 have hB:Below w123.heap.size w123 y125:=by rw [HY125.out];exact (Below.refl _ _).alloc (Nat.le_refl _) _
 have HRN68:Hid (TmsAt y125.heap.size y125 (some ⟨w123.heap.size,0,none⟩) [(strT ⟨#[115,117,98,95,97,116,111,109]⟩ [(atomT (⟨#[97,98]⟩)),(intT (0)),(intT (1)),(intT (1)),(atomT (⟨#[97]⟩))]),(strT ⟨#[115,117,98,95,97,116,111,109]⟩ [(atomT (⟨#[97,98]⟩)),(intT (1)),(intT (1)),(intT (0)),(atomT (⟨#[98]⟩))])]):=zq (by
  rw [HY125.out]
  exact row_new w123 [((strT ⟨#[115,117,98,95,97,116,111,109]⟩ [(atomT (⟨#[97,98]⟩)),(intT (0)),(intT (1)),(intT (1)),(atomT (⟨#[97]⟩))]),(some ⟨w105.heap.size,0,none⟩),5),((strT ⟨#[115,117,98,95,97,116,111,109]⟩ [(atomT (⟨#[97,98]⟩)),(intT (1)),(intT (1)),(intT (0)),(atomT (⟨#[98]⟩))]),(some ⟨w119.heap.size,0,none⟩),5)] 32 (by simp [maxLen]) (fun r hr=>by
   simp only [List.mem_cons,List.mem_nil_iff,or_false] at hr
   rcases hr with rfl | rfl
   ·exact HR59_124.out
   ·exact HR66_124.out))
 have HB_126:=bz HB_124 hB
 have HR52_126:=zq ((HR52_124.out.keep hB).mono hB.size)
 clear hB HB_124 HR52_124 HR59_124 HR66_124
 go_wp2_with fail
 rw [←HY125.out]
 clear HY125
 have HG127:Hid (Calls Tryz.prog 15 #[.agg #[.int .i64 3,.int .i64 0,.string ⟨#[115,117,98,95,97,116,111,109]⟩,.slice (some ⟨w91.heap.size,0,none⟩) 5 5],.slice (some ⟨w123.heap.size,0,none⟩) 2 2] y125 fun e w'=>e=.returned (.bool true)∧Below y125.heap.size y125 w'):=zq (by
  have h:=l_gives (strT ⟨#[115,117,98,95,97,116,111,109]⟩ [(atomT (⟨#[97,98]⟩)),(varT (0)),(intT (1)),(varT (1)),(varT (2))]) (some ⟨w91.heap.size,0,none⟩) 5 [(strT ⟨#[115,117,98,95,97,116,111,109]⟩ [(atomT (⟨#[97,98]⟩)),(intT (0)),(intT (1)),(intT (1)),(atomT (⟨#[97]⟩))]),(strT ⟨#[115,117,98,95,97,116,111,109]⟩ [(atomT (⟨#[97,98]⟩)),(intT (1)),(intT (1)),(intT (0)),(atomT (⟨#[98]⟩))])] (some ⟨w123.heap.size,0,none⟩) 2 2 y125 (HDO.out.below HB_126.out) (i64_of ⟨i64_zero,⟨by decide,by decide⟩,⟨by decide,by decide⟩,⟨by decide,by decide⟩,⟨by decide,by decide⟩,trivial⟩) (Nat.le_refl _) HR52_126.out rfl HRN68.out
  rw [show givesB (strT ⟨#[115,117,98,95,97,116,111,109]⟩ [(atomT (⟨#[97,98]⟩)),(varT (0)),(intT (1)),(varT (1)),(varT (2))]) [(strT ⟨#[115,117,98,95,97,116,111,109]⟩ [(atomT (⟨#[97,98]⟩)),(intT (0)),(intT (1)),(intT (1)),(atomT (⟨#[97]⟩))]),(strT ⟨#[115,117,98,95,97,116,111,109]⟩ [(atomT (⟨#[97,98]⟩)),(intT (1)),(intT (1)),(intT (0)),(atomT (⟨#[98]⟩))])]=true by exact ex4] at h
  exact h)
 refine HG127.out.mono ?_;rintro e w127 ⟨rfl,hB⟩
 clear HG127
 have HB_128:=bz HB_126 hB
 clear hB HB_126 HR52_126 HRN68
 go_wp2_with fail
 refine (HLA.out (⟨#[97,98]⟩) _).mono ?_;rintro e w129 ⟨rfl,hB⟩
 have HB_130:=bz HB_128 hB
 clear hB HB_128
 go_wp2_with fail
 refine (HLX.out (0) _).mono ?_;rintro e w131 ⟨rfl,hB⟩
 have HB_132:=bz HB_130 hB
 clear hB HB_130
 obtain ⟨y133,HY133⟩:=lz (w131.alloc (.cells #[.int .i64 2,.int .i64 0,.string ⟨#[97,98]⟩,.slice none 0 0,.int .i64 0,.int .i64 0,.string ⟨#[]⟩,.slice none 0 0] 32))
 have hB:Below w131.heap.size w131 y133:=by rw [HY133.out];exact (Below.refl _ _).alloc (Nat.le_refl _) _
 have HRN74:Hid (TmsAt y133.heap.size y133 (some ⟨w131.heap.size,0,none⟩) [(atomT (⟨#[97,98]⟩)),(varT (0))]):=zq (by
  rw [HY133.out]
  exact row_new w131 [((atomT (⟨#[97,98]⟩)),none,0),((varT (0)),none,0)] 32 (by simp [maxLen]) (fun r hr=>by
   simp only [List.mem_cons,List.mem_nil_iff,or_false] at hr
   rcases hr with rfl | rfl
   ·exact TmsK.nil
   ·exact TmsK.nil))
 have HB_134:=bz HB_132 hB
 clear hB HB_132
 go_wp2_with fail
 rw [←HY133.out]
 clear HY133
 refine (HLF.out ⟨#[97,116,111,109,95,99,111,100,101,115]⟩ _ _ _ _).mono ?_;rintro e w135 ⟨rfl,hB⟩
 have HB_136:=bz HB_134 hB
 have HR74_136:=zq ((HRN74.out.keep hB).mono hB.size)
 clear hB HB_134 HRN74
 go_wp2_with fail
 refine (HLA.out (⟨#[97,98]⟩) _).mono ?_;rintro e w137 ⟨rfl,hB⟩
 have HB_138:=bz HB_136 hB
 have HR74_138:=zq ((HR74_136.out.keep hB).mono hB.size)
 clear hB HB_136 HR74_136
 go_wp2_with fail
 obtain ⟨R139,HRE139⟩:=lz (textT true (⟨#[97,98]⟩:ByteArray).data.toList)
 have HC139:Hid (∀X,Calls Tryz.prog 20 #[.string ⟨#[97,98]⟩] X fun e w'=>∃qa qc,e=.returned (.agg #[.int .i64 R139.kind,.int .i64 R139.num,.string R139.name,.slice qa R139.args.length qc])∧Below X.heap.size X w'∧TmsAt w'.heap.size w' qa R139.args):=zq fun X=>by
  rw [HRE139.out]
  exact (l_codes ⟨#[97,98]⟩ X (by decide)).mono fun e w' h=>by
   obtain ⟨qa,qc,he,hB,hN⟩:=h
   exact ⟨qa,qc,he,hB,hN.at'⟩
 refine (HC139.out _).mono ?_;rintro e w139 ⟨a139,c139,rfl,hB,hN⟩
 have HRN77:=zq hN
 clear hN HC139
 have HB_140:=bz HB_138 hB
 have HR74_140:=zq ((HR74_138.out.keep hB).mono hB.size)
 clear hB HB_138 HR74_138
 obtain ⟨y141,HY141⟩:=lz (w139.alloc (.cells #[.int .i64 2,.int .i64 0,.string ⟨#[97,98]⟩,.slice none 0 0,.int .i64 R139.kind,.int .i64 R139.num,.string R139.name,.slice a139 R139.args.length c139] 32))
 have hB:Below w139.heap.size w139 y141:=by rw [HY141.out];exact (Below.refl _ _).alloc (Nat.le_refl _) _
 have HRN78:Hid (TmsAt y141.heap.size y141 (some ⟨w139.heap.size,0,none⟩) [(atomT (⟨#[97,98]⟩)),R139]):=zq (by
  rw [HY141.out]
  exact row_new w139 [((atomT (⟨#[97,98]⟩)),none,0),(R139,a139,c139)] 32 (by simp [maxLen]) (fun r hr=>by
   simp only [List.mem_cons,List.mem_nil_iff,or_false] at hr
   rcases hr with rfl | rfl
   ·exact TmsK.nil
   ·exact HRN77.out))
 have HB_142:=bz HB_140 hB
 have HR74_142:=zq ((HR74_140.out.keep hB).mono hB.size)
 clear hB HB_140 HR74_140 HRN77
 go_wp2_with fail
 rw [←HY141.out]
 clear HY141
 refine (HLF.out ⟨#[97,116,111,109,95,99,111,100,101,115]⟩ _ _ _ _).mono ?_;rintro e w143 ⟨rfl,hB⟩
 have HB_144:=bz HB_142 hB
 have HR74_144:=zq ((HR74_142.out.keep hB).mono hB.size)
 have HR78_144:=zq ((HRN78.out.keep hB).mono hB.size)
 clear hB HB_142 HR74_142 HRN78
 obtain ⟨y145,HY145⟩:=lz (w143.alloc (.cells #[.int .i64 3,.int .i64 0,.string ⟨#[97,116,111,109,95,99,111,100,101,115]⟩,.slice (some ⟨w139.heap.size,0,none⟩) 2 2] 32))
 have hB:Below w143.heap.size w143 y145:=by rw [HY145.out];exact (Below.refl _ _).alloc (Nat.le_refl _) _
 have HRN80:Hid (TmsAt y145.heap.size y145 (some ⟨w143.heap.size,0,none⟩) [(strT ⟨#[97,116,111,109,95,99,111,100,101,115]⟩ [(atomT (⟨#[97,98]⟩)),R139])]):=zq (by
  rw [HY145.out]
  exact row_new w143 [((strT ⟨#[97,116,111,109,95,99,111,100,101,115]⟩ [(atomT (⟨#[97,98]⟩)),R139]),(some ⟨w139.heap.size,0,none⟩),2)] 32 (by simp [maxLen]) (fun r hr=>by
   simp only [List.mem_cons,List.mem_nil_iff,or_false] at hr
   rcases hr with rfl
   ·exact HR78_144.out))
 have HB_146:=bz HB_144 hB
 have HR74_146:=zq ((HR74_144.out.keep hB).mono hB.size)
 clear hB HB_144 HR74_144 HR78_144
 go_wp2_with fail
 rw [←HY145.out]
 clear HY145
 have HG147:Hid (Calls Tryz.prog 15 #[.agg #[.int .i64 3,.int .i64 0,.string ⟨#[97,116,111,109,95,99,111,100,101,115]⟩,.slice (some ⟨w131.heap.size,0,none⟩) 2 2],.slice (some ⟨w143.heap.size,0,none⟩) 1 1] y145 fun e w'=>e=.returned (.bool true)∧Below y145.heap.size y145 w'):=zq (by
  have h:=l_gives (strT ⟨#[97,116,111,109,95,99,111,100,101,115]⟩ [(atomT (⟨#[97,98]⟩)),(varT (0))]) (some ⟨w131.heap.size,0,none⟩) 2 [(strT ⟨#[97,116,111,109,95,99,111,100,101,115]⟩ [(atomT (⟨#[97,98]⟩)),R139])] (some ⟨w143.heap.size,0,none⟩) 1 1 y145 (HDO.out.below HB_146.out) (i64_of ⟨i64_zero,⟨by decide,by decide⟩,trivial⟩) (Nat.le_refl _) HR74_146.out rfl HRN80.out
  rw [show givesB (strT ⟨#[97,116,111,109,95,99,111,100,101,115]⟩ [(atomT (⟨#[97,98]⟩)),(varT (0))]) [(strT ⟨#[97,116,111,109,95,99,111,100,101,115]⟩ [(atomT (⟨#[97,98]⟩)),R139])]=true by rw [HRE139.out];exact ex5] at h
  exact h)
 refine HG147.out.mono ?_;rintro e w147 ⟨rfl,hB⟩
 clear HG147
 have HB_148:=bz HB_146 hB
 clear hB HB_146 HR74_146 HRN80
 go_wp2_with fail
 refine (HLX.out (0) _).mono ?_;rintro e w149 ⟨rfl,hB⟩
 have HB_150:=bz HB_148 hB
 clear hB HB_148
 go_wp2_with fail
 refine (HLN.out (97) _).mono ?_;rintro e w151 ⟨rfl,hB⟩
 have HB_152:=bz HB_150 hB
 clear hB HB_150
 obtain ⟨y153,HY153⟩:=lz (w151.alloc (.cells #[.int .i64 0,.int .i64 0,.string ⟨#[]⟩,.slice none 0 0,.int .i64 1,.int .i64 97,.string ⟨#[]⟩,.slice none 0 0] 32))
 have hB:Below w151.heap.size w151 y153:=by rw [HY153.out];exact (Below.refl _ _).alloc (Nat.le_refl _) _
 have HRN86:Hid (TmsAt y153.heap.size y153 (some ⟨w151.heap.size,0,none⟩) [(varT (0)),(intT (97))]):=zq (by
  rw [HY153.out]
  exact row_new w151 [((varT (0)),none,0),((intT (97)),none,0)] 32 (by simp [maxLen]) (fun r hr=>by
   simp only [List.mem_cons,List.mem_nil_iff,or_false] at hr
   rcases hr with rfl | rfl
   ·exact TmsK.nil
   ·exact TmsK.nil))
 have HB_154:=bz HB_152 hB
 clear hB HB_152
 go_wp2_with fail
 rw [←HY153.out]
 clear HY153
 refine (HLF.out ⟨#[99,104,97,114,95,99,111,100,101]⟩ _ _ _ _).mono ?_;rintro e w155 ⟨rfl,hB⟩
 have HB_156:=bz HB_154 hB
 have HR86_156:=zq ((HRN86.out.keep hB).mono hB.size)
 clear hB HB_154 HRN86
 go_wp2_with fail
 refine (HLA.out (⟨#[97]⟩) _).mono ?_;rintro e w157 ⟨rfl,hB⟩
 have HB_158:=bz HB_156 hB
 have HR86_158:=zq ((HR86_156.out.keep hB).mono hB.size)
 clear hB HB_156 HR86_156
 go_wp2_with fail
 refine (HLN.out (97) _).mono ?_;rintro e w159 ⟨rfl,hB⟩
 have HB_160:=bz HB_158 hB
 have HR86_160:=zq ((HR86_158.out.keep hB).mono hB.size)
 clear hB HB_158 HR86_158
 obtain ⟨y161,HY161⟩:=lz (w159.alloc (.cells #[.int .i64 2,.int .i64 0,.string ⟨#[97]⟩,.slice none 0 0,.int .i64 1,.int .i64 97,.string ⟨#[]⟩,.slice none 0 0] 32))
 have hB:Below w159.heap.size w159 y161:=by rw [HY161.out];exact (Below.refl _ _).alloc (Nat.le_refl _) _
 have HRN90:Hid (TmsAt y161.heap.size y161 (some ⟨w159.heap.size,0,none⟩) [(atomT (⟨#[97]⟩)),(intT (97))]):=zq (by
  rw [HY161.out]
  exact row_new w159 [((atomT (⟨#[97]⟩)),none,0),((intT (97)),none,0)] 32 (by simp [maxLen]) (fun r hr=>by
   simp only [List.mem_cons,List.mem_nil_iff,or_false] at hr
   rcases hr with rfl | rfl
   ·exact TmsK.nil
   ·exact TmsK.nil))
 have HB_162:=bz HB_160 hB
 have HR86_162:=zq ((HR86_160.out.keep hB).mono hB.size)
 clear hB HB_160 HR86_160
 go_wp2_with fail
 rw [←HY161.out]
 clear HY161
 refine (HLF.out ⟨#[99,104,97,114,95,99,111,100,101]⟩ _ _ _ _).mono ?_;rintro e w163 ⟨rfl,hB⟩
 have HB_164:=bz HB_162 hB
 have HR86_164:=zq ((HR86_162.out.keep hB).mono hB.size)
 have HR90_164:=zq ((HRN90.out.keep hB).mono hB.size)
 clear hB HB_162 HR86_162 HRN90
 obtain ⟨y165,HY165⟩:=lz (w163.alloc (.cells #[.int .i64 3,.int .i64 0,.string ⟨#[99,104,97,114,95,99,111,100,101]⟩,.slice (some ⟨w159.heap.size,0,none⟩) 2 2] 32))
 have hB:Below w163.heap.size w163 y165:=by rw [HY165.out];exact (Below.refl _ _).alloc (Nat.le_refl _) _
 have HRN92:Hid (TmsAt y165.heap.size y165 (some ⟨w163.heap.size,0,none⟩) [(strT ⟨#[99,104,97,114,95,99,111,100,101]⟩ [(atomT (⟨#[97]⟩)),(intT (97))])]):=zq (by
  rw [HY165.out]
  exact row_new w163 [((strT ⟨#[99,104,97,114,95,99,111,100,101]⟩ [(atomT (⟨#[97]⟩)),(intT (97))]),(some ⟨w159.heap.size,0,none⟩),2)] 32 (by simp [maxLen]) (fun r hr=>by
   simp only [List.mem_cons,List.mem_nil_iff,or_false] at hr
   rcases hr with rfl
   ·exact HR90_164.out))
 have HB_166:=bz HB_164 hB
 have HR86_166:=zq ((HR86_164.out.keep hB).mono hB.size)
 clear hB HB_164 HR86_164 HR90_164
 go_wp2_with fail
 rw [←HY165.out]
 clear HY165
 have HG167:Hid (Calls Tryz.prog 15 #[.agg #[.int .i64 3,.int .i64 0,.string ⟨#[99,104,97,114,95,99,111,100,101]⟩,.slice (some ⟨w151.heap.size,0,none⟩) 2 2],.slice (some ⟨w163.heap.size,0,none⟩) 1 1] y165 fun e w'=>e=.returned (.bool true)∧Below y165.heap.size y165 w'):=zq (by
  have h:=l_gives (strT ⟨#[99,104,97,114,95,99,111,100,101]⟩ [(varT (0)),(intT (97))]) (some ⟨w151.heap.size,0,none⟩) 2 [(strT ⟨#[99,104,97,114,95,99,111,100,101]⟩ [(atomT (⟨#[97]⟩)),(intT (97))])] (some ⟨w163.heap.size,0,none⟩) 1 1 y165 (HDO.out.below HB_166.out) (i64_of ⟨⟨by decide,by decide⟩,⟨by decide,by decide⟩,trivial⟩) (Nat.le_refl _) HR86_166.out rfl HRN92.out
  rw [show givesB (strT ⟨#[99,104,97,114,95,99,111,100,101]⟩ [(varT (0)),(intT (97))]) [(strT ⟨#[99,104,97,114,95,99,111,100,101]⟩ [(atomT (⟨#[97]⟩)),(intT (97))])]=true by exact ex6] at h
  exact h)
 refine HG167.out.mono ?_;rintro e w167 ⟨rfl,hB⟩
 clear HG167
 have HB_168:=bz HB_166 hB
 clear hB HB_166 HR86_166 HRN92
 go_wp2_with fail
 refine (HLX.out (0) _).mono ?_;rintro e w169 ⟨rfl,hB⟩
 have HB_170:=bz HB_168 hB
 clear hB HB_168
 go_wp2_with fail
 obtain ⟨R171,HRE171⟩:=lz (textT true (⟨#[32,49,50]⟩:ByteArray).data.toList)
 have HC171:Hid (∀X,Calls Tryz.prog 20 #[.string ⟨#[32,49,50]⟩] X fun e w'=>∃qa qc,e=.returned (.agg #[.int .i64 R171.kind,.int .i64 R171.num,.string R171.name,.slice qa R171.args.length qc])∧Below X.heap.size X w'∧TmsAt w'.heap.size w' qa R171.args):=zq fun X=>by
  rw [HRE171.out]
  exact (l_codes ⟨#[32,49,50]⟩ X (by decide)).mono fun e w' h=>by
   obtain ⟨qa,qc,he,hB,hN⟩:=h
   exact ⟨qa,qc,he,hB,hN.at'⟩
 refine (HC171.out _).mono ?_;rintro e w171 ⟨a171,c171,rfl,hB,hN⟩
 have HRN97:=zq hN
 clear hN HC171
 have HB_172:=bz HB_170 hB
 clear hB HB_170
 obtain ⟨y173,HY173⟩:=lz (w171.alloc (.cells #[.int .i64 0,.int .i64 0,.string ⟨#[]⟩,.slice none 0 0,.int .i64 R171.kind,.int .i64 R171.num,.string R171.name,.slice a171 R171.args.length c171] 32))
 have hB:Below w171.heap.size w171 y173:=by rw [HY173.out];exact (Below.refl _ _).alloc (Nat.le_refl _) _
 have HRN98:Hid (TmsAt y173.heap.size y173 (some ⟨w171.heap.size,0,none⟩) [(varT (0)),R171]):=zq (by
  rw [HY173.out]
  exact row_new w171 [((varT (0)),none,0),(R171,a171,c171)] 32 (by simp [maxLen]) (fun r hr=>by
   simp only [List.mem_cons,List.mem_nil_iff,or_false] at hr
   rcases hr with rfl | rfl
   ·exact TmsK.nil
   ·exact HRN97.out))
 have HB_174:=bz HB_172 hB
 clear hB HB_172 HRN97
 go_wp2_with fail
 rw [←HY173.out]
 clear HY173
 refine (HLF.out ⟨#[110,117,109,98,101,114,95,99,111,100,101,115]⟩ _ _ _ _).mono ?_;rintro e w175 ⟨rfl,hB⟩
 have HB_176:=bz HB_174 hB
 have HR98_176:=zq ((HRN98.out.keep hB).mono hB.size)
 clear hB HB_174 HRN98
 go_wp2_with fail
 refine (HLN.out (12) _).mono ?_;rintro e w177 ⟨rfl,hB⟩
 have HB_178:=bz HB_176 hB
 have HR98_178:=zq ((HR98_176.out.keep hB).mono hB.size)
 clear hB HB_176 HR98_176
 go_wp2_with fail
 obtain ⟨R179,HRE179⟩:=lz (textT true (⟨#[32,49,50]⟩:ByteArray).data.toList)
 have HC179:Hid (∀X,Calls Tryz.prog 20 #[.string ⟨#[32,49,50]⟩] X fun e w'=>∃qa qc,e=.returned (.agg #[.int .i64 R179.kind,.int .i64 R179.num,.string R179.name,.slice qa R179.args.length qc])∧Below X.heap.size X w'∧TmsAt w'.heap.size w' qa R179.args):=zq fun X=>by
  rw [HRE179.out]
  exact (l_codes ⟨#[32,49,50]⟩ X (by decide)).mono fun e w' h=>by
   obtain ⟨qa,qc,he,hB,hN⟩:=h
   exact ⟨qa,qc,he,hB,hN.at'⟩
 refine (HC179.out _).mono ?_;rintro e w179 ⟨a179,c179,rfl,hB,hN⟩
 have HRN101:=zq hN
 clear hN HC179
 have HB_180:=bz HB_178 hB
 have HR98_180:=zq ((HR98_178.out.keep hB).mono hB.size)
 clear hB HB_178 HR98_178
 obtain ⟨y181,HY181⟩:=lz (w179.alloc (.cells #[.int .i64 1,.int .i64 12,.string ⟨#[]⟩,.slice none 0 0,.int .i64 R179.kind,.int .i64 R179.num,.string R179.name,.slice a179 R179.args.length c179] 32))
 have hB:Below w179.heap.size w179 y181:=by rw [HY181.out];exact (Below.refl _ _).alloc (Nat.le_refl _) _
 have HRN102:Hid (TmsAt y181.heap.size y181 (some ⟨w179.heap.size,0,none⟩) [(intT (12)),R179]):=zq (by
  rw [HY181.out]
  exact row_new w179 [((intT (12)),none,0),(R179,a179,c179)] 32 (by simp [maxLen]) (fun r hr=>by
   simp only [List.mem_cons,List.mem_nil_iff,or_false] at hr
   rcases hr with rfl | rfl
   ·exact TmsK.nil
   ·exact HRN101.out))
 have HB_182:=bz HB_180 hB
 have HR98_182:=zq ((HR98_180.out.keep hB).mono hB.size)
 clear hB HB_180 HR98_180 HRN101
 go_wp2_with fail
 rw [←HY181.out]
 clear HY181
 refine (HLF.out ⟨#[110,117,109,98,101,114,95,99,111,100,101,115]⟩ _ _ _ _).mono ?_;rintro e w183 ⟨rfl,hB⟩
 have HB_184:=bz HB_182 hB
 have HR98_184:=zq ((HR98_182.out.keep hB).mono hB.size)
 have HR102_184:=zq ((HRN102.out.keep hB).mono hB.size)
 clear hB HB_182 HR98_182 HRN102
 obtain ⟨y185,HY185⟩:=lz (w183.alloc (.cells #[.int .i64 3,.int .i64 0,.string ⟨#[110,117,109,98,101,114,95,99,111,100,101,115]⟩,.slice (some ⟨w179.heap.size,0,none⟩) 2 2] 32))
 have hB:Below w183.heap.size w183 y185:=by rw [HY185.out];exact (Below.refl _ _).alloc (Nat.le_refl _) _
 have HRN104:Hid (TmsAt y185.heap.size y185 (some ⟨w183.heap.size,0,none⟩) [(strT ⟨#[110,117,109,98,101,114,95,99,111,100,101,115]⟩ [(intT (12)),R179])]):=zq (by
  rw [HY185.out]
  exact row_new w183 [((strT ⟨#[110,117,109,98,101,114,95,99,111,100,101,115]⟩ [(intT (12)),R179]),(some ⟨w179.heap.size,0,none⟩),2)] 32 (by simp [maxLen]) (fun r hr=>by
   simp only [List.mem_cons,List.mem_nil_iff,or_false] at hr
   rcases hr with rfl
   ·exact HR102_184.out))
 have HB_186:=bz HB_184 hB
 have HR98_186:=zq ((HR98_184.out.keep hB).mono hB.size)
 clear hB HB_184 HR98_184 HR102_184
 go_wp2_with fail
 rw [←HY185.out]
 clear HY185
 have HG187:Hid (Calls Tryz.prog 15 #[.agg #[.int .i64 3,.int .i64 0,.string ⟨#[110,117,109,98,101,114,95,99,111,100,101,115]⟩,.slice (some ⟨w171.heap.size,0,none⟩) 2 2],.slice (some ⟨w183.heap.size,0,none⟩) 1 1] y185 fun e w'=>e=.returned (.bool true)∧Below y185.heap.size y185 w'):=zq (by
  have h:=l_gives (strT ⟨#[110,117,109,98,101,114,95,99,111,100,101,115]⟩ [(varT (0)),R171]) (some ⟨w171.heap.size,0,none⟩) 2 [(strT ⟨#[110,117,109,98,101,114,95,99,111,100,101,115]⟩ [(intT (12)),R179])] (some ⟨w183.heap.size,0,none⟩) 1 1 y185 (HDO.out.below HB_186.out) (i64_of ⟨⟨by decide,by decide⟩,(by rw [HRE171.out];exact i64_text _ _),trivial⟩) (Nat.le_refl _) HR98_186.out rfl HRN104.out
  rw [show givesB (strT ⟨#[110,117,109,98,101,114,95,99,111,100,101,115]⟩ [(varT (0)),R171]) [(strT ⟨#[110,117,109,98,101,114,95,99,111,100,101,115]⟩ [(intT (12)),R179])]=true by rw [HRE171.out,HRE179.out];exact ex7] at h
  exact h)
 refine HG187.out.mono ?_;rintro e w187 ⟨rfl,hB⟩
 clear HG187
 have HB_188:=bz HB_186 hB
 clear hB HB_186 HR98_186 HRN104
 go_wp2_with fail
 refine (HLX.out (0) _).mono ?_;rintro e w189 ⟨rfl,hB⟩
 have HB_190:=bz HB_188 hB
 clear hB HB_188
 go_wp2_with fail
 obtain ⟨R191,HRE191⟩:=lz (textT false (⟨#[97]⟩:ByteArray).data.toList)
 have HC191:Hid (∀X,Calls Tryz.prog 19 #[.string ⟨#[97]⟩] X fun e w'=>∃qa qc,e=.returned (.agg #[.int .i64 R191.kind,.int .i64 R191.num,.string R191.name,.slice qa R191.args.length qc])∧Below X.heap.size X w'∧TmsAt w'.heap.size w' qa R191.args):=zq fun X=>by
  rw [HRE191.out]
  exact (l_chars ⟨#[97]⟩ X (by decide)).mono fun e w' h=>by
   obtain ⟨qa,qc,he,hB,hN⟩:=h
   exact ⟨qa,qc,he,hB,hN.at'⟩
 refine (HC191.out _).mono ?_;rintro e w191 ⟨a191,c191,rfl,hB,hN⟩
 have HRN109:=zq hN
 clear hN HC191
 have HB_192:=bz HB_190 hB
 clear hB HB_190
 obtain ⟨y193,HY193⟩:=lz (w191.alloc (.cells #[.int .i64 0,.int .i64 0,.string ⟨#[]⟩,.slice none 0 0,.int .i64 R191.kind,.int .i64 R191.num,.string R191.name,.slice a191 R191.args.length c191] 32))
 have hB:Below w191.heap.size w191 y193:=by rw [HY193.out];exact (Below.refl _ _).alloc (Nat.le_refl _) _
 have HRN110:Hid (TmsAt y193.heap.size y193 (some ⟨w191.heap.size,0,none⟩) [(varT (0)),R191]):=zq (by
  rw [HY193.out]
  exact row_new w191 [((varT (0)),none,0),(R191,a191,c191)] 32 (by simp [maxLen]) (fun r hr=>by
   simp only [List.mem_cons,List.mem_nil_iff,or_false] at hr
   rcases hr with rfl | rfl
   ·exact TmsK.nil
   ·exact HRN109.out))
 have HB_194:=bz HB_192 hB
 clear hB HB_192 HRN109
 go_wp2_with fail
 rw [←HY193.out]
 clear HY193
 refine (HLF.out ⟨#[110,117,109,98,101,114,95,99,104,97,114,115]⟩ _ _ _ _).mono ?_;rintro e w195 ⟨rfl,hB⟩
 have HB_196:=bz HB_194 hB
 have HR110_196:=zq ((HRN110.out.keep hB).mono hB.size)
 clear hB HB_194 HRN110
 go_wp2_with fail
 refine (HLN.out (0) _).mono ?_;rintro e w197 ⟨rfl,hB⟩
 have HB_198:=bz HB_196 hB
 have HR110_198:=zq ((HR110_196.out.keep hB).mono hB.size)
 clear hB HB_196 HR110_196
 obtain ⟨y199,HY199⟩:=lz (w197.alloc (.cells #[.int .i64 1,.int .i64 0,.string ⟨#[]⟩,.slice none 0 0] 32))
 have hB:Below w197.heap.size w197 y199:=by rw [HY199.out];exact (Below.refl _ _).alloc (Nat.le_refl _) _
 have HRN113:Hid (TmsAt y199.heap.size y199 (some ⟨w197.heap.size,0,none⟩) [(intT (0))]):=zq (by
  rw [HY199.out]
  exact row_new w197 [((intT (0)),none,0)] 32 (by simp [maxLen]) (fun r hr=>by
   simp only [List.mem_cons,List.mem_nil_iff,or_false] at hr
   rcases hr with rfl
   ·exact TmsK.nil))
 have HB_200:=bz HB_198 hB
 have HR110_200:=zq ((HR110_198.out.keep hB).mono hB.size)
 clear hB HB_198 HR110_198
 go_wp2_with fail
 rw [←HY199.out]
 clear HY199
 refine (HLF.out ⟨#[115,121,110,116,97,120,95,101,114,114,111,114]⟩ _ _ _ _).mono ?_;rintro e w201 ⟨rfl,hB⟩
 have HB_202:=bz HB_200 hB
 have HR110_202:=zq ((HR110_200.out.keep hB).mono hB.size)
 have HR113_202:=zq ((HRN113.out.keep hB).mono hB.size)
 clear hB HB_200 HR110_200 HRN113
 go_wp2_with fail
 have HG203:Hid (Calls Tryz.prog 25 #[.agg #[.int .i64 3,.int .i64 0,.string ⟨#[110,117,109,98,101,114,95,99,104,97,114,115]⟩,.slice (some ⟨w191.heap.size,0,none⟩) 2 2],.agg #[.int .i64 3,.int .i64 0,.string ⟨#[115,121,110,116,97,120,95,101,114,114,111,114]⟩,.slice (some ⟨w197.heap.size,0,none⟩) 1 1]] w201 fun e w'=>e=.returned (.bool true)∧Below w201.heap.size w201 w'):=zq (by
  have h:=l_raises (strT ⟨#[110,117,109,98,101,114,95,99,104,97,114,115]⟩ [(varT (0)),R191]) (strT ⟨#[115,121,110,116,97,120,95,101,114,114,111,114]⟩ [(intT (0))]) (some ⟨w191.heap.size,0,none⟩) 2 (some ⟨w197.heap.size,0,none⟩) 1 w201 (HDO.out.below HB_202.out) (i64_of ⟨⟨by decide,by decide⟩,(by rw [HRE191.out];exact i64_text _ _),trivial⟩) (Nat.le_refl _) HR110_202.out HR113_202.out (by rw [HRE191.out];exact ex8.2)
  rw [show raisesB (strT ⟨#[110,117,109,98,101,114,95,99,104,97,114,115]⟩ [(varT (0)),R191]) (strT ⟨#[115,121,110,116,97,120,95,101,114,114,111,114]⟩ [(intT (0))])=true by rw [HRE191.out];exact ex8.1] at h
  exact h)
 refine HG203.out.mono ?_;rintro e w203 ⟨rfl,hB⟩
 clear HG203
 have HB_204:=bz HB_202 hB
 clear hB HB_202 HR110_202 HR113_202
 go_wp2_with fail
 refine (HSU.out _).mono ?_;rintro e wz ⟨hB,hv⟩
 rw [if_pos (by decide)] at hv
 obtain ⟨v,rfl,hown⟩:=hv
 have HBZ:=bz HB_204 hB
 have hlen:(spansL (⟨#[97,98]⟩:ByteArray).size).length=6:=by decide
 rw [hlen] at hown
 obtain ⟨g,cap,rfl⟩:∃g cap,v=.slice (some ⟨g,0,none⟩) 6 cap:=by
  rcases hown.2 with ⟨_,h0⟩ | ⟨g,cap,cur,h',_⟩
  ·exact absurd h0 (by decide)
  ·exact ⟨g,cap,h'⟩
 clear hB hown HB_204 HSU
 go_wp2_with fail
 go_ret
 exact ⟨rfl,HBZ.out⟩
end Go.Proofs.YtpokpgkjaifccaaGreatDoorRR
