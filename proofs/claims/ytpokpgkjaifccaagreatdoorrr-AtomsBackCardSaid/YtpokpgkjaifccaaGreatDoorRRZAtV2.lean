/- Atoms: the law AtomsBack. -/
import Derived.Test.YtpokpgkjaifccaaGreatDoorRRH01
import Derived.Test.YtpokpgkjaifccaaGreatDoorRRH30
import Derived.Test.YtpokpgkjaifccaaGreatDoorRRZAtV1
import Derived.Test.YtpokpgkjaifccaaGreatDoorRRZRw
namespace Go.Proofs.YtpokpgkjaifccaaGreatDoorRR
open Go.RowKit Hb Go.Shelf
set_option maxRecDepth 100000
set_option maxHeartbeats 3200000 in
theorem law_back (s:ByteArray) (m:Int) (hm:I64 m) (w:World) (hD:DoorOk w):Calls Tryz.prog 5 #[.string s,.int .i64 m] w fun e w'=>e=.returned (.bool true)∧Below w.heap.size w w':=by
 have HDO:=zq hD
 have HLA:=zq (fun s W=>l_a s W)
 have HLX:=zq (fun n W=>l_x n W)
 have HLN:=zq (fun n W=>l_n n W)
 have HLF:=zq (fun s A n c W=>l_f s A n c W)
 have HIM:=zq hm
 have HFI:Hid (∀W,Below w.heap.size w W→Calls Tryz.prog 22 #[.int .i64 m,.int .i64 10] W fun e w'=>e=.returned (.string (fmA m))∧Below W.heap.size W w'):=zq fun W hW=>
  (Tryz.strconv_FormatInt_10 m hm.1 hm.2 W (hD.below hW).pow).mono fun _ _ ⟨he,k,os,hw⟩=>⟨he,by rw [hw];exact bl_growA W k os⟩
 have HAW:=zq (fun W (h:Below w.heap.size w W)=>l_awake W (hD.below h))
 have HFL:=zq (fm_len m hm)
 have HB0:=zq (Below.refl w.heap.size w)
 clear hD hm
 by_cases hs:s.size≤100
 ·have HSZ:=zq hs
  have hs':(s.size:Int)≤100:=by omega
  clear hs
  go_enter Tryz.func5,Tryz.ntmps5
  go_wp2_with fail
  refine (HLA.out (s) _).mono ?_;rintro e w1 ⟨rfl,hB⟩
  have HB_2:=bz HB0 hB
  clear hB HB0
  go_wp2_with fail
  refine (HLX.out (0) _).mono ?_;rintro e w3 ⟨rfl,hB⟩
  have HB_4:=bz HB_2 hB
  clear hB HB_2
  obtain ⟨y5,HY5⟩:=lz (w3.alloc (.cells #[.int .i64 2,.int .i64 0,.string (s),.slice none 0 0,.int .i64 0,.int .i64 0,.string ⟨#[]⟩,.slice none 0 0] 32))
  have hB:Below w3.heap.size w3 y5:=by rw [HY5.out];exact (Below.refl _ _).alloc (Nat.le_refl _) _
  have HRN15:Hid (TmsAt y5.heap.size y5 (some ⟨w3.heap.size,0,none⟩) [(atomT (s)),(varT (0))]):=zq (by
   rw [HY5.out]
   exact row_new w3 [((atomT (s)),none,0),((varT (0)),none,0)] 32 (by simp [maxLen]) (fun r hr=>by
    simp only [List.mem_cons,List.mem_nil_iff,or_false] at hr
    rcases hr with rfl | rfl
    ·exact TmsK.nil
    ·exact TmsK.nil))
  have HB_6:=bz HB_4 hB
  clear hB HB_4
  go_wp2_with fail
  rw [←HY5.out]
  clear HY5
  refine (HLF.out ⟨#[97,116,111,109,95,99,104,97,114,115]⟩ _ _ _ _).mono ?_;rintro e w7 ⟨rfl,hB⟩
  have HB_8:=bz HB_6 hB
  have HR15_8:=zq ((HRN15.out.keep hB).mono hB.size)
  clear hB HB_6 HRN15
  go_wp2_with fail
  refine (HLA.out (s) _).mono ?_;rintro e w9 ⟨rfl,hB⟩
  have HB_10:=bz HB_8 hB
  have HR15_10:=zq ((HR15_8.out.keep hB).mono hB.size)
  clear hB HB_8 HR15_8
  go_wp2_with fail
  obtain ⟨R11,HRE11⟩:=lz (textT false (s:ByteArray).data.toList)
  have HC11:Hid (∀X,Calls Tryz.prog 19 #[.string s] X fun e w'=>∃qa qc,e=.returned (.agg #[.int .i64 R11.kind,.int .i64 R11.num,.string R11.name,.slice qa R11.args.length qc])∧Below X.heap.size X w'∧TmsAt w'.heap.size w' qa R11.args):=zq fun X=>by
   rw [HRE11.out]
   exact (l_chars s X (by have:=HSZ.out;omega)).mono fun e w' h=>by
    obtain ⟨qa,qc,he,hB,hN⟩:=h
    exact ⟨qa,qc,he,hB,hN.at'⟩
  refine (HC11.out _).mono ?_;rintro e w11 ⟨a11,c11,rfl,hB,hN⟩
  have HRN20:=zq hN
  clear hN HC11
  have HB_12:=bz HB_10 hB
  have HR15_12:=zq ((HR15_10.out.keep hB).mono hB.size)
  clear hB HB_10 HR15_10
  obtain ⟨y13,HY13⟩:=lz (w11.alloc (.cells #[.int .i64 2,.int .i64 0,.string (s),.slice none 0 0,.int .i64 R11.kind,.int .i64 R11.num,.string R11.name,.slice a11 R11.args.length c11] 32))
  have hB:Below w11.heap.size w11 y13:=by rw [HY13.out];exact (Below.refl _ _).alloc (Nat.le_refl _) _
  have HRN21:Hid (TmsAt y13.heap.size y13 (some ⟨w11.heap.size,0,none⟩) [(atomT (s)),R11]):=zq (by
   rw [HY13.out]
   exact row_new w11 [((atomT (s)),none,0),(R11,a11,c11)] 32 (by simp [maxLen]) (fun r hr=>by
    simp only [List.mem_cons,List.mem_nil_iff,or_false] at hr
    rcases hr with rfl | rfl
    ·exact TmsK.nil
    ·exact HRN20.out))
  have HB_14:=bz HB_12 hB
  have HR15_14:=zq ((HR15_12.out.keep hB).mono hB.size)
  clear hB HB_12 HR15_12 HRN20
  go_wp2_with fail
  rw [←HY13.out]
  clear HY13
  refine (HLF.out ⟨#[97,116,111,109,95,99,104,97,114,115]⟩ _ _ _ _).mono ?_;rintro e w15 ⟨rfl,hB⟩
  have HB_16:=bz HB_14 hB
  have HR15_16:=zq ((HR15_14.out.keep hB).mono hB.size)
  have HR21_16:=zq ((HRN21.out.keep hB).mono hB.size)
  clear hB HB_14 HR15_14 HRN21
  obtain ⟨y17,HY17⟩:=lz (w15.alloc (.cells #[.int .i64 3,.int .i64 0,.string ⟨#[97,116,111,109,95,99,104,97,114,115]⟩,.slice (some ⟨w11.heap.size,0,none⟩) 2 2] 32))
  have hB:Below w15.heap.size w15 y17:=by rw [HY17.out];exact (Below.refl _ _).alloc (Nat.le_refl _) _
  have HRN23:Hid (TmsAt y17.heap.size y17 (some ⟨w15.heap.size,0,none⟩) [(strT ⟨#[97,116,111,109,95,99,104,97,114,115]⟩ [(atomT (s)),R11])]):=zq (by
   rw [HY17.out]
   exact row_new w15 [((strT ⟨#[97,116,111,109,95,99,104,97,114,115]⟩ [(atomT (s)),R11]),(some ⟨w11.heap.size,0,none⟩),2)] 32 (by simp [maxLen]) (fun r hr=>by
    simp only [List.mem_cons,List.mem_nil_iff,or_false] at hr
    rcases hr with rfl
    ·exact HR21_16.out))
  have HB_18:=bz HB_16 hB
  have HR15_18:=zq ((HR15_16.out.keep hB).mono hB.size)
  clear hB HB_16 HR15_16 HR21_16
  go_wp2_with fail
  rw [←HY17.out]
  clear HY17
  have HG19:Hid (Calls Tryz.prog 15 #[.agg #[.int .i64 3,.int .i64 0,.string ⟨#[97,116,111,109,95,99,104,97,114,115]⟩,.slice (some ⟨w3.heap.size,0,none⟩) 2 2],.slice (some ⟨w15.heap.size,0,none⟩) 1 1] y17 fun e w'=>e=.returned (.bool true)∧Below y17.heap.size y17 w'):=zq (by
   have h:=l_gives (strT ⟨#[97,116,111,109,95,99,104,97,114,115]⟩ [(atomT (s)),(varT (0))]) (some ⟨w3.heap.size,0,none⟩) 2 [(strT ⟨#[97,116,111,109,95,99,104,97,114,115]⟩ [(atomT (s)),R11])] (some ⟨w15.heap.size,0,none⟩) 1 1 y17 (HDO.out.below HB_18.out) (i64_of ⟨i64_zero,⟨by decide,by decide⟩,trivial⟩) (Nat.le_refl _) HR15_18.out rfl HRN23.out
   rw [show givesB (strT ⟨#[97,116,111,109,95,99,104,97,114,115]⟩ [(atomT (s)),(varT (0))]) [(strT ⟨#[97,116,111,109,95,99,104,97,114,115]⟩ [(atomT (s)),R11])]=true by rw [HRE11.out];exact bk_sp1 false s HSZ.out] at h
   exact h)
  refine HG19.out.mono ?_;rintro e w19 ⟨rfl,hB⟩
  clear HG19
  have HB_20:=bz HB_18 hB
  clear hB HB_18 HR15_18 HRN23
  go_wp2_with fail
  refine (HLA.out (s) _).mono ?_;rintro e w21 ⟨rfl,hB⟩
  have HB_22:=bz HB_20 hB
  clear hB HB_20
  go_wp2_with fail
  refine (HLX.out (0) _).mono ?_;rintro e w23 ⟨rfl,hB⟩
  have HB_24:=bz HB_22 hB
  clear hB HB_22
  obtain ⟨y25,HY25⟩:=lz (w23.alloc (.cells #[.int .i64 2,.int .i64 0,.string (s),.slice none 0 0,.int .i64 0,.int .i64 0,.string ⟨#[]⟩,.slice none 0 0] 32))
  have hB:Below w23.heap.size w23 y25:=by rw [HY25.out];exact (Below.refl _ _).alloc (Nat.le_refl _) _
  have HRN30:Hid (TmsAt y25.heap.size y25 (some ⟨w23.heap.size,0,none⟩) [(atomT (s)),(varT (0))]):=zq (by
   rw [HY25.out]
   exact row_new w23 [((atomT (s)),none,0),((varT (0)),none,0)] 32 (by simp [maxLen]) (fun r hr=>by
    simp only [List.mem_cons,List.mem_nil_iff,or_false] at hr
    rcases hr with rfl | rfl
    ·exact TmsK.nil
    ·exact TmsK.nil))
  have HB_26:=bz HB_24 hB
  clear hB HB_24
  go_wp2_with fail
  rw [←HY25.out]
  clear HY25
  refine (HLF.out ⟨#[97,116,111,109,95,99,111,100,101,115]⟩ _ _ _ _).mono ?_;rintro e w27 ⟨rfl,hB⟩
  have HB_28:=bz HB_26 hB
  have HR30_28:=zq ((HRN30.out.keep hB).mono hB.size)
  clear hB HB_26 HRN30
  go_wp2_with fail
  refine (HLA.out (s) _).mono ?_;rintro e w29 ⟨rfl,hB⟩
  have HB_30:=bz HB_28 hB
  have HR30_30:=zq ((HR30_28.out.keep hB).mono hB.size)
  clear hB HB_28 HR30_28
  go_wp2_with fail
  obtain ⟨R31,HRE31⟩:=lz (textT true (s:ByteArray).data.toList)
  have HC31:Hid (∀X,Calls Tryz.prog 20 #[.string s] X fun e w'=>∃qa qc,e=.returned (.agg #[.int .i64 R31.kind,.int .i64 R31.num,.string R31.name,.slice qa R31.args.length qc])∧Below X.heap.size X w'∧TmsAt w'.heap.size w' qa R31.args):=zq fun X=>by
   rw [HRE31.out]
   exact (l_codes s X (by have:=HSZ.out;omega)).mono fun e w' h=>by
    obtain ⟨qa,qc,he,hB,hN⟩:=h
    exact ⟨qa,qc,he,hB,hN.at'⟩
  refine (HC31.out _).mono ?_;rintro e w31 ⟨a31,c31,rfl,hB,hN⟩
  have HRN35:=zq hN
  clear hN HC31
  have HB_32:=bz HB_30 hB
  have HR30_32:=zq ((HR30_30.out.keep hB).mono hB.size)
  clear hB HB_30 HR30_30
  obtain ⟨y33,HY33⟩:=lz (w31.alloc (.cells #[.int .i64 2,.int .i64 0,.string (s),.slice none 0 0,.int .i64 R31.kind,.int .i64 R31.num,.string R31.name,.slice a31 R31.args.length c31] 32))
  have hB:Below w31.heap.size w31 y33:=by rw [HY33.out];exact (Below.refl _ _).alloc (Nat.le_refl _) _
  have HRN36:Hid (TmsAt y33.heap.size y33 (some ⟨w31.heap.size,0,none⟩) [(atomT (s)),R31]):=zq (by
   rw [HY33.out]
   exact row_new w31 [((atomT (s)),none,0),(R31,a31,c31)] 32 (by simp [maxLen]) (fun r hr=>by
    simp only [List.mem_cons,List.mem_nil_iff,or_false] at hr
    rcases hr with rfl | rfl
    ·exact TmsK.nil
    ·exact HRN35.out))
  have HB_34:=bz HB_32 hB
  have HR30_34:=zq ((HR30_32.out.keep hB).mono hB.size)
  clear hB HB_32 HR30_32 HRN35
  go_wp2_with fail
  rw [←HY33.out]
  clear HY33
  refine (HLF.out ⟨#[97,116,111,109,95,99,111,100,101,115]⟩ _ _ _ _).mono ?_;rintro e w35 ⟨rfl,hB⟩
  have HB_36:=bz HB_34 hB
  have HR30_36:=zq ((HR30_34.out.keep hB).mono hB.size)
  have HR36_36:=zq ((HRN36.out.keep hB).mono hB.size)
  clear hB HB_34 HR30_34 HRN36
  obtain ⟨y37,HY37⟩:=lz (w35.alloc (.cells #[.int .i64 3,.int .i64 0,.string ⟨#[97,116,111,109,95,99,111,100,101,115]⟩,.slice (some ⟨w31.heap.size,0,none⟩) 2 2] 32))
  have hB:Below w35.heap.size w35 y37:=by rw [HY37.out];exact (Below.refl _ _).alloc (Nat.le_refl _) _
  have HRN38:Hid (TmsAt y37.heap.size y37 (some ⟨w35.heap.size,0,none⟩) [(strT ⟨#[97,116,111,109,95,99,111,100,101,115]⟩ [(atomT (s)),R31])]):=zq (by
   rw [HY37.out]
   exact row_new w35 [((strT ⟨#[97,116,111,109,95,99,111,100,101,115]⟩ [(atomT (s)),R31]),(some ⟨w31.heap.size,0,none⟩),2)] 32 (by simp [maxLen]) (fun r hr=>by
    simp only [List.mem_cons,List.mem_nil_iff,or_false] at hr
    rcases hr with rfl
    ·exact HR36_36.out))
  have HB_38:=bz HB_36 hB
  have HR30_38:=zq ((HR30_36.out.keep hB).mono hB.size)
  clear hB HB_36 HR30_36 HR36_36
  go_wp2_with fail
  rw [←HY37.out]
  clear HY37
  have HG39:Hid (Calls Tryz.prog 15 #[.agg #[.int .i64 3,.int .i64 0,.string ⟨#[97,116,111,109,95,99,111,100,101,115]⟩,.slice (some ⟨w23.heap.size,0,none⟩) 2 2],.slice (some ⟨w35.heap.size,0,none⟩) 1 1] y37 fun e w'=>e=.returned (.bool true)∧Below y37.heap.size y37 w'):=zq (by
   have h:=l_gives (strT ⟨#[97,116,111,109,95,99,111,100,101,115]⟩ [(atomT (s)),(varT (0))]) (some ⟨w23.heap.size,0,none⟩) 2 [(strT ⟨#[97,116,111,109,95,99,111,100,101,115]⟩ [(atomT (s)),R31])] (some ⟨w35.heap.size,0,none⟩) 1 1 y37 (HDO.out.below HB_38.out) (i64_of ⟨i64_zero,⟨by decide,by decide⟩,trivial⟩) (Nat.le_refl _) HR30_38.out rfl HRN38.out
   rw [show givesB (strT ⟨#[97,116,111,109,95,99,111,100,101,115]⟩ [(atomT (s)),(varT (0))]) [(strT ⟨#[97,116,111,109,95,99,111,100,101,115]⟩ [(atomT (s)),R31])]=true by rw [HRE31.out];exact bk_sp1 true s HSZ.out] at h
   exact h)
  refine HG39.out.mono ?_;rintro e w39 ⟨rfl,hB⟩
  clear HG39
  have HB_40:=bz HB_38 hB
  clear hB HB_38 HR30_38 HRN38
  go_wp2_with fail
  refine (HLX.out (0) _).mono ?_;rintro e w41 ⟨rfl,hB⟩
  have HB_42:=bz HB_40 hB
  clear hB HB_40
  go_wp2_with fail
  obtain ⟨R43,HRE43⟩:=lz (textT false (s:ByteArray).data.toList)
  have HC43:Hid (∀X,Calls Tryz.prog 19 #[.string s] X fun e w'=>∃qa qc,e=.returned (.agg #[.int .i64 R43.kind,.int .i64 R43.num,.string R43.name,.slice qa R43.args.length qc])∧Below X.heap.size X w'∧TmsAt w'.heap.size w' qa R43.args):=zq fun X=>by
   rw [HRE43.out]
   exact (l_chars s X (by have:=HSZ.out;omega)).mono fun e w' h=>by
    obtain ⟨qa,qc,he,hB,hN⟩:=h
    exact ⟨qa,qc,he,hB,hN.at'⟩
  refine (HC43.out _).mono ?_;rintro e w43 ⟨a43,c43,rfl,hB,hN⟩
  have HRN45:=zq hN
  clear hN HC43
  have HB_44:=bz HB_42 hB
  clear hB HB_42
  obtain ⟨y45,HY45⟩:=lz (w43.alloc (.cells #[.int .i64 0,.int .i64 0,.string ⟨#[]⟩,.slice none 0 0,.int .i64 R43.kind,.int .i64 R43.num,.string R43.name,.slice a43 R43.args.length c43] 32))
  have hB:Below w43.heap.size w43 y45:=by rw [HY45.out];exact (Below.refl _ _).alloc (Nat.le_refl _) _
  have HRN46:Hid (TmsAt y45.heap.size y45 (some ⟨w43.heap.size,0,none⟩) [(varT (0)),R43]):=zq (by
   rw [HY45.out]
   exact row_new w43 [((varT (0)),none,0),(R43,a43,c43)] 32 (by simp [maxLen]) (fun r hr=>by
    simp only [List.mem_cons,List.mem_nil_iff,or_false] at hr
    rcases hr with rfl | rfl
    ·exact TmsK.nil
    ·exact HRN45.out))
  have HB_46:=bz HB_44 hB
  clear hB HB_44 HRN45
  go_wp2_with fail
  rw [←HY45.out]
  clear HY45
  refine (HLF.out ⟨#[97,116,111,109,95,99,104,97,114,115]⟩ _ _ _ _).mono ?_;rintro e w47 ⟨rfl,hB⟩
  have HB_48:=bz HB_46 hB
  have HR46_48:=zq ((HRN46.out.keep hB).mono hB.size)
  clear hB HB_46 HRN46
  go_wp2_with fail
  refine (HLA.out (s) _).mono ?_;rintro e w49 ⟨rfl,hB⟩
  have HB_50:=bz HB_48 hB
  have HR46_50:=zq ((HR46_48.out.keep hB).mono hB.size)
  clear hB HB_48 HR46_48
  go_wp2_with fail
  obtain ⟨R51,HRE51⟩:=lz (textT false (s:ByteArray).data.toList)
  have HC51:Hid (∀X,Calls Tryz.prog 19 #[.string s] X fun e w'=>∃qa qc,e=.returned (.agg #[.int .i64 R51.kind,.int .i64 R51.num,.string R51.name,.slice qa R51.args.length qc])∧Below X.heap.size X w'∧TmsAt w'.heap.size w' qa R51.args):=zq fun X=>by
   rw [HRE51.out]
   exact (l_chars s X (by have:=HSZ.out;omega)).mono fun e w' h=>by
    obtain ⟨qa,qc,he,hB,hN⟩:=h
    exact ⟨qa,qc,he,hB,hN.at'⟩
  refine (HC51.out _).mono ?_;rintro e w51 ⟨a51,c51,rfl,hB,hN⟩
  have HRN51:=zq hN
  clear hN HC51
  have HB_52:=bz HB_50 hB
  have HR46_52:=zq ((HR46_50.out.keep hB).mono hB.size)
  clear hB HB_50 HR46_50
  obtain ⟨y53,HY53⟩:=lz (w51.alloc (.cells #[.int .i64 2,.int .i64 0,.string (s),.slice none 0 0,.int .i64 R51.kind,.int .i64 R51.num,.string R51.name,.slice a51 R51.args.length c51] 32))
  have hB:Below w51.heap.size w51 y53:=by rw [HY53.out];exact (Below.refl _ _).alloc (Nat.le_refl _) _
  have HRN52:Hid (TmsAt y53.heap.size y53 (some ⟨w51.heap.size,0,none⟩) [(atomT (s)),R51]):=zq (by
   rw [HY53.out]
   exact row_new w51 [((atomT (s)),none,0),(R51,a51,c51)] 32 (by simp [maxLen]) (fun r hr=>by
    simp only [List.mem_cons,List.mem_nil_iff,or_false] at hr
    rcases hr with rfl | rfl
    ·exact TmsK.nil
    ·exact HRN51.out))
  have HB_54:=bz HB_52 hB
  have HR46_54:=zq ((HR46_52.out.keep hB).mono hB.size)
  clear hB HB_52 HR46_52 HRN51
  go_wp2_with fail
  rw [←HY53.out]
  clear HY53
  refine (HLF.out ⟨#[97,116,111,109,95,99,104,97,114,115]⟩ _ _ _ _).mono ?_;rintro e w55 ⟨rfl,hB⟩
  have HB_56:=bz HB_54 hB
  have HR46_56:=zq ((HR46_54.out.keep hB).mono hB.size)
  have HR52_56:=zq ((HRN52.out.keep hB).mono hB.size)
  clear hB HB_54 HR46_54 HRN52
  obtain ⟨y57,HY57⟩:=lz (w55.alloc (.cells #[.int .i64 3,.int .i64 0,.string ⟨#[97,116,111,109,95,99,104,97,114,115]⟩,.slice (some ⟨w51.heap.size,0,none⟩) 2 2] 32))
  have hB:Below w55.heap.size w55 y57:=by rw [HY57.out];exact (Below.refl _ _).alloc (Nat.le_refl _) _
  have HRN54:Hid (TmsAt y57.heap.size y57 (some ⟨w55.heap.size,0,none⟩) [(strT ⟨#[97,116,111,109,95,99,104,97,114,115]⟩ [(atomT (s)),R51])]):=zq (by
   rw [HY57.out]
   exact row_new w55 [((strT ⟨#[97,116,111,109,95,99,104,97,114,115]⟩ [(atomT (s)),R51]),(some ⟨w51.heap.size,0,none⟩),2)] 32 (by simp [maxLen]) (fun r hr=>by
    simp only [List.mem_cons,List.mem_nil_iff,or_false] at hr
    rcases hr with rfl
    ·exact HR52_56.out))
  have HB_58:=bz HB_56 hB
  have HR46_58:=zq ((HR46_56.out.keep hB).mono hB.size)
  clear hB HB_56 HR46_56 HR52_56
  go_wp2_with fail
  rw [←HY57.out]
  clear HY57
  have HG59:Hid (Calls Tryz.prog 15 #[.agg #[.int .i64 3,.int .i64 0,.string ⟨#[97,116,111,109,95,99,104,97,114,115]⟩,.slice (some ⟨w43.heap.size,0,none⟩) 2 2],.slice (some ⟨w55.heap.size,0,none⟩) 1 1] y57 fun e w'=>e=.returned (.bool true)∧Below y57.heap.size y57 w'):=zq (by
   have h:=l_gives (strT ⟨#[97,116,111,109,95,99,104,97,114,115]⟩ [(varT (0)),R43]) (some ⟨w43.heap.size,0,none⟩) 2 [(strT ⟨#[97,116,111,109,95,99,104,97,114,115]⟩ [(atomT (s)),R51])] (some ⟨w55.heap.size,0,none⟩) 1 1 y57 (HDO.out.below HB_58.out) (i64_of ⟨⟨by decide,by decide⟩,(by rw [HRE43.out];exact i64_text _ _),trivial⟩) (Nat.le_refl _) HR46_58.out rfl HRN54.out
   rw [show givesB (strT ⟨#[97,116,111,109,95,99,104,97,114,115]⟩ [(varT (0)),R43]) [(strT ⟨#[97,116,111,109,95,99,104,97,114,115]⟩ [(atomT (s)),R51])]=true by rw [HRE43.out,HRE51.out];exact bk_sp2 false s HSZ.out] at h
   exact h)
  refine HG59.out.mono ?_;rintro e w59 ⟨rfl,hB⟩
  clear HG59
  have HB_60:=bz HB_58 hB
  clear hB HB_58 HR46_58 HRN54
  go_wp2_with fail
  refine (HLX.out (0) _).mono ?_;rintro e w61 ⟨rfl,hB⟩
  have HB_62:=bz HB_60 hB
  clear hB HB_60
  go_wp2_with fail
  obtain ⟨R63,HRE63⟩:=lz (textT true (s:ByteArray).data.toList)
  have HC63:Hid (∀X,Calls Tryz.prog 20 #[.string s] X fun e w'=>∃qa qc,e=.returned (.agg #[.int .i64 R63.kind,.int .i64 R63.num,.string R63.name,.slice qa R63.args.length qc])∧Below X.heap.size X w'∧TmsAt w'.heap.size w' qa R63.args):=zq fun X=>by
   rw [HRE63.out]
   exact (l_codes s X (by have:=HSZ.out;omega)).mono fun e w' h=>by
    obtain ⟨qa,qc,he,hB,hN⟩:=h
    exact ⟨qa,qc,he,hB,hN.at'⟩
  refine (HC63.out _).mono ?_;rintro e w63 ⟨a63,c63,rfl,hB,hN⟩
  have HRN61:=zq hN
  clear hN HC63
  have HB_64:=bz HB_62 hB
  clear hB HB_62
  obtain ⟨y65,HY65⟩:=lz (w63.alloc (.cells #[.int .i64 0,.int .i64 0,.string ⟨#[]⟩,.slice none 0 0,.int .i64 R63.kind,.int .i64 R63.num,.string R63.name,.slice a63 R63.args.length c63] 32))
  have hB:Below w63.heap.size w63 y65:=by rw [HY65.out];exact (Below.refl _ _).alloc (Nat.le_refl _) _
  have HRN62:Hid (TmsAt y65.heap.size y65 (some ⟨w63.heap.size,0,none⟩) [(varT (0)),R63]):=zq (by
   rw [HY65.out]
   exact row_new w63 [((varT (0)),none,0),(R63,a63,c63)] 32 (by simp [maxLen]) (fun r hr=>by
    simp only [List.mem_cons,List.mem_nil_iff,or_false] at hr
    rcases hr with rfl | rfl
    ·exact TmsK.nil
    ·exact HRN61.out))
  have HB_66:=bz HB_64 hB
  clear hB HB_64 HRN61
  go_wp2_with fail
  rw [←HY65.out]
  clear HY65
  refine (HLF.out ⟨#[97,116,111,109,95,99,111,100,101,115]⟩ _ _ _ _).mono ?_;rintro e w67 ⟨rfl,hB⟩
  have HB_68:=bz HB_66 hB
  have HR62_68:=zq ((HRN62.out.keep hB).mono hB.size)
  clear hB HB_66 HRN62
  go_wp2_with fail
  refine (HLA.out (s) _).mono ?_;rintro e w69 ⟨rfl,hB⟩
  have HB_70:=bz HB_68 hB
  have HR62_70:=zq ((HR62_68.out.keep hB).mono hB.size)
  clear hB HB_68 HR62_68
  go_wp2_with fail
  obtain ⟨R71,HRE71⟩:=lz (textT true (s:ByteArray).data.toList)
  have HC71:Hid (∀X,Calls Tryz.prog 20 #[.string s] X fun e w'=>∃qa qc,e=.returned (.agg #[.int .i64 R71.kind,.int .i64 R71.num,.string R71.name,.slice qa R71.args.length qc])∧Below X.heap.size X w'∧TmsAt w'.heap.size w' qa R71.args):=zq fun X=>by
   rw [HRE71.out]
   exact (l_codes s X (by have:=HSZ.out;omega)).mono fun e w' h=>by
    obtain ⟨qa,qc,he,hB,hN⟩:=h
    exact ⟨qa,qc,he,hB,hN.at'⟩
  refine (HC71.out _).mono ?_;rintro e w71 ⟨a71,c71,rfl,hB,hN⟩
  have HRN67:=zq hN
  clear hN HC71
  have HB_72:=bz HB_70 hB
  have HR62_72:=zq ((HR62_70.out.keep hB).mono hB.size)
  clear hB HB_70 HR62_70
  obtain ⟨y73,HY73⟩:=lz (w71.alloc (.cells #[.int .i64 2,.int .i64 0,.string (s),.slice none 0 0,.int .i64 R71.kind,.int .i64 R71.num,.string R71.name,.slice a71 R71.args.length c71] 32))
  have hB:Below w71.heap.size w71 y73:=by rw [HY73.out];exact (Below.refl _ _).alloc (Nat.le_refl _) _
  have HRN68:Hid (TmsAt y73.heap.size y73 (some ⟨w71.heap.size,0,none⟩) [(atomT (s)),R71]):=zq (by
   rw [HY73.out]
   exact row_new w71 [((atomT (s)),none,0),(R71,a71,c71)] 32 (by simp [maxLen]) (fun r hr=>by
    simp only [List.mem_cons,List.mem_nil_iff,or_false] at hr
    rcases hr with rfl | rfl
    ·exact TmsK.nil
    ·exact HRN67.out))
  have HB_74:=bz HB_72 hB
  have HR62_74:=zq ((HR62_72.out.keep hB).mono hB.size)
  clear hB HB_72 HR62_72 HRN67
  go_wp2_with fail
  rw [←HY73.out]
  clear HY73
  refine (HLF.out ⟨#[97,116,111,109,95,99,111,100,101,115]⟩ _ _ _ _).mono ?_;rintro e w75 ⟨rfl,hB⟩
  have HB_76:=bz HB_74 hB
  have HR62_76:=zq ((HR62_74.out.keep hB).mono hB.size)
  have HR68_76:=zq ((HRN68.out.keep hB).mono hB.size)
  clear hB HB_74 HR62_74 HRN68
  obtain ⟨y77,HY77⟩:=lz (w75.alloc (.cells #[.int .i64 3,.int .i64 0,.string ⟨#[97,116,111,109,95,99,111,100,101,115]⟩,.slice (some ⟨w71.heap.size,0,none⟩) 2 2] 32))
  have hB:Below w75.heap.size w75 y77:=by rw [HY77.out];exact (Below.refl _ _).alloc (Nat.le_refl _) _
  have HRN70:Hid (TmsAt y77.heap.size y77 (some ⟨w75.heap.size,0,none⟩) [(strT ⟨#[97,116,111,109,95,99,111,100,101,115]⟩ [(atomT (s)),R71])]):=zq (by
   rw [HY77.out]
   exact row_new w75 [((strT ⟨#[97,116,111,109,95,99,111,100,101,115]⟩ [(atomT (s)),R71]),(some ⟨w71.heap.size,0,none⟩),2)] 32 (by simp [maxLen]) (fun r hr=>by
    simp only [List.mem_cons,List.mem_nil_iff,or_false] at hr
    rcases hr with rfl
    ·exact HR68_76.out))
  have HB_78:=bz HB_76 hB
  have HR62_78:=zq ((HR62_76.out.keep hB).mono hB.size)
  clear hB HB_76 HR62_76 HR68_76
  go_wp2_with fail
  rw [←HY77.out]
  clear HY77
  have HG79:Hid (Calls Tryz.prog 15 #[.agg #[.int .i64 3,.int .i64 0,.string ⟨#[97,116,111,109,95,99,111,100,101,115]⟩,.slice (some ⟨w63.heap.size,0,none⟩) 2 2],.slice (some ⟨w75.heap.size,0,none⟩) 1 1] y77 fun e w'=>e=.returned (.bool true)∧Below y77.heap.size y77 w'):=zq (by
   have h:=l_gives (strT ⟨#[97,116,111,109,95,99,111,100,101,115]⟩ [(varT (0)),R63]) (some ⟨w63.heap.size,0,none⟩) 2 [(strT ⟨#[97,116,111,109,95,99,111,100,101,115]⟩ [(atomT (s)),R71])] (some ⟨w75.heap.size,0,none⟩) 1 1 y77 (HDO.out.below HB_78.out) (i64_of ⟨⟨by decide,by decide⟩,(by rw [HRE63.out];exact i64_text _ _),trivial⟩) (Nat.le_refl _) HR62_78.out rfl HRN70.out
   rw [show givesB (strT ⟨#[97,116,111,109,95,99,111,100,101,115]⟩ [(varT (0)),R63]) [(strT ⟨#[97,116,111,109,95,99,111,100,101,115]⟩ [(atomT (s)),R71])]=true by rw [HRE63.out,HRE71.out];exact bk_sp2 true s HSZ.out] at h
   exact h)
  refine HG79.out.mono ?_;rintro e w79 ⟨rfl,hB⟩
  clear HG79
  have HB_80:=bz HB_78 hB
  clear hB HB_78 HR62_78 HRN70
  go_wp2_with fail
  refine (HFI.out _ HB_80.out).mono ?_;rintro e wf ⟨rfl,hB⟩
  have HBF:=bz HB_80 hB
  clear hB HB_80 HFI
  go_wp2_with fail
  refine (HLN.out (m) _).mono ?_;rintro e w81 ⟨rfl,hB⟩
  have HB_82:=bz HBF hB
  clear hB HBF
  go_wp2_with fail
  refine (HLX.out (0) _).mono ?_;rintro e w83 ⟨rfl,hB⟩
  have HB_84:=bz HB_82 hB
  clear hB HB_82
  obtain ⟨y85,HY85⟩:=lz (w83.alloc (.cells #[.int .i64 1,.int .i64 (m),.string ⟨#[]⟩,.slice none 0 0,.int .i64 0,.int .i64 0,.string ⟨#[]⟩,.slice none 0 0] 32))
  have hB:Below w83.heap.size w83 y85:=by rw [HY85.out];exact (Below.refl _ _).alloc (Nat.le_refl _) _
  have HRN92:Hid (TmsAt y85.heap.size y85 (some ⟨w83.heap.size,0,none⟩) [(intT (m)),(varT (0))]):=zq (by
   rw [HY85.out]
   exact row_new w83 [((intT (m)),none,0),((varT (0)),none,0)] 32 (by simp [maxLen]) (fun r hr=>by
    simp only [List.mem_cons,List.mem_nil_iff,or_false] at hr
    rcases hr with rfl | rfl
    ·exact TmsK.nil
    ·exact TmsK.nil))
  have HB_86:=bz HB_84 hB
  clear hB HB_84
  go_wp2_with fail
  rw [←HY85.out]
  clear HY85
  refine (HLF.out ⟨#[110,117,109,98,101,114,95,99,104,97,114,115]⟩ _ _ _ _).mono ?_;rintro e w87 ⟨rfl,hB⟩
  have HB_88:=bz HB_86 hB
  have HR92_88:=zq ((HRN92.out.keep hB).mono hB.size)
  clear hB HB_86 HRN92
  go_wp2_with fail
  refine (HLN.out (m) _).mono ?_;rintro e w89 ⟨rfl,hB⟩
  have HB_90:=bz HB_88 hB
  have HR92_90:=zq ((HR92_88.out.keep hB).mono hB.size)
  clear hB HB_88 HR92_88
  go_wp2_with fail
  obtain ⟨R91,HRE91⟩:=lz (textT false ((fmA m):ByteArray).data.toList)
  have HC91:Hid (∀X,Calls Tryz.prog 19 #[.string (fmA m)] X fun e w'=>∃qa qc,e=.returned (.agg #[.int .i64 R91.kind,.int .i64 R91.num,.string R91.name,.slice qa R91.args.length qc])∧Below X.heap.size X w'∧TmsAt w'.heap.size w' qa R91.args):=zq fun X=>by
   rw [HRE91.out]
   exact (l_chars (fmA m) X (by have:=HFL.out;omega)).mono fun e w' h=>by
    obtain ⟨qa,qc,he,hB,hN⟩:=h
    exact ⟨qa,qc,he,hB,hN.at'⟩
  refine (HC91.out _).mono ?_;rintro e w91 ⟨a91,c91,rfl,hB,hN⟩
  have HRN97:=zq hN
  clear hN HC91
  have HB_92:=bz HB_90 hB
  have HR92_92:=zq ((HR92_90.out.keep hB).mono hB.size)
  clear hB HB_90 HR92_90
  obtain ⟨y93,HY93⟩:=lz (w91.alloc (.cells #[.int .i64 1,.int .i64 (m),.string ⟨#[]⟩,.slice none 0 0,.int .i64 R91.kind,.int .i64 R91.num,.string R91.name,.slice a91 R91.args.length c91] 32))
  have hB:Below w91.heap.size w91 y93:=by rw [HY93.out];exact (Below.refl _ _).alloc (Nat.le_refl _) _
  have HRN98:Hid (TmsAt y93.heap.size y93 (some ⟨w91.heap.size,0,none⟩) [(intT (m)),R91]):=zq (by
   rw [HY93.out]
   exact row_new w91 [((intT (m)),none,0),(R91,a91,c91)] 32 (by simp [maxLen]) (fun r hr=>by
    simp only [List.mem_cons,List.mem_nil_iff,or_false] at hr
    rcases hr with rfl | rfl
    ·exact TmsK.nil
    ·exact HRN97.out))
  have HB_94:=bz HB_92 hB
  have HR92_94:=zq ((HR92_92.out.keep hB).mono hB.size)
  clear hB HB_92 HR92_92 HRN97
  go_wp2_with fail
  rw [←HY93.out]
  clear HY93
  refine (HLF.out ⟨#[110,117,109,98,101,114,95,99,104,97,114,115]⟩ _ _ _ _).mono ?_;rintro e w95 ⟨rfl,hB⟩
  have HB_96:=bz HB_94 hB
  have HR92_96:=zq ((HR92_94.out.keep hB).mono hB.size)
  have HR98_96:=zq ((HRN98.out.keep hB).mono hB.size)
  clear hB HB_94 HR92_94 HRN98
  obtain ⟨y97,HY97⟩:=lz (w95.alloc (.cells #[.int .i64 3,.int .i64 0,.string ⟨#[110,117,109,98,101,114,95,99,104,97,114,115]⟩,.slice (some ⟨w91.heap.size,0,none⟩) 2 2] 32))
  have hB:Below w95.heap.size w95 y97:=by rw [HY97.out];exact (Below.refl _ _).alloc (Nat.le_refl _) _
  have HRN100:Hid (TmsAt y97.heap.size y97 (some ⟨w95.heap.size,0,none⟩) [(strT ⟨#[110,117,109,98,101,114,95,99,104,97,114,115]⟩ [(intT (m)),R91])]):=zq (by
   rw [HY97.out]
   exact row_new w95 [((strT ⟨#[110,117,109,98,101,114,95,99,104,97,114,115]⟩ [(intT (m)),R91]),(some ⟨w91.heap.size,0,none⟩),2)] 32 (by simp [maxLen]) (fun r hr=>by
    simp only [List.mem_cons,List.mem_nil_iff,or_false] at hr
    rcases hr with rfl
    ·exact HR98_96.out))
  have HB_98:=bz HB_96 hB
  have HR92_98:=zq ((HR92_96.out.keep hB).mono hB.size)
  clear hB HB_96 HR92_96 HR98_96
  go_wp2_with fail
  rw [←HY97.out]
  clear HY97
  have HG99:Hid (Calls Tryz.prog 15 #[.agg #[.int .i64 3,.int .i64 0,.string ⟨#[110,117,109,98,101,114,95,99,104,97,114,115]⟩,.slice (some ⟨w83.heap.size,0,none⟩) 2 2],.slice (some ⟨w95.heap.size,0,none⟩) 1 1] y97 fun e w'=>e=.returned (.bool true)∧Below y97.heap.size y97 w'):=zq (by
   have h:=l_gives (strT ⟨#[110,117,109,98,101,114,95,99,104,97,114,115]⟩ [(intT (m)),(varT (0))]) (some ⟨w83.heap.size,0,none⟩) 2 [(strT ⟨#[110,117,109,98,101,114,95,99,104,97,114,115]⟩ [(intT (m)),R91])] (some ⟨w95.heap.size,0,none⟩) 1 1 y97 (HDO.out.below HB_98.out) (i64_of ⟨HIM.out,⟨by decide,by decide⟩,trivial⟩) (Nat.le_refl _) HR92_98.out rfl HRN100.out
   rw [show givesB (strT ⟨#[110,117,109,98,101,114,95,99,104,97,114,115]⟩ [(intT (m)),(varT (0))]) [(strT ⟨#[110,117,109,98,101,114,95,99,104,97,114,115]⟩ [(intT (m)),R91])]=true by rw [HRE91.out];exact bk_n1 false m HIM.out] at h
   exact h)
  refine HG99.out.mono ?_;rintro e w99 ⟨rfl,hB⟩
  clear HG99
  have HB_100:=bz HB_98 hB
  clear hB HB_98 HR92_98 HRN100
  go_wp2_with fail
  refine (HLN.out (m) _).mono ?_;rintro e w101 ⟨rfl,hB⟩
  have HB_102:=bz HB_100 hB
  clear hB HB_100
  go_wp2_with fail
  refine (HLX.out (0) _).mono ?_;rintro e w103 ⟨rfl,hB⟩
  have HB_104:=bz HB_102 hB
  clear hB HB_102
  obtain ⟨y105,HY105⟩:=lz (w103.alloc (.cells #[.int .i64 1,.int .i64 (m),.string ⟨#[]⟩,.slice none 0 0,.int .i64 0,.int .i64 0,.string ⟨#[]⟩,.slice none 0 0] 32))
  have hB:Below w103.heap.size w103 y105:=by rw [HY105.out];exact (Below.refl _ _).alloc (Nat.le_refl _) _
  have HRN106:Hid (TmsAt y105.heap.size y105 (some ⟨w103.heap.size,0,none⟩) [(intT (m)),(varT (0))]):=zq (by
   rw [HY105.out]
   exact row_new w103 [((intT (m)),none,0),((varT (0)),none,0)] 32 (by simp [maxLen]) (fun r hr=>by
    simp only [List.mem_cons,List.mem_nil_iff,or_false] at hr
    rcases hr with rfl | rfl
    ·exact TmsK.nil
    ·exact TmsK.nil))
  have HB_106:=bz HB_104 hB
  clear hB HB_104
  go_wp2_with fail
  rw [←HY105.out]
  clear HY105
  refine (HLF.out ⟨#[110,117,109,98,101,114,95,99,111,100,101,115]⟩ _ _ _ _).mono ?_;rintro e w107 ⟨rfl,hB⟩
  have HB_108:=bz HB_106 hB
  have HR106_108:=zq ((HRN106.out.keep hB).mono hB.size)
  clear hB HB_106 HRN106
  go_wp2_with fail
  refine (HLN.out (m) _).mono ?_;rintro e w109 ⟨rfl,hB⟩
  have HB_110:=bz HB_108 hB
  have HR106_110:=zq ((HR106_108.out.keep hB).mono hB.size)
  clear hB HB_108 HR106_108
  go_wp2_with fail
  obtain ⟨R111,HRE111⟩:=lz (textT true ((fmA m):ByteArray).data.toList)
  have HC111:Hid (∀X,Calls Tryz.prog 20 #[.string (fmA m)] X fun e w'=>∃qa qc,e=.returned (.agg #[.int .i64 R111.kind,.int .i64 R111.num,.string R111.name,.slice qa R111.args.length qc])∧Below X.heap.size X w'∧TmsAt w'.heap.size w' qa R111.args):=zq fun X=>by
   rw [HRE111.out]
   exact (l_codes (fmA m) X (by have:=HFL.out;omega)).mono fun e w' h=>by
    obtain ⟨qa,qc,he,hB,hN⟩:=h
    exact ⟨qa,qc,he,hB,hN.at'⟩
  refine (HC111.out _).mono ?_;rintro e w111 ⟨a111,c111,rfl,hB,hN⟩
  have HRN111:=zq hN
  clear hN HC111
  have HB_112:=bz HB_110 hB
  have HR106_112:=zq ((HR106_110.out.keep hB).mono hB.size)
  clear hB HB_110 HR106_110
  obtain ⟨y113,HY113⟩:=lz (w111.alloc (.cells #[.int .i64 1,.int .i64 (m),.string ⟨#[]⟩,.slice none 0 0,.int .i64 R111.kind,.int .i64 R111.num,.string R111.name,.slice a111 R111.args.length c111] 32))
  have hB:Below w111.heap.size w111 y113:=by rw [HY113.out];exact (Below.refl _ _).alloc (Nat.le_refl _) _
  have HRN112:Hid (TmsAt y113.heap.size y113 (some ⟨w111.heap.size,0,none⟩) [(intT (m)),R111]):=zq (by
   rw [HY113.out]
   exact row_new w111 [((intT (m)),none,0),(R111,a111,c111)] 32 (by simp [maxLen]) (fun r hr=>by
    simp only [List.mem_cons,List.mem_nil_iff,or_false] at hr
    rcases hr with rfl | rfl
    ·exact TmsK.nil
    ·exact HRN111.out))
  have HB_114:=bz HB_112 hB
  have HR106_114:=zq ((HR106_112.out.keep hB).mono hB.size)
  clear hB HB_112 HR106_112 HRN111
  go_wp2_with fail
  rw [←HY113.out]
  clear HY113
  refine (HLF.out ⟨#[110,117,109,98,101,114,95,99,111,100,101,115]⟩ _ _ _ _).mono ?_;rintro e w115 ⟨rfl,hB⟩
  have HB_116:=bz HB_114 hB
  have HR106_116:=zq ((HR106_114.out.keep hB).mono hB.size)
  have HR112_116:=zq ((HRN112.out.keep hB).mono hB.size)
  clear hB HB_114 HR106_114 HRN112
  obtain ⟨y117,HY117⟩:=lz (w115.alloc (.cells #[.int .i64 3,.int .i64 0,.string ⟨#[110,117,109,98,101,114,95,99,111,100,101,115]⟩,.slice (some ⟨w111.heap.size,0,none⟩) 2 2] 32))
  have hB:Below w115.heap.size w115 y117:=by rw [HY117.out];exact (Below.refl _ _).alloc (Nat.le_refl _) _
  have HRN114:Hid (TmsAt y117.heap.size y117 (some ⟨w115.heap.size,0,none⟩) [(strT ⟨#[110,117,109,98,101,114,95,99,111,100,101,115]⟩ [(intT (m)),R111])]):=zq (by
   rw [HY117.out]
   exact row_new w115 [((strT ⟨#[110,117,109,98,101,114,95,99,111,100,101,115]⟩ [(intT (m)),R111]),(some ⟨w111.heap.size,0,none⟩),2)] 32 (by simp [maxLen]) (fun r hr=>by
    simp only [List.mem_cons,List.mem_nil_iff,or_false] at hr
    rcases hr with rfl
    ·exact HR112_116.out))
  have HB_118:=bz HB_116 hB
  have HR106_118:=zq ((HR106_116.out.keep hB).mono hB.size)
  clear hB HB_116 HR106_116 HR112_116
  go_wp2_with fail
  rw [←HY117.out]
  clear HY117
  have HG119:Hid (Calls Tryz.prog 15 #[.agg #[.int .i64 3,.int .i64 0,.string ⟨#[110,117,109,98,101,114,95,99,111,100,101,115]⟩,.slice (some ⟨w103.heap.size,0,none⟩) 2 2],.slice (some ⟨w115.heap.size,0,none⟩) 1 1] y117 fun e w'=>e=.returned (.bool true)∧Below y117.heap.size y117 w'):=zq (by
   have h:=l_gives (strT ⟨#[110,117,109,98,101,114,95,99,111,100,101,115]⟩ [(intT (m)),(varT (0))]) (some ⟨w103.heap.size,0,none⟩) 2 [(strT ⟨#[110,117,109,98,101,114,95,99,111,100,101,115]⟩ [(intT (m)),R111])] (some ⟨w115.heap.size,0,none⟩) 1 1 y117 (HDO.out.below HB_118.out) (i64_of ⟨HIM.out,⟨by decide,by decide⟩,trivial⟩) (Nat.le_refl _) HR106_118.out rfl HRN114.out
   rw [show givesB (strT ⟨#[110,117,109,98,101,114,95,99,111,100,101,115]⟩ [(intT (m)),(varT (0))]) [(strT ⟨#[110,117,109,98,101,114,95,99,111,100,101,115]⟩ [(intT (m)),R111])]=true by rw [HRE111.out];exact bk_n1 true m HIM.out] at h
   exact h)
  refine HG119.out.mono ?_;rintro e w119 ⟨rfl,hB⟩
  clear HG119
  have HB_120:=bz HB_118 hB
  clear hB HB_118 HR106_118 HRN114
  go_wp2_with fail
  refine (HLX.out (0) _).mono ?_;rintro e w121 ⟨rfl,hB⟩
  have HB_122:=bz HB_120 hB
  clear hB HB_120
  go_wp2_with fail
  obtain ⟨R123,HRE123⟩:=lz (textT false ((fmA m):ByteArray).data.toList)
  have HC123:Hid (∀X,Calls Tryz.prog 19 #[.string (fmA m)] X fun e w'=>∃qa qc,e=.returned (.agg #[.int .i64 R123.kind,.int .i64 R123.num,.string R123.name,.slice qa R123.args.length qc])∧Below X.heap.size X w'∧TmsAt w'.heap.size w' qa R123.args):=zq fun X=>by
   rw [HRE123.out]
   exact (l_chars (fmA m) X (by have:=HFL.out;omega)).mono fun e w' h=>by
    obtain ⟨qa,qc,he,hB,hN⟩:=h
    exact ⟨qa,qc,he,hB,hN.at'⟩
  refine (HC123.out _).mono ?_;rintro e w123 ⟨a123,c123,rfl,hB,hN⟩
  have HRN120:=zq hN
  clear hN HC123
  have HB_124:=bz HB_122 hB
  clear hB HB_122
  obtain ⟨y125,HY125⟩:=lz (w123.alloc (.cells #[.int .i64 0,.int .i64 0,.string ⟨#[]⟩,.slice none 0 0,.int .i64 R123.kind,.int .i64 R123.num,.string R123.name,.slice a123 R123.args.length c123] 32))
  have hB:Below w123.heap.size w123 y125:=by rw [HY125.out];exact (Below.refl _ _).alloc (Nat.le_refl _) _
  have HRN121:Hid (TmsAt y125.heap.size y125 (some ⟨w123.heap.size,0,none⟩) [(varT (0)),R123]):=zq (by
   rw [HY125.out]
   exact row_new w123 [((varT (0)),none,0),(R123,a123,c123)] 32 (by simp [maxLen]) (fun r hr=>by
    simp only [List.mem_cons,List.mem_nil_iff,or_false] at hr
    rcases hr with rfl | rfl
    ·exact TmsK.nil
    ·exact HRN120.out))
  have HB_126:=bz HB_124 hB
  clear hB HB_124 HRN120
  go_wp2_with fail
  rw [←HY125.out]
  clear HY125
  refine (HLF.out ⟨#[110,117,109,98,101,114,95,99,104,97,114,115]⟩ _ _ _ _).mono ?_;rintro e w127 ⟨rfl,hB⟩
  have HB_128:=bz HB_126 hB
  have HR121_128:=zq ((HRN121.out.keep hB).mono hB.size)
  clear hB HB_126 HRN121
  go_wp2_with fail
  refine (HLN.out (m) _).mono ?_;rintro e w129 ⟨rfl,hB⟩
  have HB_130:=bz HB_128 hB
  have HR121_130:=zq ((HR121_128.out.keep hB).mono hB.size)
  clear hB HB_128 HR121_128
  go_wp2_with fail
  obtain ⟨R131,HRE131⟩:=lz (textT false ((fmA m):ByteArray).data.toList)
  have HC131:Hid (∀X,Calls Tryz.prog 19 #[.string (fmA m)] X fun e w'=>∃qa qc,e=.returned (.agg #[.int .i64 R131.kind,.int .i64 R131.num,.string R131.name,.slice qa R131.args.length qc])∧Below X.heap.size X w'∧TmsAt w'.heap.size w' qa R131.args):=zq fun X=>by
   rw [HRE131.out]
   exact (l_chars (fmA m) X (by have:=HFL.out;omega)).mono fun e w' h=>by
    obtain ⟨qa,qc,he,hB,hN⟩:=h
    exact ⟨qa,qc,he,hB,hN.at'⟩
  refine (HC131.out _).mono ?_;rintro e w131 ⟨a131,c131,rfl,hB,hN⟩
  have HRN126:=zq hN
  clear hN HC131
  have HB_132:=bz HB_130 hB
  have HR121_132:=zq ((HR121_130.out.keep hB).mono hB.size)
  clear hB HB_130 HR121_130
  obtain ⟨y133,HY133⟩:=lz (w131.alloc (.cells #[.int .i64 1,.int .i64 (m),.string ⟨#[]⟩,.slice none 0 0,.int .i64 R131.kind,.int .i64 R131.num,.string R131.name,.slice a131 R131.args.length c131] 32))
  have hB:Below w131.heap.size w131 y133:=by rw [HY133.out];exact (Below.refl _ _).alloc (Nat.le_refl _) _
  have HRN127:Hid (TmsAt y133.heap.size y133 (some ⟨w131.heap.size,0,none⟩) [(intT (m)),R131]):=zq (by
   rw [HY133.out]
   exact row_new w131 [((intT (m)),none,0),(R131,a131,c131)] 32 (by simp [maxLen]) (fun r hr=>by
    simp only [List.mem_cons,List.mem_nil_iff,or_false] at hr
    rcases hr with rfl | rfl
    ·exact TmsK.nil
    ·exact HRN126.out))
  have HB_134:=bz HB_132 hB
  have HR121_134:=zq ((HR121_132.out.keep hB).mono hB.size)
  clear hB HB_132 HR121_132 HRN126
  go_wp2_with fail
  rw [←HY133.out]
  clear HY133
  refine (HLF.out ⟨#[110,117,109,98,101,114,95,99,104,97,114,115]⟩ _ _ _ _).mono ?_;rintro e w135 ⟨rfl,hB⟩
  have HB_136:=bz HB_134 hB
  have HR121_136:=zq ((HR121_134.out.keep hB).mono hB.size)
  have HR127_136:=zq ((HRN127.out.keep hB).mono hB.size)
  clear hB HB_134 HR121_134 HRN127
  obtain ⟨y137,HY137⟩:=lz (w135.alloc (.cells #[.int .i64 3,.int .i64 0,.string ⟨#[110,117,109,98,101,114,95,99,104,97,114,115]⟩,.slice (some ⟨w131.heap.size,0,none⟩) 2 2] 32))
  have hB:Below w135.heap.size w135 y137:=by rw [HY137.out];exact (Below.refl _ _).alloc (Nat.le_refl _) _
  have HRN129:Hid (TmsAt y137.heap.size y137 (some ⟨w135.heap.size,0,none⟩) [(strT ⟨#[110,117,109,98,101,114,95,99,104,97,114,115]⟩ [(intT (m)),R131])]):=zq (by
   rw [HY137.out]
   exact row_new w135 [((strT ⟨#[110,117,109,98,101,114,95,99,104,97,114,115]⟩ [(intT (m)),R131]),(some ⟨w131.heap.size,0,none⟩),2)] 32 (by simp [maxLen]) (fun r hr=>by
    simp only [List.mem_cons,List.mem_nil_iff,or_false] at hr
    rcases hr with rfl
    ·exact HR127_136.out))
  have HB_138:=bz HB_136 hB
  have HR121_138:=zq ((HR121_136.out.keep hB).mono hB.size)
  clear hB HB_136 HR121_136 HR127_136
  go_wp2_with fail
  rw [←HY137.out]
  clear HY137
  have HG139:Hid (Calls Tryz.prog 15 #[.agg #[.int .i64 3,.int .i64 0,.string ⟨#[110,117,109,98,101,114,95,99,104,97,114,115]⟩,.slice (some ⟨w123.heap.size,0,none⟩) 2 2],.slice (some ⟨w135.heap.size,0,none⟩) 1 1] y137 fun e w'=>e=.returned (.bool true)∧Below y137.heap.size y137 w'):=zq (by
   have h:=l_gives (strT ⟨#[110,117,109,98,101,114,95,99,104,97,114,115]⟩ [(varT (0)),R123]) (some ⟨w123.heap.size,0,none⟩) 2 [(strT ⟨#[110,117,109,98,101,114,95,99,104,97,114,115]⟩ [(intT (m)),R131])] (some ⟨w135.heap.size,0,none⟩) 1 1 y137 (HDO.out.below HB_138.out) (i64_of ⟨⟨by decide,by decide⟩,(by rw [HRE123.out];exact i64_text _ _),trivial⟩) (Nat.le_refl _) HR121_138.out rfl HRN129.out
   rw [show givesB (strT ⟨#[110,117,109,98,101,114,95,99,104,97,114,115]⟩ [(varT (0)),R123]) [(strT ⟨#[110,117,109,98,101,114,95,99,104,97,114,115]⟩ [(intT (m)),R131])]=true by rw [HRE123.out,HRE131.out];exact bk_n2 false m HIM.out] at h
   exact h)
  refine HG139.out.mono ?_;rintro e w139 ⟨rfl,hB⟩
  clear HG139
  have HB_140:=bz HB_138 hB
  clear hB HB_138 HR121_138 HRN129
  go_wp2_with fail
  refine (HLX.out (0) _).mono ?_;rintro e w141 ⟨rfl,hB⟩
  have HB_142:=bz HB_140 hB
  clear hB HB_140
  go_wp2_with fail
  obtain ⟨R143,HRE143⟩:=lz (textT true ((fmA m):ByteArray).data.toList)
  have HC143:Hid (∀X,Calls Tryz.prog 20 #[.string (fmA m)] X fun e w'=>∃qa qc,e=.returned (.agg #[.int .i64 R143.kind,.int .i64 R143.num,.string R143.name,.slice qa R143.args.length qc])∧Below X.heap.size X w'∧TmsAt w'.heap.size w' qa R143.args):=zq fun X=>by
   rw [HRE143.out]
   exact (l_codes (fmA m) X (by have:=HFL.out;omega)).mono fun e w' h=>by
    obtain ⟨qa,qc,he,hB,hN⟩:=h
    exact ⟨qa,qc,he,hB,hN.at'⟩
  refine (HC143.out _).mono ?_;rintro e w143 ⟨a143,c143,rfl,hB,hN⟩
  have HRN135:=zq hN
  clear hN HC143
  have HB_144:=bz HB_142 hB
  clear hB HB_142
  obtain ⟨y145,HY145⟩:=lz (w143.alloc (.cells #[.int .i64 0,.int .i64 0,.string ⟨#[]⟩,.slice none 0 0,.int .i64 R143.kind,.int .i64 R143.num,.string R143.name,.slice a143 R143.args.length c143] 32))
  have hB:Below w143.heap.size w143 y145:=by rw [HY145.out];exact (Below.refl _ _).alloc (Nat.le_refl _) _
  have HRN136:Hid (TmsAt y145.heap.size y145 (some ⟨w143.heap.size,0,none⟩) [(varT (0)),R143]):=zq (by
   rw [HY145.out]
   exact row_new w143 [((varT (0)),none,0),(R143,a143,c143)] 32 (by simp [maxLen]) (fun r hr=>by
    simp only [List.mem_cons,List.mem_nil_iff,or_false] at hr
    rcases hr with rfl | rfl
    ·exact TmsK.nil
    ·exact HRN135.out))
  have HB_146:=bz HB_144 hB
  clear hB HB_144 HRN135
  go_wp2_with fail
  rw [←HY145.out]
  clear HY145
  refine (HLF.out ⟨#[110,117,109,98,101,114,95,99,111,100,101,115]⟩ _ _ _ _).mono ?_;rintro e w147 ⟨rfl,hB⟩
  have HB_148:=bz HB_146 hB
  have HR136_148:=zq ((HRN136.out.keep hB).mono hB.size)
  clear hB HB_146 HRN136
  go_wp2_with fail
  refine (HLN.out (m) _).mono ?_;rintro e w149 ⟨rfl,hB⟩
  have HB_150:=bz HB_148 hB
  have HR136_150:=zq ((HR136_148.out.keep hB).mono hB.size)
  clear hB HB_148 HR136_148
  go_wp2_with fail
  obtain ⟨R151,HRE151⟩:=lz (textT true ((fmA m):ByteArray).data.toList)
  have HC151:Hid (∀X,Calls Tryz.prog 20 #[.string (fmA m)] X fun e w'=>∃qa qc,e=.returned (.agg #[.int .i64 R151.kind,.int .i64 R151.num,.string R151.name,.slice qa R151.args.length qc])∧Below X.heap.size X w'∧TmsAt w'.heap.size w' qa R151.args):=zq fun X=>by
   rw [HRE151.out]
   exact (l_codes (fmA m) X (by have:=HFL.out;omega)).mono fun e w' h=>by
    obtain ⟨qa,qc,he,hB,hN⟩:=h
    exact ⟨qa,qc,he,hB,hN.at'⟩
  refine (HC151.out _).mono ?_;rintro e w151 ⟨a151,c151,rfl,hB,hN⟩
  have HRN141:=zq hN
  clear hN HC151
  have HB_152:=bz HB_150 hB
  have HR136_152:=zq ((HR136_150.out.keep hB).mono hB.size)
  clear hB HB_150 HR136_150
  obtain ⟨y153,HY153⟩:=lz (w151.alloc (.cells #[.int .i64 1,.int .i64 (m),.string ⟨#[]⟩,.slice none 0 0,.int .i64 R151.kind,.int .i64 R151.num,.string R151.name,.slice a151 R151.args.length c151] 32))
  have hB:Below w151.heap.size w151 y153:=by rw [HY153.out];exact (Below.refl _ _).alloc (Nat.le_refl _) _
  have HRN142:Hid (TmsAt y153.heap.size y153 (some ⟨w151.heap.size,0,none⟩) [(intT (m)),R151]):=zq (by
   rw [HY153.out]
   exact row_new w151 [((intT (m)),none,0),(R151,a151,c151)] 32 (by simp [maxLen]) (fun r hr=>by
    simp only [List.mem_cons,List.mem_nil_iff,or_false] at hr
    rcases hr with rfl | rfl
    ·exact TmsK.nil
    ·exact HRN141.out))
  have HB_154:=bz HB_152 hB
  have HR136_154:=zq ((HR136_152.out.keep hB).mono hB.size)
  clear hB HB_152 HR136_152 HRN141
  go_wp2_with fail
  rw [←HY153.out]
  clear HY153
  refine (HLF.out ⟨#[110,117,109,98,101,114,95,99,111,100,101,115]⟩ _ _ _ _).mono ?_;rintro e w155 ⟨rfl,hB⟩
  have HB_156:=bz HB_154 hB
  have HR136_156:=zq ((HR136_154.out.keep hB).mono hB.size)
  have HR142_156:=zq ((HRN142.out.keep hB).mono hB.size)
  clear hB HB_154 HR136_154 HRN142
  obtain ⟨y157,HY157⟩:=lz (w155.alloc (.cells #[.int .i64 3,.int .i64 0,.string ⟨#[110,117,109,98,101,114,95,99,111,100,101,115]⟩,.slice (some ⟨w151.heap.size,0,none⟩) 2 2] 32))
  have hB:Below w155.heap.size w155 y157:=by rw [HY157.out];exact (Below.refl _ _).alloc (Nat.le_refl _) _
  have HRN144:Hid (TmsAt y157.heap.size y157 (some ⟨w155.heap.size,0,none⟩) [(strT ⟨#[110,117,109,98,101,114,95,99,111,100,101,115]⟩ [(intT (m)),R151])]):=zq (by
   rw [HY157.out]
   exact row_new w155 [((strT ⟨#[110,117,109,98,101,114,95,99,111,100,101,115]⟩ [(intT (m)),R151]),(some ⟨w151.heap.size,0,none⟩),2)] 32 (by simp [maxLen]) (fun r hr=>by
    simp only [List.mem_cons,List.mem_nil_iff,or_false] at hr
    rcases hr with rfl
    ·exact HR142_156.out))
  have HB_158:=bz HB_156 hB
  have HR136_158:=zq ((HR136_156.out.keep hB).mono hB.size)
  clear hB HB_156 HR136_156 HR142_156
  go_wp2_with fail
  rw [←HY157.out]
  clear HY157
  have HG159:Hid (Calls Tryz.prog 15 #[.agg #[.int .i64 3,.int .i64 0,.string ⟨#[110,117,109,98,101,114,95,99,111,100,101,115]⟩,.slice (some ⟨w143.heap.size,0,none⟩) 2 2],.slice (some ⟨w155.heap.size,0,none⟩) 1 1] y157 fun e w'=>e=.returned (.bool true)∧Below y157.heap.size y157 w'):=zq (by
   have h:=l_gives (strT ⟨#[110,117,109,98,101,114,95,99,111,100,101,115]⟩ [(varT (0)),R143]) (some ⟨w143.heap.size,0,none⟩) 2 [(strT ⟨#[110,117,109,98,101,114,95,99,111,100,101,115]⟩ [(intT (m)),R151])] (some ⟨w155.heap.size,0,none⟩) 1 1 y157 (HDO.out.below HB_158.out) (i64_of ⟨⟨by decide,by decide⟩,(by rw [HRE143.out];exact i64_text _ _),trivial⟩) (Nat.le_refl _) HR136_158.out rfl HRN144.out
   rw [show givesB (strT ⟨#[110,117,109,98,101,114,95,99,111,100,101,115]⟩ [(varT (0)),R143]) [(strT ⟨#[110,117,109,98,101,114,95,99,111,100,101,115]⟩ [(intT (m)),R151])]=true by rw [HRE143.out,HRE151.out];exact bk_n2 true m HIM.out] at h
   exact h)
  refine HG159.out.mono ?_;rintro e w159 ⟨rfl,hB⟩
  clear HG159
  have HB_160:=bz HB_158 hB
  clear hB HB_158 HR136_158 HRN144
  go_wp2_with fail
  refine (HAW.out _ HB_160.out).mono ?_;rintro e wz ⟨rfl,hB⟩
  have HBZ:=bz HB_160 hB
  clear hB HB_160
  go_wp2_with fail
  go_ret
  exact ⟨rfl,HBZ.out⟩
 ·obtain ⟨s9,HS9⟩:=lz (α:=ByteArray) (s.extract 0 101)
  have hsz9:s9.size=101:=by rw [HS9.out];simp;omega
  have HS101:=zq hsz9
  have hs':¬(s.size:Int)≤100:=by omega
  have hs1:(101:Int)≤(s.size:Int):=by omega
  obtain ⟨R3,HRE3⟩:=lz (textT true s9.data.toList)
  have HTX3:Hid (∀X,Calls Tryz.prog 20 #[.string s9] X fun e w'=>∃qa qc,e=.returned (.agg #[.int .i64 R3.kind,.int .i64 R3.num,.string R3.name,.slice qa R3.args.length qc])∧Below X.heap.size X w'∧NewT X w' qa R3.args):=zq fun X=>by
   rw [HRE3.out]
   exact l_codes s9 X (by omega)
  clear hs hsz9
  go_enter Tryz.func5,Tryz.ntmps5
  go_wp2_with fail
  rename_i K9 hK9
  refine region_own (w0:=w) [rVal [] [0] (fun | [v]=>v=.agg #[.int .i64 0,.int .i64 0,.string ⟨#[]⟩,.slice none 0 0] | _=>False),
    rPure [] [1] (fun | [v]=>v=.string s | _=>False),
    rPure [1] [2] (fun | [v]=>v=.string s9 | _=>False),
    rTx (List.range 3) 3 R3,
    rRow (List.range 4) 4 2 [varT 0,R3],
    rGoal (List.range 5) 5 ⟨#[97,116,111,109,95,99,111,100,101,115]⟩ 2 [varT 0,R3],
    rVal (List.range 6) [6] (fun | [v]=>v=.tuple #[.slice none 0 0,.agg #[.int .i64 0,.int .i64 0,.string ⟨#[]⟩,.slice none 0 0],.int .i64 2] | _=>False),
    rPure (List.range 7) [7] (fun | [v]=>v=.tuple #[.slice none 0 0,.agg #[.int .i64 0,.int .i64 0,.string ⟨#[]⟩,.slice none 0 0],.int .i64 2] | _=>False),
    rPure (List.range 8) [8] (fun | [v]=>v=.slice none 0 0 | _=>False),
    rPure (List.range 8) [9] (fun | [v]=>v=.agg #[.int .i64 0,.int .i64 0,.string ⟨#[]⟩,.slice none 0 0] | _=>False),
    rPure (List.range 8) [10] (fun | [v]=>v=.int .i64 2 | _=>False),
    rBox [] [.int .i64 0,.int .i64 0,.string ⟨#[]⟩,.slice none 0 0] 13,
    rPure [0,1,2,3,4,5,6,7,8,11] [12] (fun | [v]=>v=.slice none 0 0 | _=>False),
    rStore [0,1,2,3,4,5,6,7,8,9,11,12] [] 11 (fun _=>[.int .i64 0,.int .i64 0,.string ⟨#[]⟩,.slice none 0 0]),
    rPure (List.range 14) [14] (fun | [v]=>v=.int .i64 2 | _=>False)]
    [some 75,some 76,some 77,some 78,some 79,some 80,some 81,some 74,some 82,some 83,some 84,some 6,some 5,none,some 7] (fun _=>True) (w.heap.size) (by kernel_rfl) (Nat.le_refl _) (by kernel_rfl) (by kernel_rfl) (by kernel_rfl) (fun j o ho=>?srv) (fun val Y N hv HF=>?fin)
  case srv=>
    have hlt:j<15:=(Array.getElem?_eq_some_iff.1 ho).1
    rcases (show j=0∨j=1∨j=2∨j=3∨j=4∨j=5∨j=6∨j=7∨j=8∨j=9∨j=10∨j=11∨j=12∨j=13∨j=14 by omega) with rfl | rfl | rfl | rfl | rfl | rfl | rfl | rfl | rfl | rfl | rfl | rfl | rfl | rfl | rfl
    ·cases ho
     refine srv_calV rfl rfl (fun _ _ _=>trivial) (fun val E X hE hB hA=>?_)
     exact ⟨_,_,_,by simp [execOp,go_sem,hE.c,hE.f] <;> rfl,HLX.out 0 X,rfl⟩
    ·cases ho
     refine srv_pure rfl rfl (fun val E hE hA=>?_)
     have e0:=hE.t 0 (.string s) rfl
     exact ⟨.string s,fun X=>by simp [execOp,go_sem,e0],rfl⟩
    ·cases ho
     refine srv_pure rfl rfl (fun val E hE hA=>?_)
     have e76:=hE.t 76 (val 1) rfl
     have h1:val 1=.string s:=hA 1 (oz rfl)
     have h9:s.extract 0 101=s9:=HS9.out.symm
     exact ⟨.string s9,fun X=>by simp [execOp,go_sem,hE.c,e76,h1,hs1,h9],rfl⟩
    ·cases ho
     refine srv_cal rfl rfl fun val E X N hE hC hA hc=>?_
     have e77:=hE.t 77 (val 2) rfl
     have h2:val 2=.string s9:=hA 2 (oz rfl)
     exact ⟨_,_,by simp [execOp,go_sem,hE.f,e77,h2] <;> rfl,(HTX3.out X).mono fun e w' h=>by
      obtain ⟨a,c,he,hB,hN⟩:=h
      exact ⟨_,he,hB,⟨a,c,rfl⟩,fun N' _ h2=>⟨a,c,rfl,hN.keep (fun _ _=>rfl) fun b hb=>h2 b hb.1 hb.2⟩⟩⟩
    ·cases ho
     refine srv_mk rfl rfl fun val E X N hE hC hA hc=>?_
     have e75:=hE.t 75 (val 0) rfl
     have h0:val 0=.agg #[.int .i64 0,.int .i64 0,.string ⟨#[]⟩,.slice none 0 0]:=hA 0 (oz rfl)
     have e78:=hE.t 78 (val 3) rfl
     obtain ⟨a3,c3,h3,ht3⟩:∃a3 c3,val 3=.agg #[.int .i64 R3.kind,.int .i64 R3.num,.string R3.name,.slice a3 R3.args.length c3]∧TmsK N X a3 R3.args:=hc 3 (oz rfl) rfl
     exact ⟨.slice (some ⟨X.heap.size,0,none⟩) 2 2,X.alloc (.cells #[.int .i64 0,.int .i64 0,.string ⟨#[]⟩,.slice none 0 0,.int .i64 R3.kind,.int .i64 R3.num,.string R3.name,.slice a3 R3.args.length c3] 32),by simp [execOp,go_sem,e75,h0,e78,h3],(Below.refl _ _).alloc (Nat.le_refl _) _,⟨_,rfl⟩,fun N' h1 h2=>⟨_,rfl,TmsK.rows (K:=N') (w:=X) (rs:=[(varT 0,none,0),(R3,a3,c3)]) (e:=32) (h2 _ (Nat.le_refl _) (by simp)) (by simp [maxLen]) (fun x hx=>by
      simp only [List.mem_cons,List.mem_nil_iff,or_false] at hx
      rcases hx with rfl | rfl
      ·exact TmsK.nil
      ·exact row_stab ht3 (fun b hb=>((Below.refl X.heap.size X).alloc (Nat.le_refl _) _).block b (hC.lt b hb)) h1)⟩⟩
    ·cases ho
     refine srv_cal rfl rfl fun val E X N hE hC hA hc=>?_
     obtain ⟨g4,h4,ht4⟩:∃g,val 4=.slice (some ⟨g,0,none⟩) 2 2∧TmsK N X (some ⟨g,0,none⟩) [varT 0,R3]:=hc 4 (oz rfl) rfl
     have e79:=hE.t 79 (val 4) rfl
     exact ⟨_,_,by simp [execOp,go_sem,hE.c,hE.f,e79,h4] <;> rfl,(HLF.out ⟨#[97,116,111,109,95,99,111,100,101,115]⟩ _ _ _ X).mono fun e w' h=>⟨_,h.1,h.2,⟨g4,rfl⟩,fun N' h1 _=>⟨g4,rfl,row_stab ht4 (fun b hb=>h.2.block b (hC.lt b hb)) h1⟩⟩⟩
    ·cases ho
     refine srv_cal rfl rfl fun val E X N hE hC hA hc=>?_
     obtain ⟨g5,h5,ht5⟩:∃g,val 5=.agg #[.int .i64 3,.int .i64 0,.string ⟨#[97,116,111,109,95,99,111,100,101,115]⟩,.slice (some ⟨g,0,none⟩) 2 2]∧TmsK N X (some ⟨g,0,none⟩) [varT 0,R3]:=hc 5 (oz rfl) rfl
     have e80:=hE.t 80 (val 5) rfl
     have h:=a_call (some ⟨g5,0,none⟩) 2 (strT ⟨#[97,116,111,109,95,99,111,100,101,115]⟩ [varT 0,R3]) X (HDO.out.below (HB0.out.trans (hC.bel.mono HB0.out.size))) (i64_of ⟨⟨by decide,by decide⟩,(by rw [HRE3.out];exact i64_text _ _),trivial⟩) (Nat.le_refl _) (TmsK.at' ht5)
     rw [show callA (strT ⟨#[97,116,111,109,95,99,111,100,101,115]⟩ [varT 0,R3])=.err 2 from by rw [HRE3.out];exact bk_long s9 HS101.out] at h
     exact ⟨_,_,by simp [execOp,go_sem,hE.f,e80,h5] <;> rfl,h.mono fun e w' h=>⟨_,h.2,h.1,rfl,fun _ _ _=>trivial⟩⟩
    ·cases ho
     refine srv_pure rfl rfl (fun val E hE hA=>?_)
     have e81:=hE.t 81 (val 6) rfl
     have h6:val 6=.tuple #[.slice none 0 0,.agg #[.int .i64 0,.int .i64 0,.string ⟨#[]⟩,.slice none 0 0],.int .i64 2]:=hA 6 (oz rfl)
     exact ⟨.tuple #[.slice none 0 0,.agg #[.int .i64 0,.int .i64 0,.string ⟨#[]⟩,.slice none 0 0],.int .i64 2],fun X=>by simp [execOp,go_sem,e81,h6],rfl⟩
    ·cases ho
     refine srv_pure rfl rfl (fun val E hE hA=>?_)
     have e74:=hE.t 74 (val 7) rfl
     have h7:val 7=.tuple #[.slice none 0 0,.agg #[.int .i64 0,.int .i64 0,.string ⟨#[]⟩,.slice none 0 0],.int .i64 2]:=hA 7 (oz rfl)
     exact ⟨.slice none 0 0,fun X=>by simp [execOp,go_sem,e74,h7],rfl⟩
    ·cases ho
     refine srv_pure rfl rfl (fun val E hE hA=>?_)
     have e74:=hE.t 74 (val 7) rfl
     have h7:val 7=.tuple #[.slice none 0 0,.agg #[.int .i64 0,.int .i64 0,.string ⟨#[]⟩,.slice none 0 0],.int .i64 2]:=hA 7 (oz rfl)
     exact ⟨.agg #[.int .i64 0,.int .i64 0,.string ⟨#[]⟩,.slice none 0 0],fun X=>by simp [execOp,go_sem,e74,h7],rfl⟩
    ·cases ho
     refine srv_pure rfl rfl (fun val E hE hA=>?_)
     have e74:=hE.t 74 (val 7) rfl
     have h7:val 7=.tuple #[.slice none 0 0,.agg #[.int .i64 0,.int .i64 0,.string ⟨#[]⟩,.slice none 0 0],.int .i64 2]:=hA 7 (oz rfl)
     exact ⟨.int .i64 2,fun X=>by simp [execOp,go_sem,e74,h7],rfl⟩
    ·cases ho
     exact srv_box rfl (fun _=>trivial) (trivial) 32 fun E X=>by simp [execOp,go_sem]
    ·cases ho
     refine srv_pure rfl rfl (fun val E hE hA=>?_)
     have e82:=hE.t 82 (val 8) rfl
     have h8:val 8=.slice none 0 0:=hA 8 (oz rfl)
     exact ⟨.slice none 0 0,fun X=>by simp [execOp,go_sem,e82,h8],rfl⟩
    ·cases ho
     refine srv_store rfl rfl (fun _=>trivial) fun val E X b hE hA hb hk=>?_
     have e6:=hE.t 6 (val 11) rfl
     have e83:=hE.t 83 (val 9) rfl
     have h9:val 9=.agg #[.int .i64 0,.int .i64 0,.string ⟨#[]⟩,.slice none 0 0]:=hA 9 (oz rfl)
     have z0:=hk.c 0 (.int .i64 0) rfl
     have f0:=hk.f 0
     have z1:=hk.c 1 (.int .i64 0) rfl
     have f1:=hk.f 1
     have z2:=hk.c 2 (.string ⟨#[]⟩) rfl
     have f2:=hk.f 2
     have z3:=hk.c 3 (.slice none 0 0) rfl
     have f3:=hk.f 3
     exact ⟨((((X.setCell ⟨b,0,none⟩ (.int .i64 0)).setCell ⟨b,1,none⟩ (.int .i64 0)).setCell ⟨b,2,none⟩ (.string ⟨#[]⟩)).setCell ⟨b,3,none⟩ (.slice none 0 0)),[.int .i64 0,.int .i64 0,.string ⟨#[]⟩,.slice none 0 0],by simp [execOp,go_sem,hb,e6,e83,h9,z0,f0,z1,f1,z2,f2,z3,f3],(((((PutTo.start hk).more 0 (.int .i64 0)).more 1 (.int .i64 0)).more 2 (.string ⟨#[]⟩)).more 3 (.slice none 0 0)),rfl,trivial⟩
    ·cases ho
     refine srv_pure rfl rfl (fun val E hE hA=>?_)
     have e84:=hE.t 84 (val 10) rfl
     have h10:val 10=.int .i64 2:=hA 10 (oz rfl)
     exact ⟨.int .i64 2,fun X=>by simp [execOp,go_sem,e84,h10],rfl⟩
  case fin=>
    have h0:val 0=.agg #[.int .i64 0,.int .i64 0,.string ⟨#[]⟩,.slice none 0 0]:=hv 0 (by decide)
    have h1:val 1=.string s:=hv 1 (by decide)
    have h2:val 2=.string s9:=hv 2 (by decide)
    obtain ⟨a3,c3,h3⟩:∃a3 c3,val 3=.agg #[.int .i64 R3.kind,.int .i64 R3.num,.string R3.name,.slice a3 R3.args.length c3]:=hv 3 (by decide)
    obtain ⟨g4,h4⟩:∃g,val 4=.slice (some ⟨g,0,none⟩) 2 2:=hv 4 (by decide)
    obtain ⟨gg5,h5⟩:∃g,val 5=.agg #[.int .i64 3,.int .i64 0,.string ⟨#[97,116,111,109,95,99,111,100,101,115]⟩,.slice (some ⟨g,0,none⟩) 2 2]:=hv 5 (by decide)
    have h6:val 6=.tuple #[.slice none 0 0,.agg #[.int .i64 0,.int .i64 0,.string ⟨#[]⟩,.slice none 0 0],.int .i64 2]:=hv 6 (by decide)
    have h7:val 7=.tuple #[.slice none 0 0,.agg #[.int .i64 0,.int .i64 0,.string ⟨#[]⟩,.slice none 0 0],.int .i64 2]:=hv 7 (by decide)
    have h8:val 8=.slice none 0 0:=hv 8 (by decide)
    have h9:val 9=.agg #[.int .i64 0,.int .i64 0,.string ⟨#[]⟩,.slice none 0 0]:=hv 9 (by decide)
    have h10:val 10=.int .i64 2:=hv 10 (by decide)
    have h12:val 12=.slice none 0 0:=hv 12 (by decide)
    have h14:val 14=.int .i64 2:=hv 14 (by decide)
    obtain ⟨b11,hb11,hbl,hbk,hbn⟩:=HF.at_box 11 (by decide) rfl
    refine hK9 _ _ ?_
    simp only [fillD,List.set_cons_zero,List.set_cons_succ,Nat.reduceAdd,Nat.zero_add,h0,h1,h2,h3,h4,h5,h6,h7,h8,h9,h10,h12,h14,hb11]
    have HBX:=zq (HB0.out.trans (HF.bel.mono HB0.out.size))
    clear hv HF hK9 h0 h1 h2 h3 h4 h5 h6 h7 h8 h9 h10 h12 h14 HB0
    go_wp2_with fail
    refine (HFI.out _ HBX.out).mono ?_;rintro e wf ⟨rfl,hB⟩
    have HBF:=bz HBX hB
    clear hB HBX HFI
    go_wp2_with fail
    refine (HLN.out (m) _).mono ?_;rintro e w61 ⟨rfl,hB⟩
    have HB_62:=bz HBF hB
    clear hB HBF
    go_wp2_with fail
    refine (HLX.out (0) _).mono ?_;rintro e w63 ⟨rfl,hB⟩
    have HB_64:=bz HB_62 hB
    clear hB HB_62
    obtain ⟨y65,HY65⟩:=lz (w63.alloc (.cells #[.int .i64 1,.int .i64 (m),.string ⟨#[]⟩,.slice none 0 0,.int .i64 0,.int .i64 0,.string ⟨#[]⟩,.slice none 0 0] 32))
    have hB:Below w63.heap.size w63 y65:=by rw [HY65.out];exact (Below.refl _ _).alloc (Nat.le_refl _) _
    have HRN92:Hid (TmsAt y65.heap.size y65 (some ⟨w63.heap.size,0,none⟩) [(intT (m)),(varT (0))]):=zq (by
     rw [HY65.out]
     exact row_new w63 [((intT (m)),none,0),((varT (0)),none,0)] 32 (by simp [maxLen]) (fun r hr=>by
      simp only [List.mem_cons,List.mem_nil_iff,or_false] at hr
      rcases hr with rfl | rfl
      ·exact TmsK.nil
      ·exact TmsK.nil))
    have HB_66:=bz HB_64 hB
    clear hB HB_64
    go_wp2_with fail
    rw [←HY65.out]
    clear HY65
    refine (HLF.out ⟨#[110,117,109,98,101,114,95,99,104,97,114,115]⟩ _ _ _ _).mono ?_;rintro e w67 ⟨rfl,hB⟩
    have HB_68:=bz HB_66 hB
    have HR92_68:=zq ((HRN92.out.keep hB).mono hB.size)
    clear hB HB_66 HRN92
    go_wp2_with fail
    refine (HLN.out (m) _).mono ?_;rintro e w69 ⟨rfl,hB⟩
    have HB_70:=bz HB_68 hB
    have HR92_70:=zq ((HR92_68.out.keep hB).mono hB.size)
    clear hB HB_68 HR92_68
    go_wp2_with fail
    obtain ⟨R71,HRE71⟩:=lz (textT false ((fmA m):ByteArray).data.toList)
    have HC71:Hid (∀X,Calls Tryz.prog 19 #[.string (fmA m)] X fun e w'=>∃qa qc,e=.returned (.agg #[.int .i64 R71.kind,.int .i64 R71.num,.string R71.name,.slice qa R71.args.length qc])∧Below X.heap.size X w'∧TmsAt w'.heap.size w' qa R71.args):=zq fun X=>by
     rw [HRE71.out]
     exact (l_chars (fmA m) X (by have:=HFL.out;omega)).mono fun e w' h=>by
      obtain ⟨qa,qc,he,hB,hN⟩:=h
      exact ⟨qa,qc,he,hB,hN.at'⟩
    refine (HC71.out _).mono ?_;rintro e w71 ⟨a71,c71,rfl,hB,hN⟩
    have HRN97:=zq hN
    clear hN HC71
    have HB_72:=bz HB_70 hB
    have HR92_72:=zq ((HR92_70.out.keep hB).mono hB.size)
    clear hB HB_70 HR92_70
    obtain ⟨y73,HY73⟩:=lz (w71.alloc (.cells #[.int .i64 1,.int .i64 (m),.string ⟨#[]⟩,.slice none 0 0,.int .i64 R71.kind,.int .i64 R71.num,.string R71.name,.slice a71 R71.args.length c71] 32))
    have hB:Below w71.heap.size w71 y73:=by rw [HY73.out];exact (Below.refl _ _).alloc (Nat.le_refl _) _
    have HRN98:Hid (TmsAt y73.heap.size y73 (some ⟨w71.heap.size,0,none⟩) [(intT (m)),R71]):=zq (by
     rw [HY73.out]
     exact row_new w71 [((intT (m)),none,0),(R71,a71,c71)] 32 (by simp [maxLen]) (fun r hr=>by
      simp only [List.mem_cons,List.mem_nil_iff,or_false] at hr
      rcases hr with rfl | rfl
      ·exact TmsK.nil
      ·exact HRN97.out))
    have HB_74:=bz HB_72 hB
    have HR92_74:=zq ((HR92_72.out.keep hB).mono hB.size)
    clear hB HB_72 HR92_72 HRN97
    go_wp2_with fail
    rw [←HY73.out]
    clear HY73
    refine (HLF.out ⟨#[110,117,109,98,101,114,95,99,104,97,114,115]⟩ _ _ _ _).mono ?_;rintro e w75 ⟨rfl,hB⟩
    have HB_76:=bz HB_74 hB
    have HR92_76:=zq ((HR92_74.out.keep hB).mono hB.size)
    have HR98_76:=zq ((HRN98.out.keep hB).mono hB.size)
    clear hB HB_74 HR92_74 HRN98
    obtain ⟨y77,HY77⟩:=lz (w75.alloc (.cells #[.int .i64 3,.int .i64 0,.string ⟨#[110,117,109,98,101,114,95,99,104,97,114,115]⟩,.slice (some ⟨w71.heap.size,0,none⟩) 2 2] 32))
    have hB:Below w75.heap.size w75 y77:=by rw [HY77.out];exact (Below.refl _ _).alloc (Nat.le_refl _) _
    have HRN100:Hid (TmsAt y77.heap.size y77 (some ⟨w75.heap.size,0,none⟩) [(strT ⟨#[110,117,109,98,101,114,95,99,104,97,114,115]⟩ [(intT (m)),R71])]):=zq (by
     rw [HY77.out]
     exact row_new w75 [((strT ⟨#[110,117,109,98,101,114,95,99,104,97,114,115]⟩ [(intT (m)),R71]),(some ⟨w71.heap.size,0,none⟩),2)] 32 (by simp [maxLen]) (fun r hr=>by
      simp only [List.mem_cons,List.mem_nil_iff,or_false] at hr
      rcases hr with rfl
      ·exact HR98_76.out))
    have HB_78:=bz HB_76 hB
    have HR92_78:=zq ((HR92_76.out.keep hB).mono hB.size)
    clear hB HB_76 HR92_76 HR98_76
    go_wp2_with fail
    rw [←HY77.out]
    clear HY77
    have HG79:Hid (Calls Tryz.prog 15 #[.agg #[.int .i64 3,.int .i64 0,.string ⟨#[110,117,109,98,101,114,95,99,104,97,114,115]⟩,.slice (some ⟨w63.heap.size,0,none⟩) 2 2],.slice (some ⟨w75.heap.size,0,none⟩) 1 1] y77 fun e w'=>e=.returned (.bool true)∧Below y77.heap.size y77 w'):=zq (by
     have h:=l_gives (strT ⟨#[110,117,109,98,101,114,95,99,104,97,114,115]⟩ [(intT (m)),(varT (0))]) (some ⟨w63.heap.size,0,none⟩) 2 [(strT ⟨#[110,117,109,98,101,114,95,99,104,97,114,115]⟩ [(intT (m)),R71])] (some ⟨w75.heap.size,0,none⟩) 1 1 y77 (HDO.out.below HB_78.out) (i64_of ⟨HIM.out,⟨by decide,by decide⟩,trivial⟩) (Nat.le_refl _) HR92_78.out rfl HRN100.out
     rw [show givesB (strT ⟨#[110,117,109,98,101,114,95,99,104,97,114,115]⟩ [(intT (m)),(varT (0))]) [(strT ⟨#[110,117,109,98,101,114,95,99,104,97,114,115]⟩ [(intT (m)),R71])]=true by rw [HRE71.out];exact bk_n1 false m HIM.out] at h
     exact h)
    refine HG79.out.mono ?_;rintro e w79 ⟨rfl,hB⟩
    clear HG79
    have HB_80:=bz HB_78 hB
    clear hB HB_78 HR92_78 HRN100
    go_wp2_with fail
    refine (HLN.out (m) _).mono ?_;rintro e w81 ⟨rfl,hB⟩
    have HB_82:=bz HB_80 hB
    clear hB HB_80
    go_wp2_with fail
    refine (HLX.out (0) _).mono ?_;rintro e w83 ⟨rfl,hB⟩
    have HB_84:=bz HB_82 hB
    clear hB HB_82
    obtain ⟨y85,HY85⟩:=lz (w83.alloc (.cells #[.int .i64 1,.int .i64 (m),.string ⟨#[]⟩,.slice none 0 0,.int .i64 0,.int .i64 0,.string ⟨#[]⟩,.slice none 0 0] 32))
    have hB:Below w83.heap.size w83 y85:=by rw [HY85.out];exact (Below.refl _ _).alloc (Nat.le_refl _) _
    have HRN106:Hid (TmsAt y85.heap.size y85 (some ⟨w83.heap.size,0,none⟩) [(intT (m)),(varT (0))]):=zq (by
     rw [HY85.out]
     exact row_new w83 [((intT (m)),none,0),((varT (0)),none,0)] 32 (by simp [maxLen]) (fun r hr=>by
      simp only [List.mem_cons,List.mem_nil_iff,or_false] at hr
      rcases hr with rfl | rfl
      ·exact TmsK.nil
      ·exact TmsK.nil))
    have HB_86:=bz HB_84 hB
    clear hB HB_84
    go_wp2_with fail
    rw [←HY85.out]
    clear HY85
    refine (HLF.out ⟨#[110,117,109,98,101,114,95,99,111,100,101,115]⟩ _ _ _ _).mono ?_;rintro e w87 ⟨rfl,hB⟩
    have HB_88:=bz HB_86 hB
    have HR106_88:=zq ((HRN106.out.keep hB).mono hB.size)
    clear hB HB_86 HRN106
    go_wp2_with fail
    refine (HLN.out (m) _).mono ?_;rintro e w89 ⟨rfl,hB⟩
    have HB_90:=bz HB_88 hB
    have HR106_90:=zq ((HR106_88.out.keep hB).mono hB.size)
    clear hB HB_88 HR106_88
    go_wp2_with fail
    obtain ⟨R91,HRE91⟩:=lz (textT true ((fmA m):ByteArray).data.toList)
    have HC91:Hid (∀X,Calls Tryz.prog 20 #[.string (fmA m)] X fun e w'=>∃qa qc,e=.returned (.agg #[.int .i64 R91.kind,.int .i64 R91.num,.string R91.name,.slice qa R91.args.length qc])∧Below X.heap.size X w'∧TmsAt w'.heap.size w' qa R91.args):=zq fun X=>by
     rw [HRE91.out]
     exact (l_codes (fmA m) X (by have:=HFL.out;omega)).mono fun e w' h=>by
      obtain ⟨qa,qc,he,hB,hN⟩:=h
      exact ⟨qa,qc,he,hB,hN.at'⟩
    refine (HC91.out _).mono ?_;rintro e w91 ⟨a91,c91,rfl,hB,hN⟩
    have HRN111:=zq hN
    clear hN HC91
    have HB_92:=bz HB_90 hB
    have HR106_92:=zq ((HR106_90.out.keep hB).mono hB.size)
    clear hB HB_90 HR106_90
    obtain ⟨y93,HY93⟩:=lz (w91.alloc (.cells #[.int .i64 1,.int .i64 (m),.string ⟨#[]⟩,.slice none 0 0,.int .i64 R91.kind,.int .i64 R91.num,.string R91.name,.slice a91 R91.args.length c91] 32))
    have hB:Below w91.heap.size w91 y93:=by rw [HY93.out];exact (Below.refl _ _).alloc (Nat.le_refl _) _
    have HRN112:Hid (TmsAt y93.heap.size y93 (some ⟨w91.heap.size,0,none⟩) [(intT (m)),R91]):=zq (by
     rw [HY93.out]
     exact row_new w91 [((intT (m)),none,0),(R91,a91,c91)] 32 (by simp [maxLen]) (fun r hr=>by
      simp only [List.mem_cons,List.mem_nil_iff,or_false] at hr
      rcases hr with rfl | rfl
      ·exact TmsK.nil
      ·exact HRN111.out))
    have HB_94:=bz HB_92 hB
    have HR106_94:=zq ((HR106_92.out.keep hB).mono hB.size)
    clear hB HB_92 HR106_92 HRN111
    go_wp2_with fail
    rw [←HY93.out]
    clear HY93
    refine (HLF.out ⟨#[110,117,109,98,101,114,95,99,111,100,101,115]⟩ _ _ _ _).mono ?_;rintro e w95 ⟨rfl,hB⟩
    have HB_96:=bz HB_94 hB
    have HR106_96:=zq ((HR106_94.out.keep hB).mono hB.size)
    have HR112_96:=zq ((HRN112.out.keep hB).mono hB.size)
    clear hB HB_94 HR106_94 HRN112
    obtain ⟨y97,HY97⟩:=lz (w95.alloc (.cells #[.int .i64 3,.int .i64 0,.string ⟨#[110,117,109,98,101,114,95,99,111,100,101,115]⟩,.slice (some ⟨w91.heap.size,0,none⟩) 2 2] 32))
    have hB:Below w95.heap.size w95 y97:=by rw [HY97.out];exact (Below.refl _ _).alloc (Nat.le_refl _) _
    have HRN114:Hid (TmsAt y97.heap.size y97 (some ⟨w95.heap.size,0,none⟩) [(strT ⟨#[110,117,109,98,101,114,95,99,111,100,101,115]⟩ [(intT (m)),R91])]):=zq (by
     rw [HY97.out]
     exact row_new w95 [((strT ⟨#[110,117,109,98,101,114,95,99,111,100,101,115]⟩ [(intT (m)),R91]),(some ⟨w91.heap.size,0,none⟩),2)] 32 (by simp [maxLen]) (fun r hr=>by
      simp only [List.mem_cons,List.mem_nil_iff,or_false] at hr
      rcases hr with rfl
      ·exact HR112_96.out))
    have HB_98:=bz HB_96 hB
    have HR106_98:=zq ((HR106_96.out.keep hB).mono hB.size)
    clear hB HB_96 HR106_96 HR112_96
    go_wp2_with fail
    rw [←HY97.out]
    clear HY97
    have HG99:Hid (Calls Tryz.prog 15 #[.agg #[.int .i64 3,.int .i64 0,.string ⟨#[110,117,109,98,101,114,95,99,111,100,101,115]⟩,.slice (some ⟨w83.heap.size,0,none⟩) 2 2],.slice (some ⟨w95.heap.size,0,none⟩) 1 1] y97 fun e w'=>e=.returned (.bool true)∧Below y97.heap.size y97 w'):=zq (by
     have h:=l_gives (strT ⟨#[110,117,109,98,101,114,95,99,111,100,101,115]⟩ [(intT (m)),(varT (0))]) (some ⟨w83.heap.size,0,none⟩) 2 [(strT ⟨#[110,117,109,98,101,114,95,99,111,100,101,115]⟩ [(intT (m)),R91])] (some ⟨w95.heap.size,0,none⟩) 1 1 y97 (HDO.out.below HB_98.out) (i64_of ⟨HIM.out,⟨by decide,by decide⟩,trivial⟩) (Nat.le_refl _) HR106_98.out rfl HRN114.out
     rw [show givesB (strT ⟨#[110,117,109,98,101,114,95,99,111,100,101,115]⟩ [(intT (m)),(varT (0))]) [(strT ⟨#[110,117,109,98,101,114,95,99,111,100,101,115]⟩ [(intT (m)),R91])]=true by rw [HRE91.out];exact bk_n1 true m HIM.out] at h
     exact h)
    refine HG99.out.mono ?_;rintro e w99 ⟨rfl,hB⟩
    clear HG99
    have HB_100:=bz HB_98 hB
    clear hB HB_98 HR106_98 HRN114
    go_wp2_with fail
    refine (HLX.out (0) _).mono ?_;rintro e w101 ⟨rfl,hB⟩
    have HB_102:=bz HB_100 hB
    clear hB HB_100
    go_wp2_with fail
    obtain ⟨R103,HRE103⟩:=lz (textT false ((fmA m):ByteArray).data.toList)
    have HC103:Hid (∀X,Calls Tryz.prog 19 #[.string (fmA m)] X fun e w'=>∃qa qc,e=.returned (.agg #[.int .i64 R103.kind,.int .i64 R103.num,.string R103.name,.slice qa R103.args.length qc])∧Below X.heap.size X w'∧TmsAt w'.heap.size w' qa R103.args):=zq fun X=>by
     rw [HRE103.out]
     exact (l_chars (fmA m) X (by have:=HFL.out;omega)).mono fun e w' h=>by
      obtain ⟨qa,qc,he,hB,hN⟩:=h
      exact ⟨qa,qc,he,hB,hN.at'⟩
    refine (HC103.out _).mono ?_;rintro e w103 ⟨a103,c103,rfl,hB,hN⟩
    have HRN120:=zq hN
    clear hN HC103
    have HB_104:=bz HB_102 hB
    clear hB HB_102
    obtain ⟨y105,HY105⟩:=lz (w103.alloc (.cells #[.int .i64 0,.int .i64 0,.string ⟨#[]⟩,.slice none 0 0,.int .i64 R103.kind,.int .i64 R103.num,.string R103.name,.slice a103 R103.args.length c103] 32))
    have hB:Below w103.heap.size w103 y105:=by rw [HY105.out];exact (Below.refl _ _).alloc (Nat.le_refl _) _
    have HRN121:Hid (TmsAt y105.heap.size y105 (some ⟨w103.heap.size,0,none⟩) [(varT (0)),R103]):=zq (by
     rw [HY105.out]
     exact row_new w103 [((varT (0)),none,0),(R103,a103,c103)] 32 (by simp [maxLen]) (fun r hr=>by
      simp only [List.mem_cons,List.mem_nil_iff,or_false] at hr
      rcases hr with rfl | rfl
      ·exact TmsK.nil
      ·exact HRN120.out))
    have HB_106:=bz HB_104 hB
    clear hB HB_104 HRN120
    go_wp2_with fail
    rw [←HY105.out]
    clear HY105
    refine (HLF.out ⟨#[110,117,109,98,101,114,95,99,104,97,114,115]⟩ _ _ _ _).mono ?_;rintro e w107 ⟨rfl,hB⟩
    have HB_108:=bz HB_106 hB
    have HR121_108:=zq ((HRN121.out.keep hB).mono hB.size)
    clear hB HB_106 HRN121
    go_wp2_with fail
    refine (HLN.out (m) _).mono ?_;rintro e w109 ⟨rfl,hB⟩
    have HB_110:=bz HB_108 hB
    have HR121_110:=zq ((HR121_108.out.keep hB).mono hB.size)
    clear hB HB_108 HR121_108
    go_wp2_with fail
    obtain ⟨R111,HRE111⟩:=lz (textT false ((fmA m):ByteArray).data.toList)
    have HC111:Hid (∀X,Calls Tryz.prog 19 #[.string (fmA m)] X fun e w'=>∃qa qc,e=.returned (.agg #[.int .i64 R111.kind,.int .i64 R111.num,.string R111.name,.slice qa R111.args.length qc])∧Below X.heap.size X w'∧TmsAt w'.heap.size w' qa R111.args):=zq fun X=>by
     rw [HRE111.out]
     exact (l_chars (fmA m) X (by have:=HFL.out;omega)).mono fun e w' h=>by
      obtain ⟨qa,qc,he,hB,hN⟩:=h
      exact ⟨qa,qc,he,hB,hN.at'⟩
    refine (HC111.out _).mono ?_;rintro e w111 ⟨a111,c111,rfl,hB,hN⟩
    have HRN126:=zq hN
    clear hN HC111
    have HB_112:=bz HB_110 hB
    have HR121_112:=zq ((HR121_110.out.keep hB).mono hB.size)
    clear hB HB_110 HR121_110
    obtain ⟨y113,HY113⟩:=lz (w111.alloc (.cells #[.int .i64 1,.int .i64 (m),.string ⟨#[]⟩,.slice none 0 0,.int .i64 R111.kind,.int .i64 R111.num,.string R111.name,.slice a111 R111.args.length c111] 32))
    have hB:Below w111.heap.size w111 y113:=by rw [HY113.out];exact (Below.refl _ _).alloc (Nat.le_refl _) _
    have HRN127:Hid (TmsAt y113.heap.size y113 (some ⟨w111.heap.size,0,none⟩) [(intT (m)),R111]):=zq (by
     rw [HY113.out]
     exact row_new w111 [((intT (m)),none,0),(R111,a111,c111)] 32 (by simp [maxLen]) (fun r hr=>by
      simp only [List.mem_cons,List.mem_nil_iff,or_false] at hr
      rcases hr with rfl | rfl
      ·exact TmsK.nil
      ·exact HRN126.out))
    have HB_114:=bz HB_112 hB
    have HR121_114:=zq ((HR121_112.out.keep hB).mono hB.size)
    clear hB HB_112 HR121_112 HRN126
    go_wp2_with fail
    rw [←HY113.out]
    clear HY113
    refine (HLF.out ⟨#[110,117,109,98,101,114,95,99,104,97,114,115]⟩ _ _ _ _).mono ?_;rintro e w115 ⟨rfl,hB⟩
    have HB_116:=bz HB_114 hB
    have HR121_116:=zq ((HR121_114.out.keep hB).mono hB.size)
    have HR127_116:=zq ((HRN127.out.keep hB).mono hB.size)
    clear hB HB_114 HR121_114 HRN127
    obtain ⟨y117,HY117⟩:=lz (w115.alloc (.cells #[.int .i64 3,.int .i64 0,.string ⟨#[110,117,109,98,101,114,95,99,104,97,114,115]⟩,.slice (some ⟨w111.heap.size,0,none⟩) 2 2] 32))
    have hB:Below w115.heap.size w115 y117:=by rw [HY117.out];exact (Below.refl _ _).alloc (Nat.le_refl _) _
    have HRN129:Hid (TmsAt y117.heap.size y117 (some ⟨w115.heap.size,0,none⟩) [(strT ⟨#[110,117,109,98,101,114,95,99,104,97,114,115]⟩ [(intT (m)),R111])]):=zq (by
     rw [HY117.out]
     exact row_new w115 [((strT ⟨#[110,117,109,98,101,114,95,99,104,97,114,115]⟩ [(intT (m)),R111]),(some ⟨w111.heap.size,0,none⟩),2)] 32 (by simp [maxLen]) (fun r hr=>by
      simp only [List.mem_cons,List.mem_nil_iff,or_false] at hr
      rcases hr with rfl
      ·exact HR127_116.out))
    have HB_118:=bz HB_116 hB
    have HR121_118:=zq ((HR121_116.out.keep hB).mono hB.size)
    clear hB HB_116 HR121_116 HR127_116
    go_wp2_with fail
    rw [←HY117.out]
    clear HY117
    have HG119:Hid (Calls Tryz.prog 15 #[.agg #[.int .i64 3,.int .i64 0,.string ⟨#[110,117,109,98,101,114,95,99,104,97,114,115]⟩,.slice (some ⟨w103.heap.size,0,none⟩) 2 2],.slice (some ⟨w115.heap.size,0,none⟩) 1 1] y117 fun e w'=>e=.returned (.bool true)∧Below y117.heap.size y117 w'):=zq (by
     have h:=l_gives (strT ⟨#[110,117,109,98,101,114,95,99,104,97,114,115]⟩ [(varT (0)),R103]) (some ⟨w103.heap.size,0,none⟩) 2 [(strT ⟨#[110,117,109,98,101,114,95,99,104,97,114,115]⟩ [(intT (m)),R111])] (some ⟨w115.heap.size,0,none⟩) 1 1 y117 (HDO.out.below HB_118.out) (i64_of ⟨⟨by decide,by decide⟩,(by rw [HRE103.out];exact i64_text _ _),trivial⟩) (Nat.le_refl _) HR121_118.out rfl HRN129.out
     rw [show givesB (strT ⟨#[110,117,109,98,101,114,95,99,104,97,114,115]⟩ [(varT (0)),R103]) [(strT ⟨#[110,117,109,98,101,114,95,99,104,97,114,115]⟩ [(intT (m)),R111])]=true by rw [HRE103.out,HRE111.out];exact bk_n2 false m HIM.out] at h
     exact h)
    refine HG119.out.mono ?_;rintro e w119 ⟨rfl,hB⟩
    clear HG119
    have HB_120:=bz HB_118 hB
    clear hB HB_118 HR121_118 HRN129
    go_wp2_with fail
    refine (HLX.out (0) _).mono ?_;rintro e w121 ⟨rfl,hB⟩
    have HB_122:=bz HB_120 hB
    clear hB HB_120
    go_wp2_with fail
    obtain ⟨R123,HRE123⟩:=lz (textT true ((fmA m):ByteArray).data.toList)
    have HC123:Hid (∀X,Calls Tryz.prog 20 #[.string (fmA m)] X fun e w'=>∃qa qc,e=.returned (.agg #[.int .i64 R123.kind,.int .i64 R123.num,.string R123.name,.slice qa R123.args.length qc])∧Below X.heap.size X w'∧TmsAt w'.heap.size w' qa R123.args):=zq fun X=>by
     rw [HRE123.out]
     exact (l_codes (fmA m) X (by have:=HFL.out;omega)).mono fun e w' h=>by
      obtain ⟨qa,qc,he,hB,hN⟩:=h
      exact ⟨qa,qc,he,hB,hN.at'⟩
    refine (HC123.out _).mono ?_;rintro e w123 ⟨a123,c123,rfl,hB,hN⟩
    have HRN135:=zq hN
    clear hN HC123
    have HB_124:=bz HB_122 hB
    clear hB HB_122
    obtain ⟨y125,HY125⟩:=lz (w123.alloc (.cells #[.int .i64 0,.int .i64 0,.string ⟨#[]⟩,.slice none 0 0,.int .i64 R123.kind,.int .i64 R123.num,.string R123.name,.slice a123 R123.args.length c123] 32))
    have hB:Below w123.heap.size w123 y125:=by rw [HY125.out];exact (Below.refl _ _).alloc (Nat.le_refl _) _
    have HRN136:Hid (TmsAt y125.heap.size y125 (some ⟨w123.heap.size,0,none⟩) [(varT (0)),R123]):=zq (by
     rw [HY125.out]
     exact row_new w123 [((varT (0)),none,0),(R123,a123,c123)] 32 (by simp [maxLen]) (fun r hr=>by
      simp only [List.mem_cons,List.mem_nil_iff,or_false] at hr
      rcases hr with rfl | rfl
      ·exact TmsK.nil
      ·exact HRN135.out))
    have HB_126:=bz HB_124 hB
    clear hB HB_124 HRN135
    go_wp2_with fail
    rw [←HY125.out]
    clear HY125
    refine (HLF.out ⟨#[110,117,109,98,101,114,95,99,111,100,101,115]⟩ _ _ _ _).mono ?_;rintro e w127 ⟨rfl,hB⟩
    have HB_128:=bz HB_126 hB
    have HR136_128:=zq ((HRN136.out.keep hB).mono hB.size)
    clear hB HB_126 HRN136
    go_wp2_with fail
    refine (HLN.out (m) _).mono ?_;rintro e w129 ⟨rfl,hB⟩
    have HB_130:=bz HB_128 hB
    have HR136_130:=zq ((HR136_128.out.keep hB).mono hB.size)
    clear hB HB_128 HR136_128
    go_wp2_with fail
    obtain ⟨R131,HRE131⟩:=lz (textT true ((fmA m):ByteArray).data.toList)
    have HC131:Hid (∀X,Calls Tryz.prog 20 #[.string (fmA m)] X fun e w'=>∃qa qc,e=.returned (.agg #[.int .i64 R131.kind,.int .i64 R131.num,.string R131.name,.slice qa R131.args.length qc])∧Below X.heap.size X w'∧TmsAt w'.heap.size w' qa R131.args):=zq fun X=>by
     rw [HRE131.out]
     exact (l_codes (fmA m) X (by have:=HFL.out;omega)).mono fun e w' h=>by
      obtain ⟨qa,qc,he,hB,hN⟩:=h
      exact ⟨qa,qc,he,hB,hN.at'⟩
    refine (HC131.out _).mono ?_;rintro e w131 ⟨a131,c131,rfl,hB,hN⟩
    have HRN141:=zq hN
    clear hN HC131
    have HB_132:=bz HB_130 hB
    have HR136_132:=zq ((HR136_130.out.keep hB).mono hB.size)
    clear hB HB_130 HR136_130
    obtain ⟨y133,HY133⟩:=lz (w131.alloc (.cells #[.int .i64 1,.int .i64 (m),.string ⟨#[]⟩,.slice none 0 0,.int .i64 R131.kind,.int .i64 R131.num,.string R131.name,.slice a131 R131.args.length c131] 32))
    have hB:Below w131.heap.size w131 y133:=by rw [HY133.out];exact (Below.refl _ _).alloc (Nat.le_refl _) _
    have HRN142:Hid (TmsAt y133.heap.size y133 (some ⟨w131.heap.size,0,none⟩) [(intT (m)),R131]):=zq (by
     rw [HY133.out]
     exact row_new w131 [((intT (m)),none,0),(R131,a131,c131)] 32 (by simp [maxLen]) (fun r hr=>by
      simp only [List.mem_cons,List.mem_nil_iff,or_false] at hr
      rcases hr with rfl | rfl
      ·exact TmsK.nil
      ·exact HRN141.out))
    have HB_134:=bz HB_132 hB
    have HR136_134:=zq ((HR136_132.out.keep hB).mono hB.size)
    clear hB HB_132 HR136_132 HRN141
    go_wp2_with fail
    rw [←HY133.out]
    clear HY133
    refine (HLF.out ⟨#[110,117,109,98,101,114,95,99,111,100,101,115]⟩ _ _ _ _).mono ?_;rintro e w135 ⟨rfl,hB⟩
    have HB_136:=bz HB_134 hB
    have HR136_136:=zq ((HR136_134.out.keep hB).mono hB.size)
    have HR142_136:=zq ((HRN142.out.keep hB).mono hB.size)
    clear hB HB_134 HR136_134 HRN142
    obtain ⟨y137,HY137⟩:=lz (w135.alloc (.cells #[.int .i64 3,.int .i64 0,.string ⟨#[110,117,109,98,101,114,95,99,111,100,101,115]⟩,.slice (some ⟨w131.heap.size,0,none⟩) 2 2] 32))
    have hB:Below w135.heap.size w135 y137:=by rw [HY137.out];exact (Below.refl _ _).alloc (Nat.le_refl _) _
    have HRN144:Hid (TmsAt y137.heap.size y137 (some ⟨w135.heap.size,0,none⟩) [(strT ⟨#[110,117,109,98,101,114,95,99,111,100,101,115]⟩ [(intT (m)),R131])]):=zq (by
     rw [HY137.out]
     exact row_new w135 [((strT ⟨#[110,117,109,98,101,114,95,99,111,100,101,115]⟩ [(intT (m)),R131]),(some ⟨w131.heap.size,0,none⟩),2)] 32 (by simp [maxLen]) (fun r hr=>by
      simp only [List.mem_cons,List.mem_nil_iff,or_false] at hr
      rcases hr with rfl
      ·exact HR142_136.out))
    have HB_138:=bz HB_136 hB
    have HR136_138:=zq ((HR136_136.out.keep hB).mono hB.size)
    clear hB HB_136 HR136_136 HR142_136
    go_wp2_with fail
    rw [←HY137.out]
    clear HY137
    have HG139:Hid (Calls Tryz.prog 15 #[.agg #[.int .i64 3,.int .i64 0,.string ⟨#[110,117,109,98,101,114,95,99,111,100,101,115]⟩,.slice (some ⟨w123.heap.size,0,none⟩) 2 2],.slice (some ⟨w135.heap.size,0,none⟩) 1 1] y137 fun e w'=>e=.returned (.bool true)∧Below y137.heap.size y137 w'):=zq (by
     have h:=l_gives (strT ⟨#[110,117,109,98,101,114,95,99,111,100,101,115]⟩ [(varT (0)),R123]) (some ⟨w123.heap.size,0,none⟩) 2 [(strT ⟨#[110,117,109,98,101,114,95,99,111,100,101,115]⟩ [(intT (m)),R131])] (some ⟨w135.heap.size,0,none⟩) 1 1 y137 (HDO.out.below HB_138.out) (i64_of ⟨⟨by decide,by decide⟩,(by rw [HRE123.out];exact i64_text _ _),trivial⟩) (Nat.le_refl _) HR136_138.out rfl HRN144.out
     rw [show givesB (strT ⟨#[110,117,109,98,101,114,95,99,111,100,101,115]⟩ [(varT (0)),R123]) [(strT ⟨#[110,117,109,98,101,114,95,99,111,100,101,115]⟩ [(intT (m)),R131])]=true by rw [HRE123.out,HRE131.out];exact bk_n2 true m HIM.out] at h
     exact h)
    refine HG139.out.mono ?_;rintro e w139 ⟨rfl,hB⟩
    clear HG139
    have HB_140:=bz HB_138 hB
    clear hB HB_138 HR136_138 HRN144
    go_wp2_with fail
    refine (HAW.out _ HB_140.out).mono ?_;rintro e wz ⟨rfl,hB⟩
    have HBZ:=bz HB_140 hB
    clear hB HB_140
    go_wp2_with fail
    go_ret
    exact ⟨rfl,HBZ.out⟩
theorem law_backL (s:ByteArray) (m:Int) (hm:(Lit.int .i64 m).wf=true) (w:World) (hD:DoorOk w):Calls Tryz.prog 5 #[.string s,.int .i64 m] w fun e w'=>e=.returned (.bool true)∧Below w.heap.size w w':=law_back s m (wfI hm) w hD
end Go.Proofs.YtpokpgkjaifccaaGreatDoorRR
