/- The laws' example. The laws WritePieces, WriteClauses, WriteIgnores. Terms that came in, opened. -/
import Derived.Test.YtgapnafkelokaaaGreatDoorM25
import Derived.Test.YtgapnafkelokaaaGreatDoorM09
import Derived.Test.YtgapnafkelokaaaGreatDoorM16
namespace Hb
open Go Go.RowKit
def xn (n : Int) : Tm := .mk 1 n ⟨#[]⟩ []
def xa (s : ByteArray) : Tm := .mk 2 0 s []
def xP : Tm := .mk 3 0 ⟨#[43]⟩ [xn 1, xn 2]
def xM : Tm := .mk 3 0 ⟨#[42]⟩ [xP, xn 3]
def xC : Tm := .mk 3 0 ⟨#[44]⟩ [xa ⟨#[97]⟩, xa ⟨#[98, 32, 99]⟩]
def xD : Tm := .mk 3 0 ⟨#[45]⟩ [xC]
theorem ok_leaf {t : Tm} (h : nodeOk t = true) (ha : t.args = []) : t.allOk = true := by rw [Tm.allOk_eq, h, ha]; rfl
theorem ok_two {t a b : Tm} (h : nodeOk t = true) (ha : t.args = [a, b]) (h1 : a.allOk = true) (h2 : b.allOk = true) : t.allOk = true := by rw [Tm.allOk_eq, h, ha]; simp [h1, h2]
theorem ok_one {t a : Tm} (h : nodeOk t = true) (ha : t.args = [a]) (h1 : a.allOk = true) : t.allOk = true := by rw [Tm.allOk_eq, h, ha]; simp [h1]
theorem n_leaf {t : Tm} (ha : t.args = []) : t.nodes = 1 := by rw [Tm.nodes_eq, ha]; rfl
theorem n_two {t a b : Tm} (ha : t.args = [a, b]) : t.nodes = 1 + (a.nodes + b.nodes) := by rw [Tm.nodes_eq, ha]; simp
theorem n_one {t a : Tm} (ha : t.args = [a]) : t.nodes = 1 + a.nodes := by rw [Tm.nodes_eq, ha]; simp
theorem xn_ok (n : Int) : (xn n).allOk = true := ok_leaf (by unfold nodeOk xn Tm.kind Tm.name Tm.args; simp [tl_data]) rfl
theorem xP_ok : xP.allOk = true := ok_two (by decide +kernel) rfl (xn_ok _) (xn_ok _)
theorem xM_ok : xM.allOk = true := ok_two (by decide +kernel) rfl xP_ok (xn_ok _)
theorem xC_ok : xC.allOk = true := ok_two (by decide +kernel) rfl (ok_leaf (by decide +kernel) rfl) (ok_leaf (by decide +kernel) rfl)
theorem xD_ok : xD.allOk = true := ok_one (by decide +kernel) rfl xC_ok
theorem xP_n : xP.nodes = 3 := by rw [n_two (a := xn 1) (b := xn 2) rfl, n_leaf (t := xn 1) rfl, n_leaf (t := xn 2) rfl]
theorem xM_n : xM.nodes = 5 := by rw [n_two (a := xP) (b := xn 3) rfl, xP_n, n_leaf (t := xn 3) rfl]
theorem xC_n : xC.nodes = 3 := by rw [n_two (a := xa ⟨#[97]⟩) (b := xa ⟨#[98, 32, 99]⟩) rfl, n_leaf (t := xa ⟨#[97]⟩) rfl, n_leaf (t := xa ⟨#[98, 32, 99]⟩) rfl]
theorem xD_n : xD.nodes = 4 := by rw [n_one (a := xC) rfl, xC_n]
theorem fm_one (k : Nat) (h : k < 10) : fmI (k : Int) = ⟨#[(48 + ((k % 10 : Nat) : Int)).toNat.toUInt8]⟩ := by
  rw [fmI_pos]
  have := dec_last k [] (by omega)
  rw [List.append_nil] at this
  rw [this]
theorem fm1 : fmI 1 = ⟨#[49]⟩ := fm_one 1 (by decide)
theorem fm2 : fmI 2 = ⟨#[50]⟩ := fm_one 2 (by decide)
theorem fm3 : fmI 3 = ⟨#[51]⟩ := fm_one 3 (by decide)
theorem txt_eval {o : WO} {T : List OpR} {t : Tm} {l : List ByteArray} {s : ByteArray} (hv : t.allOk = true) (hn : t.nodes ≤ 2000) (hT : opsValid T = true) (hl : pcs o T t 1200 false = l) (hj : joinB l = s) (hs : s.size ≤ 16384) : txtR o T t = (s, 0) := by
  have hv2 : validT t = true := (validT_iff t).2 ⟨hn, hv⟩
  rw [txtR_yes (by rw [hv2, hT]; rfl), hl, hj, limR_yes hs]
theorem pcs_eval {o : WO} {T : List OpR} {t : Tm} (n : Nat) (hv : t.allOk = true) (hn : t.nodes ≤ n) (m : Int) (b : Bool) : pcs o T t m b = placeW o T (strW o T n) t m b :=
  place_congr (K4.of_ok t hv) (fun _ => (strW_str o T (K4.of_ok t hv) hn).symm) m b
theorem xD_pcs : pcs oQ defL xD 1200 false = [⟨#[45]⟩, ⟨#[32]⟩, ⟨#[40]⟩, ⟨#[97]⟩, ⟨#[44]⟩, ⟨#[39, 98, 32, 99, 39]⟩, ⟨#[41]⟩] := by
  rw [pcs_eval 4 xD_ok (by rw [xD_n]; decide)]
  decide +kernel
theorem xM_pcs : pcs oQ defL xM 1200 false = [⟨#[40]⟩, fmI 1, ⟨#[43]⟩, fmI 2, ⟨#[41]⟩, ⟨#[42]⟩, fmI 3] := by
  rw [pcs_eval 5 xM_ok (by rw [xM_n]; decide)]
  kernel_rfl
theorem xM_txt : txtR oQ defL xM = (⟨#[40, 49, 43, 50, 41, 42, 51]⟩, 0) := by
  refine txt_eval xM_ok (by rw [xM_n]; decide) defL_ok xM_pcs ?_ (by decide)
  rw [fm1, fm2, fm3]
  decide +kernel
theorem xD_txt : txtR oQ defL xD = (⟨#[45, 32, 40, 97, 44, 39, 98, 32, 99, 39, 41]⟩, 0) := txt_eval xD_ok (by rw [xD_n]; decide) defL_ok xD_pcs (by decide +kernel) (by decide)
def xH : Tm := xa ⟨#[61]⟩
def xT : Tm := xa ⟨#[116, 114, 117, 101]⟩
theorem xH_v : validT xH = true := (validT_iff _).2 ⟨by rw [n_leaf (t := xH) rfl]; decide, ok_leaf (by decide +kernel) rfl⟩
theorem xT_v : validT xT = true := (validT_iff _).2 ⟨by rw [n_leaf (t := xT) rfl]; decide, ok_leaf (by decide +kernel) rfl⟩
theorem xE_txt : clR defL xH xT = (⟨#[61, 32, 46, 10]⟩, 0) := by
  rw [clR_yes (by rw [xH_v, xT_v, defL_ok]; rfl), clT_head (by decide +kernel) (by decide +kernel)]
  have h : pcs oQ defL xH 1200 false = [⟨#[61]⟩] := by
    show [nmW oQ ⟨#[61]⟩] = _
    decide +kernel
  rw [h]
  decide +kernel
theorem fit_leaf {t : Tm} (h : nodeFit t = true) (ha : t.args = []) : Tm.All (fun x => nodeFit x = true) t := .mk _ h (by rw [ha]; intro a h; cases h)
theorem xP_fit : Tm.All (fun x => nodeFit x = true) xP := .mk _ (by rfl) fun a ha => by
  simp [xP, Tm.args] at ha
  rcases ha with rfl | rfl <;> exact fit_leaf (by rfl) rfl
theorem xM_fit : Tm.All (fun x => nodeFit x = true) xM := .mk _ (by rfl) fun a ha => by
  simp [xM, Tm.args] at ha
  rcases ha with rfl | rfl
  · exact xP_fit
  · exact fit_leaf (by rfl) rfl
theorem xC_fit : Tm.All (fun x => nodeFit x = true) xC := .mk _ (by rfl) fun a ha => by
  simp [xC, Tm.args] at ha
  rcases ha with rfl | rfl <;> exact fit_leaf (by rfl) rfl
theorem xD_fit : Tm.All (fun x => nodeFit x = true) xD := .mk _ (by rfl) fun a ha => by
  simp [xD, Tm.args] at ha
  subst ha
  exact xC_fit
end Hb
namespace Go.Proofs.YtgapnafkelokaaaGreatDoor
open Go.RowKit Hb
set_option maxRecDepth 100000
theorem defL_len : defL.length = 41 := by kernel_rfl
set_option maxHeartbeats 3200000 in
theorem law_example (w : World) (hD : DoorOk w) : Calls Tryz.prog 15 #[] w fun e w' => e = .returned (.bool true) ∧ Below w.heap.size w w' := by
  have HD := Lib.hid hD
  clear hD
  go_enter Tryz.func15, Tryz.ntmps15
  go_wp2_with fail
  refine (ref_default _).mono ?_; rintro e w1 ⟨A, n, cap, rfl, hB1, hT1⟩
  have HT1 := Lib.hid hT1
  have hn : n ≤ maxLen := by have := hT1.len; rw [defL_len] at this; unfold maxLen; omega
  clear hT1
  go_wp2_with fail
  refine (law_number 1 _).mono ?_; rintro e w2 ⟨rfl, hB2⟩
  have hb2 := hB1.trans (hB2.mono hB1.size)
  go_wp2_with fail
  refine (law_number 2 _).mono ?_; rintro e w3 ⟨rfl, hB3⟩
  have hb3 := hb2.trans (hB3.mono hb2.size)
  have HR1 : Hid (TmsAt (w3.alloc (.cells #[.int .i64 1, .int .i64 1, .string ⟨#[]⟩, .slice none 0 0, .int .i64 1, .int .i64 2, .string ⟨#[]⟩, .slice none 0 0] 24)).heap.size (w3.alloc (.cells #[.int .i64 1, .int .i64 1, .string ⟨#[]⟩, .slice none 0 0, .int .i64 1, .int .i64 2, .string ⟨#[]⟩, .slice none 0 0] 24)) (some ⟨w3.heap.size, 0, none⟩) [xn 1, xn 2]) :=
    Lib.hid (tms_row (w := w3) 24 [(xn 1, none, 0), (xn 2, none, 0)] (by unfold maxLen; simp) (fun r hr => by simp at hr; rcases hr with rfl | rfl <;> exact TmsK.nil))
  have hb3a := hb3.alloc hb3.size (.cells #[.int .i64 1, .int .i64 1, .string ⟨#[]⟩, .slice none 0 0, .int .i64 1, .int .i64 2, .string ⟨#[]⟩, .slice none 0 0] 24)
  go_wp2_with fail
  refine (law_structure _ _ _ _ _).mono ?_; rintro e w4 ⟨rfl, hB4⟩
  have hb4 := hb3a.trans (hB4.mono hb3a.size)
  have HR4 := Lib.hid ((HR1.out.keep hB4).mono hB4.size)
  clear hb3a HR1
  go_wp2_with fail
  refine (law_number 3 _).mono ?_; rintro e w5 ⟨rfl, hB5⟩
  have hb5 := hb4.trans (hB5.mono hb4.size)
  have HR5 := Lib.hid ((HR4.out.keep hB5).mono hB5.size)
  have HR6 : Hid (TmsAt (w5.alloc (.cells #[.int .i64 3, .int .i64 0, .string ⟨#[43]⟩, .slice (some ⟨w3.heap.size, 0, none⟩) 2 2, .int .i64 1, .int .i64 3, .string ⟨#[]⟩, .slice none 0 0] 24)).heap.size (w5.alloc (.cells #[.int .i64 3, .int .i64 0, .string ⟨#[43]⟩, .slice (some ⟨w3.heap.size, 0, none⟩) 2 2, .int .i64 1, .int .i64 3, .string ⟨#[]⟩, .slice none 0 0] 24)) (some ⟨w5.heap.size, 0, none⟩) [xP, xn 3]) :=
    Lib.hid (tms_row (w := w5) 24 [(xP, some ⟨w3.heap.size, 0, none⟩, 2), (xn 3, none, 0)] (by unfold maxLen; simp) (fun r hr => by
      simp at hr
      rcases hr with rfl | rfl
      · exact HR5.out
      · exact TmsK.nil))
  have hb5a := hb5.alloc hb5.size (.cells #[.int .i64 3, .int .i64 0, .string ⟨#[43]⟩, .slice (some ⟨w3.heap.size, 0, none⟩) 2 2, .int .i64 1, .int .i64 3, .string ⟨#[]⟩, .slice none 0 0] 24)
  clear HR4 HR5
  go_wp2_with fail
  refine (law_structure _ _ _ _ _).mono ?_; rintro e w6 ⟨rfl, hB6⟩
  have hb6 := hb5a.trans (hB6.mono hb5a.size)
  have HR7 := Lib.hid ((HR6.out.keep hB6).mono hB6.size)
  have HTab1 := Lib.hid (fun W (h : Below w1.heap.size w1 W) => HT1.out.below h)
  have hc6 : Below w1.heap.size w1 w6 := by
    have a2 := hB2
    have a3 := a2.trans (hB3.mono a2.size)
    have a4 := (a3.alloc a3.size (.cells #[.int .i64 1, .int .i64 1, .string ⟨#[]⟩, .slice none 0 0, .int .i64 1, .int .i64 2, .string ⟨#[]⟩, .slice none 0 0] 24))
    have a5 := a4.trans (hB4.mono a4.size)
    have a6 := a5.trans (hB5.mono a5.size)
    have a7 := (a6.alloc a6.size (.cells #[.int .i64 3, .int .i64 0, .string ⟨#[43]⟩, .slice (some ⟨w3.heap.size, 0, none⟩) 2 2, .int .i64 1, .int .i64 3, .string ⟨#[]⟩, .slice none 0 0] 24))
    exact a7.trans (hB6.mono a7.size)
  have HXA : Hid (Calls Tryz.prog 12 #[.agg #[.int .i64 3, .int .i64 0, .string ⟨#[42]⟩, .slice (some ⟨w5.heap.size, 0, none⟩) 2 2], .slice A n cap, .agg #[.bool true, .bool false, .bool false]] w6 fun e w' => e = .returned (.tuple #[.string ⟨#[40, 49, 43, 50, 41, 42, 51]⟩, .int .i64 0]) ∧ Below w6.heap.size w6 w') := Lib.hid (by
    have := w_text (o := oQ) (T := defL) (TA := A) (TN := n) (TC := cap) xM_fit (some ⟨w5.heap.size, 0, none⟩) 2 w6 (HD.out.below hb6) hn (HTab1.out _ hc6) HR7.out
    rw [xM_txt] at this
    exact this)
  clear hb5a HR6 HR7 hB2 hB3 hB4 hB5 hB6 hb2 hb3 hb4 hb5
  go_wp2_with fail
  refine HXA.out.mono ?_; rintro e w7 ⟨rfl, hB7⟩
  have hb7 := hb6.trans (hB7.mono hb6.size)
  have hc7 := hc6.trans (hB7.mono hc6.size)
  clear HXA hB7 hb6 hc6
  go_wp2_with fail
  refine (law_atom ⟨#[97]⟩ _).mono ?_; rintro e w8 ⟨rfl, hB8⟩
  have hb8 := hb7.trans (hB8.mono hb7.size)
  have hc8 := hc7.trans (hB8.mono hc7.size)
  go_wp2_with fail
  refine (law_atom ⟨#[98, 32, 99]⟩ _).mono ?_; rintro e w9 ⟨rfl, hB9⟩
  have hb9 := hb8.trans (hB9.mono hb8.size)
  have hc9 := hc8.trans (hB9.mono hc8.size)
  clear hb7 hc7 hb8 hc8 hB8 hB9
  have HR9 : Hid (TmsAt (w9.alloc (.cells #[.int .i64 2, .int .i64 0, .string ⟨#[97]⟩, .slice none 0 0, .int .i64 2, .int .i64 0, .string ⟨#[98, 32, 99]⟩, .slice none 0 0] 24)).heap.size (w9.alloc (.cells #[.int .i64 2, .int .i64 0, .string ⟨#[97]⟩, .slice none 0 0, .int .i64 2, .int .i64 0, .string ⟨#[98, 32, 99]⟩, .slice none 0 0] 24)) (some ⟨w9.heap.size, 0, none⟩) [xa ⟨#[97]⟩, xa ⟨#[98, 32, 99]⟩]) :=
    Lib.hid (tms_row (w := w9) 24 [(xa ⟨#[97]⟩, none, 0), (xa ⟨#[98, 32, 99]⟩, none, 0)] (by unfold maxLen; simp) (fun r hr => by simp at hr; rcases hr with rfl | rfl <;> exact TmsK.nil))
  have hb9a := hb9.alloc hb9.size (.cells #[.int .i64 2, .int .i64 0, .string ⟨#[97]⟩, .slice none 0 0, .int .i64 2, .int .i64 0, .string ⟨#[98, 32, 99]⟩, .slice none 0 0] 24)
  have hc9a := hc9.alloc hc9.size (.cells #[.int .i64 2, .int .i64 0, .string ⟨#[97]⟩, .slice none 0 0, .int .i64 2, .int .i64 0, .string ⟨#[98, 32, 99]⟩, .slice none 0 0] 24)
  go_wp2_with fail
  refine (law_structure _ _ _ _ _).mono ?_; rintro e w10 ⟨rfl, hB10⟩
  have hb10 := hb9a.trans (hB10.mono hb9a.size)
  have hc10 := hc9a.trans (hB10.mono hc9a.size)
  have HR10 := Lib.hid ((HR9.out.keep hB10).mono hB10.size)
  clear HR9 hb9a hc9a hb9 hc9 hB10
  have HR11 : Hid (TmsAt (w10.alloc (.cells #[.int .i64 3, .int .i64 0, .string ⟨#[44]⟩, .slice (some ⟨w9.heap.size, 0, none⟩) 2 2] 24)).heap.size (w10.alloc (.cells #[.int .i64 3, .int .i64 0, .string ⟨#[44]⟩, .slice (some ⟨w9.heap.size, 0, none⟩) 2 2] 24)) (some ⟨w10.heap.size, 0, none⟩) [xC]) :=
    Lib.hid (tms_row (w := w10) 24 [(xC, some ⟨w9.heap.size, 0, none⟩, 2)] (by unfold maxLen; simp) (fun r hr => by simp at hr; subst hr; exact HR10.out))
  have hb10a := hb10.alloc hb10.size (.cells #[.int .i64 3, .int .i64 0, .string ⟨#[44]⟩, .slice (some ⟨w9.heap.size, 0, none⟩) 2 2] 24)
  have hc10a := hc10.alloc hc10.size (.cells #[.int .i64 3, .int .i64 0, .string ⟨#[44]⟩, .slice (some ⟨w9.heap.size, 0, none⟩) 2 2] 24)
  go_wp2_with fail
  refine (law_structure _ _ _ _ _).mono ?_; rintro e w11 ⟨rfl, hB11⟩
  have hb11 := hb10a.trans (hB11.mono hb10a.size)
  have hc11 := hc10a.trans (hB11.mono hc10a.size)
  have HR12 := Lib.hid ((HR11.out.keep hB11).mono hB11.size)
  clear HR10 HR11 hb10a hc10a hb10 hc10 hB11
  have HXB : Hid (Calls Tryz.prog 12 #[.agg #[.int .i64 3, .int .i64 0, .string ⟨#[45]⟩, .slice (some ⟨w10.heap.size, 0, none⟩) 1 1], .slice A n cap, .agg #[.bool true, .bool false, .bool false]] w11 fun e w' => e = .returned (.tuple #[.string ⟨#[45, 32, 40, 97, 44, 39, 98, 32, 99, 39, 41]⟩, .int .i64 0]) ∧ Below w11.heap.size w11 w') := Lib.hid (by
    have := w_text (o := oQ) (T := defL) (TA := A) (TN := n) (TC := cap) xD_fit (some ⟨w10.heap.size, 0, none⟩) 1 w11 (HD.out.below hb11) hn (HTab1.out _ hc11) HR12.out
    rw [xD_txt] at this
    exact this)
  go_wp2_with fail
  refine HXB.out.mono ?_; rintro e w12 ⟨rfl, hB12⟩
  have hb12 := hb11.trans (hB12.mono hb11.size)
  have hc12 := hc11.trans (hB12.mono hc11.size)
  clear HXB HR12 hb11 hc11 hB12
  go_wp2_with fail
  refine (law_atom ⟨#[61]⟩ _).mono ?_; rintro e w13 ⟨rfl, hB13⟩
  have hb13 := hb12.trans (hB13.mono hb12.size)
  have hc13 := hc12.trans (hB13.mono hc12.size)
  go_wp2_with fail
  refine (law_atom ⟨#[116, 114, 117, 101]⟩ _).mono ?_; rintro e w14 ⟨rfl, hB14⟩
  have hb14 := hb13.trans (hB14.mono hb13.size)
  have hc14 := hc13.trans (hB14.mono hc13.size)
  clear hb12 hc12 hb13 hc13 hB13 hB14
  have HXC : Hid (Calls Tryz.prog 16 #[.agg #[.int .i64 2, .int .i64 0, .string ⟨#[61]⟩, .slice none 0 0, .int .i64 2, .int .i64 0, .string ⟨#[116, 114, 117, 101]⟩, .slice none 0 0], .slice A n cap] w14 fun e w' => e = .returned (.tuple #[.string ⟨#[61, 32, 46, 10]⟩, .int .i64 0]) ∧ Below w14.heap.size w14 w') := Lib.hid (by
    have := w_clause (T := defL) (TA := A) (TN := n) (TC := cap) (t := xH) (u := xT) (fit_leaf (by rfl) rfl) (fit_leaf (by rfl) rfl) none none 0 0 w14 (HD.out.below hb14) hn (HTab1.out _ hc14) TmsK.nil TmsK.nil
    rw [xE_txt] at this
    exact this)
  go_wp2_with fail
  refine HXC.out.mono ?_; rintro e w15 ⟨rfl, hB15⟩
  have hb15 := hb14.trans (hB15.mono hb14.size)
  clear HXC hB15 hb14 hc14
  go_wp2_with fail
  go_ret
  exact ⟨rfl, hb15⟩
end Go.Proofs.YtgapnafkelokaaaGreatDoor
namespace Go.Proofs.YtgapnafkelokaaaGreatDoor
open Go.RowKit Hb
set_option maxRecDepth 100000
/-- 'pieces' of two rows of the call's own. -/
theorem law_piecesO {a b : Nat} {v v' : Value} {l : List ByteArray} {w : World} (h : OwnS 9 a w v l) (h' : OwnS 9 b w v' l) (hl : l.length ≤ 100000) : Calls Tryz.prog 14 #[v, v'] w fun e w' => e = .returned (.bool true) ∧ Below w.heap.size w w' := by
  obtain ⟨A, c, rfl, hs, _⟩ := h.strs
  obtain ⟨A', c', rfl, hs', _⟩ := h'.strs
  exact law_pieces A A' l.length c c' l w rfl (by unfold maxLen; omega) hs hs'
set_option maxHeartbeats 3200000 in
theorem law_writePieces {o : WO} {T : List OpR} {TA : Option Addr} {TN TC : Nat} {t : Tm} (hfit : Tm.All (fun x => nodeFit x = true) t) (A : Option Addr) (cap : Nat) (w : World) (hD : DoorOk w) (hm : TN ≤ maxLen) (hTab : Tab w TA TN TC T) (hT : TmsAt w.heap.size w A t.args) :
    Calls Tryz.prog 3 #[tmV t A cap, .slice TA TN TC, o.v] w fun e w' => e = .returned (.bool true) ∧ Below w.heap.size w w' := by
  have HX := Lib.hid (TOp.start w t A cap t.args.length o 24 27 rfl)
  have H1 := Lib.hid (fun W (h : TOp w W t A cap o) => w_tokens (o := o) (TA := TA) (TN := TN) (TC := TC) hfit A cap W (hD.below h.bel) hm (hTab.below h.bel) ((hT.keep h.bel).mono h.bel.size))
  have H2 := Lib.hid (fun W (h : TOp w W t A cap o) => r_tokens (o := o) (TA := TA) (TN := TN) (TC := TC) hfit A cap W hm (hTab.below h.bel) ((hT.keep h.bel).mono h.bel.size))
  have H3 := Lib.hid (fun W (h : TOp w W t A cap o) => w_text (o := o) (TA := TA) (TN := TN) (TC := TC) hfit A cap W (hD.below h.bel) hm (hTab.below h.bel) ((hT.keep h.bel).mono h.bel.size))
  have H4 := Lib.hid (fun W (h : TOp w W t A cap o) => r_text (o := o) (TA := TA) (TN := TN) (TC := TC) hfit A cap W hm (hTab.below h.bel) ((hT.keep h.bel).mono h.bel.size))
  have HE := Lib.hid (fun W (h : Below w.heap.size w W) => carry (w0 := w) h (law_example W (hD.below h)))
  have hl := (tok_small (o := o) (T := T) hfit).2
  clear hT hTab hD hfit
  unfold tmV WO.v at *
  generalize hLN : t.args.length = LN at *
  have HL := Lib.hid hLN
  clear hLN
  generalize wtokR o T t = r at *
  generalize txtR o T t = s at *
  obtain ⟨l, ec⟩ := r
  obtain ⟨s, es⟩ := s
  have hl2 : l.length ≤ 100000 := Nat.le_trans hl (by decide)
  clear hl
  have HP := Lib.hid (fun (a b : Nat) (v v' : Value) (W : World) (h : OwnS 9 a W v l) (h' : OwnS 9 b W v' l) => law_piecesO h h' hl2)
  go_enter Tryz.func3, Tryz.ntmps3
  go_wp2_with fail
  refine (H1.out _ HX.out).mono ?_; rintro e w1 ⟨v1, rfl, hB1, hO1⟩
  have HO1 := Lib.hid hO1
  have hX1 := HX.out.call hB1
  clear hO1 hB1 H1 HX
  have c10 := hX1.tb.c0
  have c11 := hX1.tb.c1
  have c12 := hX1.tb.c2
  have c13 := hX1.tb.c3
  rw [HL.out] at c13
  have o10 := hX1.o0
  have o11 := hX1.o1
  have o12 := hX1.o2
  go_wp2_with fail
  refine (H2.out _ hX1).mono ?_; rintro e w2 ⟨v2, rfl, hB2, hO2⟩
  have HO1 := Lib.hid (HO1.out.below hB2)
  have HO2 := Lib.hid hO2
  have hX2 := hX1.call hB2
  clear c10 c11 c12 c13 o10 o11 o12 hO2 hB2 H2 hX1
  have c20 := hX2.tb.c0
  have c21 := hX2.tb.c1
  have c22 := hX2.tb.c2
  have c23 := hX2.tb.c3
  rw [HL.out] at c23
  have o20 := hX2.o0
  have o21 := hX2.o1
  have o22 := hX2.o2
  go_wp2_with fail
  refine (H3.out _ hX2).mono ?_; rintro e w3 ⟨rfl, hB3⟩
  have HO1 := Lib.hid (HO1.out.below hB3)
  have HO2 := Lib.hid (HO2.out.below hB3)
  have hX3 := hX2.call hB3
  clear c20 c21 c22 c23 o20 o21 o22 hB3 H3 hX2
  have c30 := hX3.tb.c0
  have c31 := hX3.tb.c1
  have c32 := hX3.tb.c2
  have c33 := hX3.tb.c3
  rw [HL.out] at c33
  have o30 := hX3.o0
  have o31 := hX3.o1
  have o32 := hX3.o2
  go_wp2_with fail
  refine (H4.out _ hX3).mono ?_; rintro e w4 ⟨rfl, hB4⟩
  have HO1 := Lib.hid (HO1.out.below hB4)
  have HO2 := Lib.hid (HO2.out.below hB4)
  have hX4 := hX3.call hB4
  clear c30 c31 c32 c33 o30 o31 o32 hB4 H4 hX3
  have hb4 := hX4.bel
  clear hX4
  go_wp2_with fail
  refine (HP.out _ _ _ _ _ HO1.out HO2.out).mono ?_; rintro e w5 ⟨rfl, hB5⟩
  have hb5 := hb4.trans (hB5.mono hb4.size)
  clear hB5 hb4 HO1 HO2
  go_wp2_with fail
  refine (HE.out _ hb5).mono ?_; rintro e w6 ⟨rfl, hB6⟩
  go_wp2_with fail
  go_ret
  exact ⟨rfl, hB6⟩
set_option maxHeartbeats 3200000 in
theorem law_writeClauses {T : List OpR} {TA : Option Addr} {TN TC : Nat} {t u : Tm} (ft : Tm.All (fun x => nodeFit x = true) t) (fu : Tm.All (fun x => nodeFit x = true) u) (A B : Option Addr) (c d : Nat) (w : World) (hD : DoorOk w) (hm : TN ≤ maxLen) (hTab : Tab w TA TN TC T) (hT : TmsAt w.heap.size w A t.args) (hU : TmsAt w.heap.size w B u.args) :
    Calls Tryz.prog 4 #[clV t u A B c d, .slice TA TN TC] w fun e w' => e = .returned (.bool true) ∧ Below w.heap.size w w' := by
  have HX := Lib.hid (CBx.start w t u A B c d t.args.length u.args.length 38 rfl rfl)
  have H1 := Lib.hid (fun W (h : CBx w W t u A B c d) => w_clause (T := T) (TC := TC) ft fu A B c d W (hD.below h.bel) hm (hTab.below h.bel) ((hT.keep h.bel).mono h.bel.size) ((hU.keep h.bel).mono h.bel.size))
  have H2 := Lib.hid (fun W (h : CBx w W t u A B c d) => r_clause (T := T) (TC := TC) ft fu A B c d W hm (hTab.below h.bel) ((hT.keep h.bel).mono h.bel.size) ((hU.keep h.bel).mono h.bel.size))
  have HE := Lib.hid (fun W (h : Below w.heap.size w W) => carry (w0 := w) h (law_example W (hD.below h)))
  clear hT hU hTab hD ft fu
  unfold clV at *
  generalize hLN : t.args.length = LN at *
  generalize hMN : u.args.length = MN at *
  have HL := Lib.hid hLN
  have HM := Lib.hid hMN
  clear hLN hMN
  generalize clR T t u = s at *
  obtain ⟨s, es⟩ := s
  go_enter Tryz.func4, Tryz.ntmps4
  go_wp2_with fail
  refine (H1.out _ HX.out).mono ?_; rintro e w1 ⟨rfl, hB1⟩
  have hX1 := HX.out.call hB1
  have c0 := hX1.c0
  have c1 := hX1.c1
  have c2 := hX1.c2
  have c3 := hX1.c3
  have c4 := hX1.c4
  have c5 := hX1.c5
  have c6 := hX1.c6
  have c7 := hX1.c7
  rw [HL.out] at c3
  rw [HM.out] at c7
  go_wp2_with fail
  refine (H2.out _ hX1).mono ?_; rintro e w2 ⟨rfl, hB2⟩
  have hb2 := (hX1.call hB2).bel
  clear c0 c1 c2 c3 c4 c5 c6 c7 hX1 hB2 hB1 HX H1 H2
  go_wp2_with fail
  refine (HE.out _ hb2).mono ?_; rintro e w6 ⟨rfl, hB6⟩
  go_wp2_with fail
  go_ret
  exact ⟨rfl, hB6⟩
end Go.Proofs.YtgapnafkelokaaaGreatDoor
namespace Go.Proofs.YtgapnafkelokaaaGreatDoor
set_option maxRecDepth 100000
open Go.ChangeShapes Go.WideShapes Go.ChangeAt Go.RowKit Hb
theorem tm_cells4 : Tryz.prog.cellsOf 24 = 4 := by kernel_rfl
theorem i64_cells4 : Tryz.prog.cellsOf 2 = 1 := by kernel_rfl
theorem tms_cells4 : Tryz.prog.cellsOf 22 = 1 := by kernel_rfl
/-- The cells of a term. -/
def tmC (t : Tm) (A : Option Addr) (cap : Nat) : List Value := [.int .i64 t.kind, .int .i64 t.num, .string t.name, .slice A t.args.length cap]
theorem spot_none {W : World} {a : Addr} {v : Value} (h : W.cell? a = some v) : a = ⟨a.block, a.off, none⟩ := by
  have hs : a.spot = none := by
    unfold World.cell? at h
    split at h
    · split at h
      · cases h
      · rename_i hh; simpa using hh
    · cases h
  obtain ⟨x, y, z⟩ := a
  exact congrArg (Addr.mk x y) hs
section
variable {H : Type} {enc : TypeId × Value → H} {W : World} {held : Bool} {sp : Nat → Bool}
/-- A row of terms, given how a term is opened. -/
theorem tms_trod {base : Nat} (fuel : Nat) (ih : ∀ m, m < fuel → ∀ (cs : List Value) x, DataW.trod enc Tryz.prog W base sp held m 24 cs = some x → ∃ t A cap, cs = tmC t A cap ∧ TmsAt W.heap.size W A t.args ∧ Tm.All (fun x => nodeFit x = true) t)
    {cs : List Value} {x : DataW H × List MemPlace} (h : DataW.trod enc Tryz.prog W base sp held fuel 22 cs = some x) : ∃ A n cap l, cs = [.slice A n cap] ∧ n = l.length ∧ n ≤ maxLen ∧ TmsAt W.heap.size W A l ∧ (n = 0 → (Value.slice A n cap = .slice none 0 0 ∨ ∃ ad, A = some ad)) ∧ ∀ t ∈ l, Tm.All (fun x => nodeFit x = true) t := by
  rcases DataW.trod_slice Tryz.underlying22 h with ⟨hcs, _⟩ | ⟨a, len, cap, elems, rest, n, hfu, hcs, _, _, hl, hm, hlen, hel, _, _⟩
  · exact ⟨none, 0, 0, [], hcs, rfl, by decide, TmsK.nil, fun _ => .inl rfl, fun t ht => by cases ht⟩
  · have key : ∀ i, i < len → ∃ r : Tm × Option Addr × Nat, (W.cell? (a.add (i * 4)) = some (.int .i64 r.1.kind) ∧ W.cell? ((a.add (i * 4)).add 1) = some (.int .i64 r.1.num) ∧ W.cell? ((a.add (i * 4)).add 2) = some (.string r.1.name) ∧ W.cell? ((a.add (i * 4)).add 3) = some (.slice r.2.1 r.1.args.length r.2.2)) ∧ TmsAt W.heap.size W r.2.1 r.1.args ∧ Tm.All (fun x => nodeFit x = true) r.1 := fun i hi => by
      have h1 := hel i hi
      rw [List.getElem?_eq_getElem (by omega), Option.bind_eq_some_iff] at h1
      obtain ⟨cs', h1, h2⟩ := h1
      rw [tm_cells4] at h1
      obtain ⟨_, hlen4, hget⟩ := World.cells?_some h1
      obtain ⟨t, A, c, rfl, ht, hf⟩ := ih n (by omega) cs' _ h2
      have q0 := hget 0 (by omega)
      have q1 := hget 1 (by omega)
      have q2 := hget 2 (by omega)
      have q3 := hget 3 (by omega)
      exact ⟨(t, A, c), ⟨by simpa [Addr.add, tmC] using q0, by simpa [tmC] using q1, by simpa [tmC] using q2, by simpa [tmC] using q3⟩, ht, hf⟩
    haveI : Inhabited (Tm × Option Addr × Nat) := ⟨(tm0, none, 0)⟩
    obtain ⟨F, hF⟩ := Go.Deep.choose_lt key
    refine ⟨some a, len, cap, (List.range len).map fun i => (F i).1, hcs, by simp, by omega, ?_, fun _ => .inr ⟨a, rfl⟩, fun t ht => ?_⟩
    · refine .mk _ _ (fun j => (F j).2.1) (fun j => (F j).2.2) (by simp; omega) (fun j hj => ?_) (fun j hj => ?_)
      · have hj' : j < len := by simpa using hj
        have ha : a = ⟨a.block, a.off, none⟩ := by
          have h0 := (hF 0 (by omega)).1.1
          have : a.add (0 * 4) = a := by simp [Addr.add]
          rw [this] at h0
          exact spot_none h0
        obtain ⟨⟨c0, c1, c2, c3⟩, _⟩ := hF j hj'
        have e0 : a.add (j * 4) = ⟨a.block, a.off + j * 4, none⟩ := by
          unfold Addr.add
          split
          · rename_i h0; rw [h0, Nat.add_zero]; exact ha
          · rfl
        have e1 : (a.add (j * 4)).add 1 = ⟨a.block, a.off + j * 4 + 1, none⟩ := by rw [e0]; rfl
        have e2 : (a.add (j * 4)).add 2 = ⟨a.block, a.off + j * 4 + 2, none⟩ := by rw [e0]; rfl
        have e3 : (a.add (j * 4)).add 3 = ⟨a.block, a.off + j * 4 + 3, none⟩ := by rw [e0]; rfl
        rw [e3] at c3
        rw [e2] at c2
        rw [e1] at c1
        rw [e0] at c0
        refine ⟨a.block, a.off, by rw [← ha], World.block_lt_of_cell? W ⟨a.block, a.off + j * 4, none⟩ c0, ?_, ?_, ?_, ?_⟩
        · simpa using c0
        · simpa using c1
        · simpa using c2
        · simpa using c3
      · have hj' : j < len := by simpa using hj
        have := (hF j hj').2.1
        unfold TmsAt at this
        simpa using this
    · rw [List.mem_map] at ht
      obtain ⟨j, hj, rfl⟩ := ht
      exact (hF j (List.mem_range.1 hj)).2.2
theorem term_trod {base : Nat} : ∀ (fuel : Nat) (cs : List Value) x, DataW.trod enc Tryz.prog W base sp held fuel 24 cs = some x → ∃ t A cap, cs = tmC t A cap ∧ TmsAt W.heap.size W A t.args ∧ Tm.All (fun x => nodeFit x = true) t := by
  intro fuel
  induction fuel using Nat.strongRecOn with
  | ind fuel ih =>
    intro cs x h
    obtain ⟨xs, n, hfu, _, hl, hlen, hf⟩ := DataW.trod_struct Tryz.underlying24 h
    rw [tm_cells4] at hl
    match cs, hl, xs, hlen with
    | [c0, c1, c2, c3], _, [y0, y1, y2, y3], _ =>
      have g0 := hf 0 _ rfl
      have g1 := hf 1 _ rfl
      have g2 := hf 2 _ rfl
      have g3 := hf 3 _ rfl
      obtain ⟨n0, e0, _, _⟩ := DataW.trod_int Tryz.underlying3 g0
      obtain ⟨n1, e1, _, z1⟩ := DataW.trod_int Tryz.underlying2 g1
      obtain ⟨s2, e2, _, z2⟩ := DataW.trod_string Tryz.underlying9 g2
      obtain ⟨A, len, cap, l, e3, hll, _, hT, _, hfl⟩ := tms_trod n (fun m hm => ih m (by omega)) g3
      have u0 : [c0] = [Value.int IntKind.i64 n0] := by rw [← e0]; show _ = List.take (Tryz.prog.cellsOf 3) _; rw [int_cells3]; rfl
      have u1 : [c1] = [Value.int IntKind.i64 n1] := by rw [← e1]; show _ = List.take (Tryz.prog.cellsOf 2) _; rw [i64_cells4]; rfl
      have u2 : [c2] = [Value.string s2] := by rw [← e2]; show _ = List.take (Tryz.prog.cellsOf 9) _; rw [str_cells3]; rfl
      have u3 : [c3] = [Value.slice A len cap] := by rw [← e3]; show _ = List.take (Tryz.prog.cellsOf 22) _; rw [tms_cells4]; rfl
      injection u0 with u0 _
      injection u1 with u1 _
      injection u2 with u2 _
      injection u3 with u3 _
      subst u0 u1 u2 u3 hll
      refine ⟨.mk n0 n1 s2 l, A, cap, rfl, hT, .mk _ ?_ hfl⟩
      exact (nodeFit_iff _).2 (wf_range z1)
end
theorem open_term {H : Type} {enc : TypeId × Value → H} {W : World} {r : Reach} {b0 : Nat} {v : Value} {d : DataW H} {ps : List MemPlace} (hval : Value.okWide Tryz.prog W r b0 24 v)
    (h : DataW.Trod enc Tryz.prog W 0 (fun _ => true) true 24 v d ps) : ∃ t A cap, v = tmV t A cap ∧ TmsAt W.heap.size W A t.args ∧ Tm.All (fun x => nodeFit x = true) t := by
  obtain ⟨cs, rfl, _⟩ := okWide_struct Tryz.underlying24 hval
  obtain ⟨fuel, hf⟩ := h
  obtain ⟨t, A, cap, ho, hT, hfit⟩ := term_trod _ _ _ hf
  refine ⟨t, A, cap, ?_, hT, hfit⟩
  have : cs = (tmC t A cap).toArray := by
    apply Array.ext'
    simpa [Value.cells] using ho
  rw [this]
  rfl
theorem open_terms {H : Type} {enc : TypeId × Value → H} {W : World} {r : Reach} {b0 : Nat} {v : Value} {d : DataW H} {ps : List MemPlace} (hval : Value.okWide Tryz.prog W r b0 22 v)
    (h : DataW.Trod enc Tryz.prog W 0 (fun _ => true) true 22 v d ps) : ∃ A n cap l, v = .slice A n cap ∧ n = l.length ∧ n ≤ maxLen ∧ TmsAt W.heap.size W A l ∧ (n = 0 → (Value.slice A n cap = .slice none 0 0 ∨ ∃ ad, A = some ad)) ∧ ∀ t ∈ l, Tm.All (fun x => nodeFit x = true) t := by
  obtain ⟨A', n', cap', rfl⟩ := okWide_slice Tryz.underlying22 hval
  obtain ⟨fuel, hf⟩ := h
  obtain ⟨A, n, cap, l, hcs, rest⟩ := tms_trod fuel (fun m _ => term_trod m) hf
  have : A' = A ∧ n' = n ∧ cap' = cap := by simpa [Value.cells] using hcs
  obtain ⟨rfl, rfl, rfl⟩ := this
  exact ⟨A', n', cap', l, rfl, rest⟩
theorem cl_cells8 : Tryz.prog.cellsOf 38 = 8 := by kernel_rfl
theorem open_clause {H : Type} {enc : TypeId × Value → H} {W : World} {r : Reach} {b0 : Nat} {v : Value} {d : DataW H} {ps : List MemPlace} (hval : Value.okWide Tryz.prog W r b0 38 v)
    (h : DataW.Trod enc Tryz.prog W 0 (fun _ => true) true 38 v d ps) : ∃ t u A B c d, v = clV t u A B c d ∧ TmsAt W.heap.size W A t.args ∧ TmsAt W.heap.size W B u.args ∧ Tm.All (fun x => nodeFit x = true) t ∧ Tm.All (fun x => nodeFit x = true) u := by
  obtain ⟨cs, rfl, _⟩ := okWide_struct Tryz.underlying38 hval
  obtain ⟨fuel, hf⟩ := h
  obtain ⟨y0, y1, n, _, hl, g0, g1⟩ := Go.ChangeShapes.trod_struct2 Tryz.underlying38 hf
  obtain ⟨t, A, c, h0, hT0, hf0⟩ := term_trod _ _ _ g0
  obtain ⟨u, B, d', h1, hT1, hf1⟩ := term_trod _ _ _ g1
  refine ⟨t, u, A, B, c, d', ?_, hT0, hT1, hf0, hf1⟩
  rw [cl_cells8] at hl
  have e0 : ((Value.agg cs).cells.toList).take 4 = tmC t A c := by
    rw [← h0]; show _ = List.take (Tryz.prog.cellsOf 24) _; rw [tm_cells4]; rfl
  have e1 : ((Value.agg cs).cells.toList).drop 4 = tmC u B d' := by
    rw [← h1]; show _ = List.take (Tryz.prog.cellsOf 24) _; rw [tm_cells4]
    show _ = List.take 4 (List.drop 4 _)
    rw [List.take_of_length_le]
    rw [List.length_drop]; omega
  have : cs = (tmC t A c ++ tmC u B d').toArray := by
    apply Array.ext'
    have := List.take_append_drop 4 (Value.agg cs).cells.toList
    rw [e0, e1] at this
    simpa [Value.cells] using this.symm
  rw [this]
  rfl
theorem opts_cells3 : Tryz.prog.cellsOf 27 = 3 := by kernel_rfl
theorem bool_cells3 : Tryz.prog.cellsOf 4 = 1 := by kernel_rfl
theorem open_opts {H : Type} {enc : TypeId × Value → H} {W : World} {r : Reach} {b0 : Nat} {v : Value} {d : DataW H} {ps : List MemPlace} (hval : Value.okWide Tryz.prog W r b0 27 v)
    (h : DataW.Trod enc Tryz.prog W 0 (fun _ => true) true 27 v d ps) : ∃ o : WO, v = o.v := by
  obtain ⟨cs, rfl, _⟩ := okWide_struct Tryz.underlying27 hval
  obtain ⟨fuel, hf⟩ := h
  have key : ∀ (l : List Value) x, DataW.trod enc Tryz.prog W 0 (fun _ => true) true fuel 27 l = some x → ∃ o : WO, l = [.bool o.q, .bool o.ig, .bool o.nu] := fun l x h => by
    obtain ⟨y0, y1, y2, k, _, hl, g0, g1, g2⟩ := Go.Deep.trod_struct3 Tryz.underlying27 h
    rw [opts_cells3] at hl
    match l, hl with
    | [c0, c1, c2], _ =>
      obtain ⟨b0, e0, _⟩ := DataW.trod_bool Tryz.underlying4 g0
      obtain ⟨b1, e1, _⟩ := DataW.trod_bool Tryz.underlying4 g1
      obtain ⟨b2, e2, _⟩ := DataW.trod_bool Tryz.underlying4 g2
      have u0 : [c0] = [Value.bool b0] := by rw [← e0]; show _ = List.take (Tryz.prog.cellsOf 4) _; rw [bool_cells3]; rfl
      have u1 : [c1] = [Value.bool b1] := by rw [← e1]; show _ = List.take (Tryz.prog.cellsOf 4) _; rw [bool_cells3]; rfl
      have u2 : [c2] = [Value.bool b2] := by rw [← e2]; show _ = List.take (Tryz.prog.cellsOf 4) _; rw [bool_cells3]; rfl
      injection u0 with u0 _
      injection u1 with u1 _
      injection u2 with u2 _
      subst u0 u1 u2
      exact ⟨⟨b0, b1, b2⟩, rfl⟩
  obtain ⟨o, ho⟩ := key _ _ hf
  refine ⟨o, ?_⟩
  have : cs = #[.bool o.q, .bool o.ig, .bool o.nu] := by
    apply Array.ext'
    simpa [Value.cells] using ho
  rw [this]
  rfl
end Go.Proofs.YtgapnafkelokaaaGreatDoor
