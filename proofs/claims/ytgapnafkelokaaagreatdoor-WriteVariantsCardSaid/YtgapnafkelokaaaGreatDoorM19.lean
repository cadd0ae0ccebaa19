/- The reference's writer: right. -/
import Derived.Test.YtgapnafkelokaaaGreatDoorM18
namespace Hb
open Go Go.RowKit
/-- A first character as the reference compares it. -/
theorem head45 (s : ByteArray) : ((s.extract 0 (min 1 s.size)).toList == [45]) = (decide (0 < s.size) && bAt s.data.toList 0 == 45) := by
  rw [tl_data, Lib.extract_data]
  rcases s with ⟨⟨l⟩⟩
  cases l with
  | nil => rfl
  | cons c l =>
    have h1 : min 1 (⟨⟨c :: l⟩⟩ : ByteArray).size = 1 := by
      show min 1 (l.length + 1) = 1; omega
    rw [h1]
    have h2 : decide (0 < (⟨⟨c :: l⟩⟩ : ByteArray).size) = true := by simp [ByteArray.size]
    rw [h2]
    show ([c] == [45]) = (true && ((c.toNat : Int) == 45))
    rw [Bool.true_and]
    by_cases hc : c = 45
    · subst hc; rfl
    · have : ¬ ((c.toNat : Int) = 45) := fun h => hc (UInt8.toNat_inj.1 (by show c.toNat = 45; omega))
      have e1 : ((c.toNat : Int) == 45) = false := by simpa using this
      rw [e1]
      simp [hc]
def h45 (s : ByteArray) : Bool := (s.extract 0 (min 1 s.size)).toList == [45]
theorem neg_h45 (T : List OpR) (s : ByteArray) : negW T s = (h45 s && (digW s 1 && (isAny T (s1 45) && !has T (s1 45) 1))) := by
  have hI : isAny T (s1 45) = ((has T (s1 45) 1 || has T (s1 45) 2) || has T (s1 45) 3) := (is_eq T (s1 45)).symm
  unfold negW
  rw [h45, head45, hI]
  cases has T (s1 45) 1 <;> cases has T (s1 45) 2 <;> cases has T (s1 45) 3 <;> simp
end Hb
namespace Go.Proofs.YtgapnafkelokaaaGreatDoor
open Go.RowKit Hb
set_option maxRecDepth 100000
set_option maxHeartbeats 6400000 in
theorem r_right {o : WO} {T : List OpR} {TA : Option Addr} {TN TC : Nat} {w0 : World} {t : Tm} (few : TN ≤ 400) (hTab : Tab w0 TA TN TC T) (hok : Tm.All Okf t) (hn : t.nodes ≤ 5000) (hI : TOK o T TA TN TC w0 t) (op : OpR) (hop : 1 ≤ op.prec ∧ op.prec ≤ 1200) (A : Option Addr) (cap : Nat) (w : World) (hB : Below w0.heap.size w0 w) (hT : TmsAt w0.heap.size w0 A t.args) :
    Calls Tryz.prog 137 #[rwV o TA TN TC, opV op, tmV t A cap] w fun e w' => ∃ v', e = .returned v' ∧ Below w.heap.size w w' ∧ OwnS 9 w.heap.size w' v' ((if spcW op.name (argPre o T (str o T) t op) = true then [s1 32] else []) ++ argPre o T (str o T) t op) := by
  obtain ⟨LN, HL⟩ : ∃ LN, Hid (LN = t.args.length) := ⟨_, Lib.hid rfl⟩
  have HX := Lib.hid (Rl3.start w o TA TN TC op t A cap LN 70 80 24 HL.out)
  have HBX := HX.out.bel
  have HSD := Lib.hid (fun W => ref_sides op W (by omega))
  have HB0 := Lib.hid (fun W (h : Below w.heap.size w W) => hB.trans (h.mono hB.size))
  have HTR := Lib.hid (fun W (h : Below w.heap.size w W) => hI (sideR op) true (sideR_nn op) A cap W (HB0.out W h) hT)
  have HF := Lib.hid (fun W (h : Below w.heap.size w W) => r_find (hTab.below (HB0.out W h)) few 1 (s1 45))
  have HISA : Hid (∀ W (h : Below w.heap.size w W), Calls Tryz.prog 24 #[.slice TA TN TC, .string ⟨#[45]⟩] W fun e w' => e = .returned (.bool (isAny T (s1 45))) ∧ Below W.heap.size W w') := Lib.hid (fun W (h : Below w.heap.size w W) => ref_isO TA TN TC T (s1 45) W few (hTab.below (HB0.out W h)))
  have HPL := Lib.hid (pcs_len o T (Okf.k4 hok) (sideR op) true)
  have hpl : (pcs o T t (sideR op) true).length ≤ 50000 := by have := HPL.out; omega
  have hpp := pcs_pos o T (Okf.k4 hok) (sideR op) true
  have hps := (pcs_small o T hok (sideR op) true).hd
  have HNEG := Lib.hid (neg_h45 T)
  have HARG : Hid (argPre o T (str o T) t op = brk (pcs o T t (sideR op) true) (negW T (hd (pcs o T t (sideR op) true)))) := Lib.hid rfl
  have HSPC : Hid (∀ p : List ByteArray, spcW op.name p = ((hd p).toList == [40] || (op.name.toList == [45] && digW (hd p) 0))) := Lib.hid (fun _ => rfl)
  clear hB hT hI hok few hTab HPL HB0
  rw [HARG.out]
  clear HARG
  unfold tmV rwV opV at *
  rw [← HL.out] at HTR ⊢
  generalize pcs o T t = ps at *
  generalize gets T (s1 45) 1 = fp at *
  generalize has T (s1 45) 1 = hp1 at *
  generalize isAny T (s1 45) = isA at *
  generalize sideL op = sl at *
  generalize sideR op = sr at *
  unfold s1 at HF
  obtain ⟨P, HPP⟩ : ∃ P, Hid (P = ps sr true) := ⟨_, Lib.hid rfl⟩
  have HTR2 := Lib.hid HTR.out
  rw [← HPP.out] at HTR2 hpl hpp hps ⊢
  clear HTR HPP
  obtain ⟨s, HS⟩ : ∃ s, Hid (s = hd P) := ⟨_, Lib.hid rfl⟩
  rw [← HS.out] at hps ⊢
  rw [HNEG.out s]
  have HDG : Hid (∀ W, Calls Tryz.prog 176 #[.string s, .int .i64 1] W fun e w' => e = .returned (.bool (digW s 1)) ∧ W = w') := Lib.hid (fun W => r_digit s 1 W (by unfold maxLen; omega) (by decide))
  obtain ⟨dg, HD⟩ : ∃ dg, Hid (dg = digW s 1) := ⟨_, Lib.hid rfl⟩
  obtain ⟨hh, HH⟩ : ∃ hh, Hid (hh = h45 s) := ⟨_, Lib.hid rfl⟩
  rw [← HD.out] at HDG ⊢
  rw [← HH.out]
  obtain ⟨RES, HRES⟩ : ∃ RES, Hid (RES = (if spcW op.name (brk P (hh && (dg && (isA && !hp1)))) = true then [s1 32] else []) ++ brk P (hh && (dg && (isA && !hp1)))) := ⟨_, Lib.hid rfl⟩
  rw [← HRES.out]
  go_enter Tryz.func137, Tryz.ntmps137
  go_wp2_with fail
  refine (HSD.out _).mono ?_; rintro e w1 ⟨rfl, hB1⟩
  have hX1 := Lib.hid (HX.out.call hB1)
  have hb1 := hX1.out.bel
  have hszw := hb1.size
  have x0 := hX1.out.wb.c0
  have x1 := hX1.out.wb.c1
  have x2 := hX1.out.wb.c2
  have x3 := hX1.out.wb.c3
  have y0 := hX1.out.tb.c0
  have y1 := hX1.out.tb.c1
  have y2 := hX1.out.tb.c2
  have y3 := hX1.out.tb.c3
  rw [← HL.out] at y3
  clear HX HSD
  go_wp2_with fail
  refine (HTR2.out _ hb1).mono ?_; rintro e w2 ⟨v2, rfl, hB2, hO2⟩
  obtain ⟨g, c2, rfl, hg0, _⟩ := own_hd hO2 hpp rfl
  rw [← HS.out] at hg0
  have hgl := (hO2.low (k := g) rfl).2
  have HO2 := Lib.hid hO2
  have hX2 := Lib.hid (hX1.out.call hB2)
  have hb2 := hX2.out.bel
  clear x0 x1 x2 x3 y0 y1 y2 y3 hO2 hX1 HTR2
  have x0 := hX2.out.wb.c0
  obtain ⟨PN, HPN⟩ : ∃ PN, Hid (PN = P.length) := ⟨_, Lib.hid rfl⟩
  rw [← HPN.out] at HO2 hpl hpp ⊢
  go_wp2_with fail
  refine (HF.out _ hb2).mono ?_; rintro e w3 ⟨rfl, hB3⟩
  have hB3a := hB3.alloc hB3.size (.cells #[.string fp.name, .int .i64 fp.typ, .int .i64 fp.prec] 80)
  have hXR := Lib.hid (hX2.out.call hB3a)
  have hgR := (hB3a.cell (p := ⟨g, 0, none⟩) hgl).trans hg0
  have hglR := Nat.lt_of_lt_of_le hgl hB3a.size
  have HOR := Lib.hid (HO2.out.below hB3a)
  have hbR := hXR.out.bel
  clear x0 hX2 hB3 HF HO2 hg0 hgl
  go_upto_region 4 with fail
  generalize w3.alloc (.cells #[.string fp.name, .int .i64 fp.typ, .int .i64 fp.prec] 80) = wR at *
  have hxR := hXR.out.wb.c0
  have hlR := hXR.out.wb.lt
  have HK : Hid (∀ X, Below wR.heap.size wR X → X.cell? ⟨w.heap.size, 0, none⟩ = some (.slice TA TN TC) ∧ X.cell? ⟨g, 0, none⟩ = some (.string s) ∧ Below wR.heap.size wR X) := Lib.hid (fun X h => ⟨(h.cell (p := ⟨_, 0, none⟩) hlR).trans hxR, (h.cell (p := ⟨_, 0, none⟩) hglR).trans hgR, h⟩)
  have HSB : Hid (∀ X, (X.cell? ⟨w.heap.size, 0, none⟩ = some (.slice TA TN TC) ∧ X.cell? ⟨g, 0, none⟩ = some (.string s) ∧ Below wR.heap.size wR X) → Below wR.heap.size wR X) := Lib.hid (fun X h => h.2.2)
  have HIS : Hid (∀ X, Below wR.heap.size wR X → Calls Tryz.prog 24 #[.slice TA TN TC, .string ⟨#[45]⟩] X fun e w' => e = .returned (.bool isA) ∧ Below X.heap.size X w') := Lib.hid (fun X h => HISA.out X (hbR.trans (h.mono hbR.size)))
  have hi0 : (0 : Int) < (PN : Int) := by omega
  clear HISA
  have hmin0 : (0 : Int) ≤ min 1 (s.size : Int) := by omega
  have hmin1 : min 1 (s.size : Int) ≤ (s.size : Int) := by omega
  have hminN : (min 1 (s.size : Int)).toNat = min 1 s.size := by omega
  cases hh
  · have hb45 : ((s.extract 0 (min 1 s.size)).toList == [45]) = false := HH.out.symm
    have hb45' : ¬ (s.extract 0 (min 1 s.size)).toList = [45] := by simpa using hb45
    refine wp_region_held_drew (S := (fun X => X.cell? ⟨w.heap.size, 0, none⟩ = some (.slice TA TN TC) ∧ X.cell? ⟨g, 0, none⟩ = some (.string s) ∧ Below wR.heap.size wR X)) (by kernel_rfl) (HK.out _ (Below.refl _ _).drew) (fun hHeld => ?_)
    refine wpAnyH_take (i := 0) (oi := { dst := some 27, op := _, type := _, pos := _, after := _, guard := _ }) (v := ?j0x1) rfl ?j1x1 ?j2x1 ?j3x1 ?j4x1 (Or.inl ⟨?j5x1, ?j6x1⟩) (by assumption) ?j7x1
    case j1x1 => kernel_rfl
    case j2x1 => kernel_rfl
    case j3x1 => kernel_rfl
    case j4x1 => exact fun _ _ _ h => h
    case j5x1 => kernel_rfl
    case j6x1 => intro X hSw; (try dsimp only at hSw); go_simp; all_goals (with_reducible rfl)
    simp only [Act.put, List.setIfInBounds_toArray, List.set_cons_zero, List.set_cons_succ]
    refine wpAnyH_take (i := 1) (oi := { dst := some 28, op := _, type := _, pos := _, after := _, guard := _ }) (v := ?j0x2) rfl ?j1x2 ?j2x2 ?j3x2 ?j4x2 (Or.inl ⟨?j5x2, ?j6x2⟩) (by assumption) ?j7x2
    case j1x2 => kernel_rfl
    case j2x2 => kernel_rfl
    case j3x2 => kernel_rfl
    case j4x2 => exact fun _ _ _ h => h
    case j5x2 => kernel_rfl
    case j6x2 => intro X hSw; (try dsimp only at hSw); go_simp; all_goals (with_reducible rfl)
    simp only [Act.put, List.setIfInBounds_toArray, List.set_cons_zero, List.set_cons_succ]
    refine wpAnyH_take (i := 2) (oi := { dst := some 29, op := _, type := _, pos := _, after := _, guard := _ }) (v := ?j0x3) rfl ?j1x3 ?j2x3 ?j3x3 ?j4x3 (Or.inl ⟨?j5x3, ?j6x3⟩) (by assumption) ?j7x3
    case j1x3 => kernel_rfl
    case j2x3 => kernel_rfl
    case j3x3 => kernel_rfl
    case j4x3 => exact fun _ _ _ h => h
    case j5x3 => kernel_rfl
    case j6x3 => intro X hSw; (try dsimp only at hSw); go_simp; all_goals (with_reducible rfl)
    simp only [Act.put, List.setIfInBounds_toArray, List.set_cons_zero, List.set_cons_succ]
    refine wpAnyH_take (i := 3) (oi := { dst := some 30, op := _, type := _, pos := _, after := _, guard := _ }) (v := ?j0x4) rfl ?j1x4 ?j2x4 ?j3x4 ?j4x4 (Or.inl ⟨?j5x4, ?j6x4⟩) (by assumption) ?j7x4
    case j1x4 => kernel_rfl
    case j2x4 => kernel_rfl
    case j3x4 => kernel_rfl
    case j4x4 => exact fun _ _ _ h => h
    case j5x4 => kernel_rfl
    case j6x4 => intro X hSw; (try dsimp only at hSw); go_simp; all_goals (with_reducible rfl)
    simp only [Act.put, List.setIfInBounds_toArray, List.set_cons_zero, List.set_cons_succ]
    refine wpAnyH_take (i := 4) (oi := { dst := some 31, op := _, type := _, pos := _, after := _, guard := _ }) (v := ?j0x5) rfl ?j1x5 ?j2x5 ?j3x5 ?j4x5 (Or.inl ⟨?j5x5, ?j6x5⟩) (by assumption) ?j7x5
    case j1x5 => kernel_rfl
    case j2x5 => kernel_rfl
    case j3x5 => kernel_rfl
    case j4x5 => exact fun _ _ _ h => h
    case j5x5 => kernel_rfl
    case j6x5 => intro X hSw; (try dsimp only at hSw); go_simp; all_goals (with_reducible rfl)
    simp only [Act.put, List.setIfInBounds_toArray, List.set_cons_zero, List.set_cons_succ]
    refine wpAnyH_take (i := 5) (oi := { dst := some 32, op := _, type := _, pos := _, after := _, guard := _ }) (v := ?j0x6) rfl ?j1x6 ?j2x6 ?j3x6 ?j4x6 (Or.inl ⟨?j5x6, ?j6x6⟩) (by assumption) ?j7x6
    case j1x6 => kernel_rfl
    case j2x6 => kernel_rfl
    case j3x6 => kernel_rfl
    case j4x6 => exact fun _ _ _ h => h
    case j5x6 => kernel_rfl
    case j6x6 => intro X hSw; (try dsimp only at hSw); go_simp; all_goals (with_reducible rfl)
    simp only [Act.put, List.setIfInBounds_toArray, List.set_cons_zero, List.set_cons_succ]
    refine wpAnyH_take (i := 6) (oi := { dst := some 33, op := _, type := _, pos := _, after := _, guard := _ }) (v := ?j0x7) rfl ?j1x7 ?j2x7 ?j3x7 ?j4x7 (Or.inl ⟨?j5x7, ?j6x7⟩) (by assumption) ?j7x7
    case j1x7 => kernel_rfl
    case j2x7 => kernel_rfl
    case j3x7 => kernel_rfl
    case j4x7 => exact fun _ _ _ h => h
    case j5x7 => kernel_rfl
    case j6x7 => intro X hSw; (try dsimp only at hSw); go_simp; all_goals (with_reducible rfl)
    simp only [Act.put, List.setIfInBounds_toArray, List.set_cons_zero, List.set_cons_succ]
    refine wpAnyH_take (i := 7) (oi := { dst := some 34, op := _, type := _, pos := _, after := _, guard := _ }) (v := ?j0x8) rfl ?j1x8 ?j2x8 ?j3x8 ?j4x8 (Or.inl ⟨?j5x8, ?j6x8⟩) (by assumption) ?j7x8
    case j1x8 => kernel_rfl
    case j2x8 => kernel_rfl
    case j3x8 => kernel_rfl
    case j4x8 => exact fun _ _ _ h => h
    case j5x8 => kernel_rfl
    case j6x8 => intro X hSw; (try dsimp only at hSw); go_simp; all_goals (with_reducible rfl)
    simp only [Act.put, List.setIfInBounds_toArray, List.set_cons_zero, List.set_cons_succ]
    refine wpAnyH_take (i := 8) (oi := { dst := some 35, op := _, type := _, pos := _, after := _, guard := _ }) (v := ?j0x9) rfl ?j1x9 ?j2x9 ?j3x9 ?j4x9 (Or.inl ⟨?j5x9, ?j6x9⟩) (by assumption) ?j7x9
    case j1x9 => kernel_rfl
    case j2x9 => kernel_rfl
    case j3x9 => kernel_rfl
    case j4x9 => exact fun _ _ _ h => h
    case j5x9 => kernel_rfl
    case j6x9 => intro X hSw; (try dsimp only at hSw); go_simp; all_goals (with_reducible rfl)
    simp only [Act.put, List.setIfInBounds_toArray, List.set_cons_zero, List.set_cons_succ]
    refine wpAnyH_take (i := 9) (oi := { dst := some 36, op := _, type := _, pos := _, after := _, guard := _ }) (v := ?j0x10) rfl ?j1x10 ?j2x10 ?j3x10 ?j4x10 (Or.inl ⟨?j5x10, ?j6x10⟩) (by assumption) ?j7x10
    case j1x10 => kernel_rfl
    case j2x10 => kernel_rfl
    case j3x10 => kernel_rfl
    case j4x10 => exact fun _ _ _ h => h
    case j5x10 => kernel_rfl
    case j6x10 => intro X hSw; (try dsimp only at hSw); go_simp; all_goals (with_reducible rfl)
    simp only [Act.put, List.setIfInBounds_toArray, List.set_cons_zero, List.set_cons_succ]
    refine wpAnyH_take (i := 10) (oi := { dst := some 37, op := _, type := _, pos := _, after := _, guard := _ }) (v := ?j0x11) rfl ?j1x11 ?j2x11 ?j3x11 ?j4x11 (Or.inl ⟨?j5x11, ?j6x11⟩) (by assumption) ?j7x11
    case j1x11 => kernel_rfl
    case j2x11 => kernel_rfl
    case j3x11 => kernel_rfl
    case j4x11 => exact fun _ _ _ h => h
    case j5x11 => kernel_rfl
    case j6x11 => intro X hSw; (try dsimp only at hSw); go_simp; all_goals (with_reducible rfl)
    simp only [Act.put, List.setIfInBounds_toArray, List.set_cons_zero, List.set_cons_succ]
    refine wpAnyH_take (i := 11) (oi := { dst := some 38, op := _, type := _, pos := _, after := _, guard := _ }) (v := undef) rfl ?j1x12 ?j2x12 ?j3x12 ?j4x12 (Or.inr ⟨?j5x12, rfl⟩) (by assumption) ?j7x12
    case j1x12 => kernel_rfl
    case j2x12 => kernel_rfl
    case j3x12 => kernel_rfl
    case j4x12 => exact fun _ _ _ h => h
    case j5x12 => kernel_rfl
    simp only [Act.put, List.setIfInBounds_toArray, List.set_cons_zero, List.set_cons_succ]
    refine wpAnyH_take (i := 12) (oi := { dst := some 39, op := _, type := _, pos := _, after := _, guard := _ }) (v := undef) rfl ?j1x13 ?j2x13 ?j3x13 ?j4x13 (Or.inr ⟨?j5x13, rfl⟩) (by assumption) ?j7x13
    case j1x13 => kernel_rfl
    case j2x13 => kernel_rfl
    case j3x13 => kernel_rfl
    case j4x13 => exact fun _ _ _ h => h
    case j5x13 => kernel_rfl
    simp only [Act.put, List.setIfInBounds_toArray, List.set_cons_zero, List.set_cons_succ]
    refine wpAnyH_take (i := 13) (oi := { dst := some 40, op := _, type := _, pos := _, after := _, guard := _ }) (v := undef) rfl ?j1x14 ?j2x14 ?j3x14 ?j4x14 (Or.inr ⟨?j5x14, rfl⟩) (by assumption) ?j7x14
    case j1x14 => kernel_rfl
    case j2x14 => kernel_rfl
    case j3x14 => kernel_rfl
    case j4x14 => exact fun _ _ _ h => h
    case j5x14 => kernel_rfl
    simp only [Act.put, List.setIfInBounds_toArray, List.set_cons_zero, List.set_cons_succ]
    refine wpAnyH_take (i := 14) (oi := { dst := some 41, op := _, type := _, pos := _, after := _, guard := _ }) (v := undef) rfl ?j1x15 ?j2x15 ?j3x15 ?j4x15 (Or.inr ⟨?j5x15, rfl⟩) (by assumption) ?j7x15
    case j1x15 => kernel_rfl
    case j2x15 => kernel_rfl
    case j3x15 => kernel_rfl
    case j4x15 => exact fun _ _ _ h => h
    case j5x15 => kernel_rfl
    simp only [Act.put, List.setIfInBounds_toArray, List.set_cons_zero, List.set_cons_succ]
    refine wpAnyH_take (i := 15) (oi := { dst := some 42, op := _, type := _, pos := _, after := _, guard := _ }) (v := ?j0x16) rfl ?j1x16 ?j2x16 ?j3x16 ?j4x16 (Or.inl ⟨?j5x16, ?j6x16⟩) (by assumption) ?j7x16
    case j1x16 => kernel_rfl
    case j2x16 => kernel_rfl
    case j3x16 => kernel_rfl
    case j4x16 => exact fun _ _ _ h => h
    case j5x16 => kernel_rfl
    case j6x16 => intro X hSw; (try dsimp only at hSw); go_simp; all_goals (with_reducible rfl)
    simp only [Act.put, List.setIfInBounds_toArray, List.set_cons_zero, List.set_cons_succ]
    refine wpAnyH_take (i := 16) (oi := { dst := some 43, op := _, type := _, pos := _, after := _, guard := _ }) (v := ?j0x17) rfl ?j1x17 ?j2x17 ?j3x17 ?j4x17 (Or.inl ⟨?j5x17, ?j6x17⟩) (by assumption) ?j7x17
    case j1x17 => kernel_rfl
    case j2x17 => kernel_rfl
    case j3x17 => kernel_rfl
    case j4x17 => exact fun _ _ _ h => h
    case j5x17 => kernel_rfl
    case j6x17 => intro X hSw; (try dsimp only at hSw); go_simp; all_goals (with_reducible rfl)
    simp only [Act.put, List.setIfInBounds_toArray, List.set_cons_zero, List.set_cons_succ]
    refine wpAnyH_take (i := 17) (oi := { dst := some 44, op := _, type := _, pos := _, after := _, guard := _ }) (v := undef) rfl ?j1x18 ?j2x18 ?j3x18 ?j4x18 (Or.inr ⟨?j5x18, rfl⟩) (by assumption) ?j7x18
    case j1x18 => kernel_rfl
    case j2x18 => kernel_rfl
    case j3x18 => kernel_rfl
    case j4x18 => exact fun _ _ _ h => h
    case j5x18 => kernel_rfl
    simp only [Act.put, List.setIfInBounds_toArray, List.set_cons_zero, List.set_cons_succ]
    refine wpAnyH_take (i := 18) (oi := { dst := some 45, op := _, type := _, pos := _, after := _, guard := _ }) (v := undef) rfl ?j1x19 ?j2x19 ?j3x19 ?j4x19 (Or.inr ⟨?j5x19, rfl⟩) (by assumption) ?j7x19
    case j1x19 => kernel_rfl
    case j2x19 => kernel_rfl
    case j3x19 => kernel_rfl
    case j4x19 => exact fun _ _ _ h => h
    case j5x19 => kernel_rfl
    simp only [Act.put, List.setIfInBounds_toArray, List.set_cons_zero, List.set_cons_succ]
    refine wpAnyH_take (i := 19) (oi := { dst := some 46, op := _, type := _, pos := _, after := _, guard := _ }) (v := undef) rfl ?j1x20 ?j2x20 ?j3x20 ?j4x20 (Or.inr ⟨?j5x20, rfl⟩) (by assumption) ?j7x20
    case j1x20 => kernel_rfl
    case j2x20 => kernel_rfl
    case j3x20 => kernel_rfl
    case j4x20 => exact fun _ _ _ h => h
    case j5x20 => kernel_rfl
    simp only [Act.put, List.setIfInBounds_toArray, List.set_cons_zero, List.set_cons_succ]
    refine wpAnyH_take (i := 20) (oi := { dst := some 47, op := _, type := _, pos := _, after := _, guard := _ }) (v := ?j0x21) rfl ?j1x21 ?j2x21 ?j3x21 ?j4x21 (Or.inl ⟨?j5x21, ?j6x21⟩) (by assumption) ?j7x21
    case j1x21 => kernel_rfl
    case j2x21 => kernel_rfl
    case j3x21 => kernel_rfl
    case j4x21 => exact fun _ _ _ h => h
    case j5x21 => kernel_rfl
    case j6x21 => intro X hSw; (try dsimp only at hSw); go_simp; all_goals (with_reducible rfl)
    simp only [Act.put, List.setIfInBounds_toArray, List.set_cons_zero, List.set_cons_succ]
    refine wpAnyH_take (i := 21) (oi := { dst := some 48, op := _, type := _, pos := _, after := _, guard := _ }) (v := ?j0x22) rfl ?j1x22 ?j2x22 ?j3x22 ?j4x22 (Or.inl ⟨?j5x22, ?j6x22⟩) (by assumption) ?j7x22
    case j1x22 => kernel_rfl
    case j2x22 => kernel_rfl
    case j3x22 => kernel_rfl
    case j4x22 => exact fun _ _ _ h => h
    case j5x22 => kernel_rfl
    case j6x22 => intro X hSw; (try dsimp only at hSw); go_simp; all_goals (with_reducible rfl)
    simp only [Act.put, List.setIfInBounds_toArray, List.set_cons_zero, List.set_cons_succ]
    refine wpAnyH_take (i := 22) (oi := { dst := some 49, op := _, type := _, pos := _, after := _, guard := _ }) (v := undef) rfl ?j1x23 ?j2x23 ?j3x23 ?j4x23 (Or.inr ⟨?j5x23, rfl⟩) (by assumption) ?j7x23
    case j1x23 => kernel_rfl
    case j2x23 => kernel_rfl
    case j3x23 => kernel_rfl
    case j4x23 => exact fun _ _ _ h => h
    case j5x23 => kernel_rfl
    simp only [Act.put, List.setIfInBounds_toArray, List.set_cons_zero, List.set_cons_succ]
    refine wpAnyH_take (i := 23) (oi := { dst := some 50, op := _, type := _, pos := _, after := _, guard := _ }) (v := undef) rfl ?j1x24 ?j2x24 ?j3x24 ?j4x24 (Or.inr ⟨?j5x24, rfl⟩) (by assumption) ?j7x24
    case j1x24 => kernel_rfl
    case j2x24 => kernel_rfl
    case j3x24 => kernel_rfl
    case j4x24 => exact fun _ _ _ h => h
    case j5x24 => kernel_rfl
    simp only [Act.put, List.setIfInBounds_toArray, List.set_cons_zero, List.set_cons_succ]
    refine wpAnyH_take (i := 24) (oi := { dst := some 51, op := _, type := _, pos := _, after := _, guard := _ }) (v := ?j0x25) rfl ?j1x25 ?j2x25 ?j3x25 ?j4x25 (Or.inl ⟨?j5x25, ?j6x25⟩) (by assumption) ?j7x25
    case j1x25 => kernel_rfl
    case j2x25 => kernel_rfl
    case j3x25 => kernel_rfl
    case j4x25 => exact fun _ _ _ h => h
    case j5x25 => kernel_rfl
    case j6x25 => intro X hSw; (try dsimp only at hSw); go_simp; all_goals (with_reducible rfl)
    simp only [Act.put, List.setIfInBounds_toArray, List.set_cons_zero, List.set_cons_succ]
    refine wpAnyH_done (by kernel_rfl) ?_ _
    clear hb45 hb45'
    generalize wR.drew = wd at *
    have hbn := HSB.out _ hHeld
    have hXn := Lib.hid (hXR.out.call hbn)
    have HOn := Lib.hid (HOR.out.below hbn)
    have hgn := hHeld.2.1
    have hbb0 := hXn.out.bel
    clear hHeld
    have hbb := hbb0
    have hop0 := hXn.out.ob.c0
    have HN : Hid (P.length = PN) := Lib.hid HPN.out.symm
    have HON := Lib.hid (HOn.out.mono hszw)
    have HSP : Hid (spcW op.name P = (s.toList == [40] || (op.name.toList == [45] && digW s 0))) := Lib.hid (by rw [HSPC.out, HS.out])
    have HD0 : Hid (∀ W, Calls Tryz.prog 176 #[.string s, .int .i64 0] W fun e w' => e = .returned (.bool (digW s 0)) ∧ W = w') := Lib.hid (fun W => r_digit s 0 W (by unfold maxLen; omega) (by decide))
    have hn0 : (0 : Int) < (PN : Int) := by omega
    have HV0 : Hid (RES = (if spcW op.name P = true then [s1 32] else []) ++ P) := Lib.hid (by rw [HRES.out]; simp [brk])
    clear hbb0 hbn HOn HRES
    generalize op.name = onm at *
    cases e1 : (s.toList == [40])
    · have e1' : ¬ s.toList = [40] := by simpa using e1
      rw [e1] at HSP
      cases e2 : (onm.toList == [45])
      · have e2' : ¬ onm.toList = [45] := by simpa using e2
        rw [e2] at HSP
        have HV : Hid (RES = P) := Lib.hid (by rw [HV0.out, HSP.out]; rfl)
        go_wp2_with fail
        go_ret
        exact ⟨_, rfl, hbb, by rw [HV.out]; have h := HON.out; unfold OwnS at h ⊢; exact h⟩
      · have e2' : onm.toList = [45] := by simpa using e2
        rw [e2] at HSP
        cases e3 : digW s 0
        · rw [e3] at HSP HD0
          have HV : Hid (RES = P) := Lib.hid (by rw [HV0.out, HSP.out]; rfl)
          clear e3
          go_wp2_with fail
          refine (HD0.out _).mono ?_; rintro e w6 ⟨rfl, rfl⟩
          go_wp2_with fail
          go_ret
          exact ⟨_, rfl, hbb, by rw [HV.out]; have h := HON.out; unfold OwnS at h ⊢; exact h⟩
        · rw [e3] at HSP HD0
          have HV : Hid (RES = [s1 32] ++ P) := Lib.hid (by rw [HV0.out, HSP.out]; rfl)
          clear e3
          go_wp2_with fail
          refine (HD0.out _).mono ?_; rintro e w6 ⟨rfl, rfl⟩
          have H1 := Lib.hid (OwnS.one 9 wd (s1 32))
          unfold s1 at H1
          have hBL := (Below.refl wd.heap.size wd).alloc (Nat.le_refl _) (.cells #[.string ⟨#[32]⟩] 9)
          have hszL := hBL.size
          obtain ⟨A7, cp7, he7, hsrc⟩ := (HON.out.below hBL).src
          injection he7 with he7 hl7 hc7
          subst he7 hc7
          clear hl7
          rw [HN.out] at hsrc
          have HSRC := Lib.hid hsrc
          clear hsrc
          go_wp2_with ((with_reducible refine at_appSS ?_); go_must (refine wpList_append_row rfl _ _ 28 9 rfl Tryz.underlying28 _ 1 16 infoStr rfl (by decide) wd.heap.size _ _ _ rfl H1.out _ _ c2 _ rfl HSRC.out (strs_one _) (by simp; omega) (by simp; omega) hszL wd hBL ?_; intro v7 w7 ho7 hB7 hg7))
          go_ret
          refine ⟨v7, rfl, hbb.trans (hB7.mono hbb.size), ?_⟩
          rw [HV.out]
          refine OwnS.mono ?_ hbb.size
          unfold OwnS
          have e1 : ([s1 32] ++ P).length = [s1 32].length + PN := by rw [List.length_append, HN.out]
          have e2 : ([s1 32] ++ P).map Value.string = [s1 32].map Value.string ++ (P).map Value.string := by simp
          rw [e1, e2]; exact ho7
    · have e1' : s.toList = [40] := by simpa using e1
      rw [e1] at HSP
      have HV : Hid (RES = [s1 32] ++ P) := Lib.hid (by rw [HV0.out, HSP.out]; rfl)
      have H1 := Lib.hid (OwnS.one 9 wd (s1 32))
      unfold s1 at H1
      have hBL := (Below.refl wd.heap.size wd).alloc (Nat.le_refl _) (.cells #[.string ⟨#[32]⟩] 9)
      have hszL := hBL.size
      obtain ⟨A7, cp7, he7, hsrc⟩ := (HON.out.below hBL).src
      injection he7 with he7 hl7 hc7
      subst he7 hc7
      clear hl7
      rw [HN.out] at hsrc
      have HSRC := Lib.hid hsrc
      clear hsrc
      go_wp2_with ((with_reducible refine at_appSS ?_); go_must (refine wpList_append_row rfl _ _ 28 9 rfl Tryz.underlying28 _ 1 16 infoStr rfl (by decide) wd.heap.size _ _ _ rfl H1.out _ _ c2 _ rfl HSRC.out (strs_one _) (by simp; omega) (by simp; omega) hszL wd hBL ?_; intro v7 w7 ho7 hB7 hg7))
      go_ret
      refine ⟨v7, rfl, hbb.trans (hB7.mono hbb.size), ?_⟩
      rw [HV.out]
      refine OwnS.mono ?_ hbb.size
      unfold OwnS
      have e1 : ([s1 32] ++ P).length = [s1 32].length + PN := by rw [List.length_append, HN.out]
      have e2 : ([s1 32] ++ P).map Value.string = [s1 32].map Value.string ++ (P).map Value.string := by simp
      rw [e1, e2]; exact ho7
  · have hb45 : ((s.extract 0 (min 1 s.size)).toList == [45]) = true := HH.out.symm
    have hb45' : (s.extract 0 (min 1 s.size)).toList = [45] := by simpa using hb45
    cases dg
    · skip
      refine wp_region_held_drew (S := (fun X => X.cell? ⟨w.heap.size, 0, none⟩ = some (.slice TA TN TC) ∧ X.cell? ⟨g, 0, none⟩ = some (.string s) ∧ Below wR.heap.size wR X)) (by kernel_rfl) (HK.out _ (Below.refl _ _).drew) (fun hHeld => ?_)
      refine wpAnyH_take (i := 0) (oi := { dst := some 27, op := _, type := _, pos := _, after := _, guard := _ }) (v := ?j0x26) rfl ?j1x26 ?j2x26 ?j3x26 ?j4x26 (Or.inl ⟨?j5x26, ?j6x26⟩) (by assumption) ?j7x26
      case j1x26 => kernel_rfl
      case j2x26 => kernel_rfl
      case j3x26 => kernel_rfl
      case j4x26 => exact fun _ _ _ h => h
      case j5x26 => kernel_rfl
      case j6x26 => intro X hSw; (try dsimp only at hSw); go_simp; all_goals (with_reducible rfl)
      simp only [Act.put, List.setIfInBounds_toArray, List.set_cons_zero, List.set_cons_succ]
      refine wpAnyH_take (i := 1) (oi := { dst := some 28, op := _, type := _, pos := _, after := _, guard := _ }) (v := ?j0x27) rfl ?j1x27 ?j2x27 ?j3x27 ?j4x27 (Or.inl ⟨?j5x27, ?j6x27⟩) (by assumption) ?j7x27
      case j1x27 => kernel_rfl
      case j2x27 => kernel_rfl
      case j3x27 => kernel_rfl
      case j4x27 => exact fun _ _ _ h => h
      case j5x27 => kernel_rfl
      case j6x27 => intro X hSw; (try dsimp only at hSw); go_simp; all_goals (with_reducible rfl)
      simp only [Act.put, List.setIfInBounds_toArray, List.set_cons_zero, List.set_cons_succ]
      refine wpAnyH_take (i := 2) (oi := { dst := some 29, op := _, type := _, pos := _, after := _, guard := _ }) (v := ?j0x28) rfl ?j1x28 ?j2x28 ?j3x28 ?j4x28 (Or.inl ⟨?j5x28, ?j6x28⟩) (by assumption) ?j7x28
      case j1x28 => kernel_rfl
      case j2x28 => kernel_rfl
      case j3x28 => kernel_rfl
      case j4x28 => exact fun _ _ _ h => h
      case j5x28 => kernel_rfl
      case j6x28 => intro X hSw; (try dsimp only at hSw); go_simp; all_goals (with_reducible rfl)
      simp only [Act.put, List.setIfInBounds_toArray, List.set_cons_zero, List.set_cons_succ]
      refine wpAnyH_take (i := 3) (oi := { dst := some 30, op := _, type := _, pos := _, after := _, guard := _ }) (v := ?j0x29) rfl ?j1x29 ?j2x29 ?j3x29 ?j4x29 (Or.inl ⟨?j5x29, ?j6x29⟩) (by assumption) ?j7x29
      case j1x29 => kernel_rfl
      case j2x29 => kernel_rfl
      case j3x29 => kernel_rfl
      case j4x29 => exact fun _ _ _ h => h
      case j5x29 => kernel_rfl
      case j6x29 => intro X hSw; (try dsimp only at hSw); go_simp; all_goals (with_reducible rfl)
      simp only [Act.put, List.setIfInBounds_toArray, List.set_cons_zero, List.set_cons_succ]
      refine wpAnyH_take (i := 4) (oi := { dst := some 31, op := _, type := _, pos := _, after := _, guard := _ }) (v := ?j0x30) rfl ?j1x30 ?j2x30 ?j3x30 ?j4x30 (Or.inl ⟨?j5x30, ?j6x30⟩) (by assumption) ?j7x30
      case j1x30 => kernel_rfl
      case j2x30 => kernel_rfl
      case j3x30 => kernel_rfl
      case j4x30 => exact fun _ _ _ h => h
      case j5x30 => kernel_rfl
      case j6x30 => intro X hSw; (try dsimp only at hSw); go_simp; all_goals (with_reducible rfl)
      simp only [Act.put, List.setIfInBounds_toArray, List.set_cons_zero, List.set_cons_succ]
      refine wpAnyH_take (i := 5) (oi := { dst := some 32, op := _, type := _, pos := _, after := _, guard := _ }) (v := ?j0x31) rfl ?j1x31 ?j2x31 ?j3x31 ?j4x31 (Or.inl ⟨?j5x31, ?j6x31⟩) (by assumption) ?j7x31
      case j1x31 => kernel_rfl
      case j2x31 => kernel_rfl
      case j3x31 => kernel_rfl
      case j4x31 => exact fun _ _ _ h => h
      case j5x31 => kernel_rfl
      case j6x31 => intro X hSw; (try dsimp only at hSw); go_simp; all_goals (with_reducible rfl)
      simp only [Act.put, List.setIfInBounds_toArray, List.set_cons_zero, List.set_cons_succ]
      refine wpAnyH_take (i := 6) (oi := { dst := some 33, op := _, type := _, pos := _, after := _, guard := _ }) (v := ?j0x32) rfl ?j1x32 ?j2x32 ?j3x32 ?j4x32 (Or.inl ⟨?j5x32, ?j6x32⟩) (by assumption) ?j7x32
      case j1x32 => kernel_rfl
      case j2x32 => kernel_rfl
      case j3x32 => kernel_rfl
      case j4x32 => exact fun _ _ _ h => h
      case j5x32 => kernel_rfl
      case j6x32 => intro X hSw; (try dsimp only at hSw); go_simp; all_goals (with_reducible rfl)
      simp only [Act.put, List.setIfInBounds_toArray, List.set_cons_zero, List.set_cons_succ]
      refine wpAnyH_take (i := 7) (oi := { dst := some 34, op := _, type := _, pos := _, after := _, guard := _ }) (v := ?j0x33) rfl ?j1x33 ?j2x33 ?j3x33 ?j4x33 (Or.inl ⟨?j5x33, ?j6x33⟩) (by assumption) ?j7x33
      case j1x33 => kernel_rfl
      case j2x33 => kernel_rfl
      case j3x33 => kernel_rfl
      case j4x33 => exact fun _ _ _ h => h
      case j5x33 => kernel_rfl
      case j6x33 => intro X hSw; (try dsimp only at hSw); go_simp; all_goals (with_reducible rfl)
      simp only [Act.put, List.setIfInBounds_toArray, List.set_cons_zero, List.set_cons_succ]
      refine wpAnyH_take (i := 8) (oi := { dst := some 35, op := _, type := _, pos := _, after := _, guard := _ }) (v := ?j0x34) rfl ?j1x34 ?j2x34 ?j3x34 ?j4x34 (Or.inl ⟨?j5x34, ?j6x34⟩) (by assumption) ?j7x34
      case j1x34 => kernel_rfl
      case j2x34 => kernel_rfl
      case j3x34 => kernel_rfl
      case j4x34 => exact fun _ _ _ h => h
      case j5x34 => kernel_rfl
      case j6x34 => intro X hSw; (try dsimp only at hSw); go_simp; all_goals (with_reducible rfl)
      simp only [Act.put, List.setIfInBounds_toArray, List.set_cons_zero, List.set_cons_succ]
      refine wpAnyH_take (i := 9) (oi := { dst := some 36, op := _, type := _, pos := _, after := _, guard := _ }) (v := ?j0x35) rfl ?j1x35 ?j2x35 ?j3x35 ?j4x35 (Or.inl ⟨?j5x35, ?j6x35⟩) (by assumption) ?j7x35
      case j1x35 => kernel_rfl
      case j2x35 => kernel_rfl
      case j3x35 => kernel_rfl
      case j4x35 => exact fun _ _ _ h => h
      case j5x35 => kernel_rfl
      case j6x35 => intro X hSw; (try dsimp only at hSw); go_simp; all_goals (with_reducible rfl)
      simp only [Act.put, List.setIfInBounds_toArray, List.set_cons_zero, List.set_cons_succ]
      refine wpAnyH_take (i := 10) (oi := { dst := some 37, op := _, type := _, pos := _, after := _, guard := _ }) (v := ?j0x36) rfl ?j1x36 ?j2x36 ?j3x36 ?j4x36 (Or.inl ⟨?j5x36, ?j6x36⟩) (by assumption) ?j7x36
      case j1x36 => kernel_rfl
      case j2x36 => kernel_rfl
      case j3x36 => kernel_rfl
      case j4x36 => exact fun _ _ _ h => h
      case j5x36 => kernel_rfl
      case j6x36 => intro X hSw; (try dsimp only at hSw); go_simp; all_goals (with_reducible rfl)
      simp only [Act.put, List.setIfInBounds_toArray, List.set_cons_zero, List.set_cons_succ]
      refine wpAnyH_take (i := 11) (oi := { dst := some 38, op := _, type := _, pos := _, after := _, guard := _ }) (v := ?j0x37) rfl ?j1x37 ?j2x37 ?j3x37 ?j4x37 (Or.inl ⟨?j5x37, ?j6x37⟩) (by assumption) ?j7x37
      case j1x37 => kernel_rfl
      case j2x37 => kernel_rfl
      case j3x37 => kernel_rfl
      case j4x37 => exact fun _ _ _ h => h
      case j5x37 => kernel_rfl
      case j6x37 => intro X hSw; (try dsimp only at hSw); go_simp; all_goals (with_reducible rfl)
      simp only [Act.put, List.setIfInBounds_toArray, List.set_cons_zero, List.set_cons_succ]
      refine wpAnyH_take (i := 12) (oi := { dst := some 39, op := _, type := _, pos := _, after := _, guard := _ }) (v := ?j0x38) rfl ?j1x38 ?j2x38 ?j3x38 ?j4x38 (Or.inl ⟨?j5x38, ?j6x38⟩) (by assumption) ?j7x38
      case j1x38 => kernel_rfl
      case j2x38 => kernel_rfl
      case j3x38 => kernel_rfl
      case j4x38 => exact fun _ _ _ h => h
      case j5x38 => kernel_rfl
      case j6x38 => intro X hSw; (try dsimp only at hSw); go_simp; all_goals (with_reducible rfl)
      simp only [Act.put, List.setIfInBounds_toArray, List.set_cons_zero, List.set_cons_succ]
      refine wpAnyH_take (i := 13) (oi := { dst := some 40, op := _, type := _, pos := _, after := _, guard := _ }) (v := ?j0x39) rfl ?j1x39 ?j2x39 ?j3x39 ?j4x39 (Or.inl ⟨?j5x39, ?j6x39⟩) (by assumption) ?j7x39
      case j1x39 => kernel_rfl
      case j2x39 => kernel_rfl
      case j3x39 => kernel_rfl
      case j4x39 => exact fun _ _ _ h => h
      case j5x39 => kernel_rfl
      case j6x39 => intro X hSw; (try dsimp only at hSw); go_simp; all_goals (with_reducible rfl)
      simp only [Act.put, List.setIfInBounds_toArray, List.set_cons_zero, List.set_cons_succ]
      refine wpAnyH_ready (rs := [14]) (by kernel_rfl) (by simp) ?_
      refine AllReadyH.cons (o := { dst := some 41, op := _, type := _, pos := _, after := _, guard := _ }) rfl (fun K hK => ?_) AllReadyH.nil
      go_simp
      (go_at_call 176; (with_reducible refine (HDG.out _).mono ?_); rintro e wd ⟨rfl, rfl⟩)
      refine hK.out _ _ ?_ (fun hHeld => ?_)
      · exact hHeld
      clear hK K
      refine wpAnyH_take (i := 15) (oi := { dst := some 42, op := _, type := _, pos := _, after := _, guard := _ }) (v := ?j0x40) rfl ?j1x40 ?j2x40 ?j3x40 ?j4x40 (Or.inl ⟨?j5x40, ?j6x40⟩) (by assumption) ?j7x40
      case j1x40 => kernel_rfl
      case j2x40 => kernel_rfl
      case j3x40 => kernel_rfl
      case j4x40 => exact fun _ _ _ h => h
      case j5x40 => kernel_rfl
      case j6x40 => intro X hSw; (try dsimp only at hSw); go_simp; all_goals (with_reducible rfl)
      simp only [Act.put, List.setIfInBounds_toArray, List.set_cons_zero, List.set_cons_succ]
      refine wpAnyH_take (i := 16) (oi := { dst := some 43, op := _, type := _, pos := _, after := _, guard := _ }) (v := ?j0x41) rfl ?j1x41 ?j2x41 ?j3x41 ?j4x41 (Or.inl ⟨?j5x41, ?j6x41⟩) (by assumption) ?j7x41
      case j1x41 => kernel_rfl
      case j2x41 => kernel_rfl
      case j3x41 => kernel_rfl
      case j4x41 => exact fun _ _ _ h => h
      case j5x41 => kernel_rfl
      case j6x41 => intro X hSw; (try dsimp only at hSw); go_simp; all_goals (with_reducible rfl)
      simp only [Act.put, List.setIfInBounds_toArray, List.set_cons_zero, List.set_cons_succ]
      refine wpAnyH_take (i := 17) (oi := { dst := some 44, op := _, type := _, pos := _, after := _, guard := _ }) (v := undef) rfl ?j1x42 ?j2x42 ?j3x42 ?j4x42 (Or.inr ⟨?j5x42, rfl⟩) (by assumption) ?j7x42
      case j1x42 => kernel_rfl
      case j2x42 => kernel_rfl
      case j3x42 => kernel_rfl
      case j4x42 => exact fun _ _ _ h => h
      case j5x42 => kernel_rfl
      simp only [Act.put, List.setIfInBounds_toArray, List.set_cons_zero, List.set_cons_succ]
      refine wpAnyH_take (i := 18) (oi := { dst := some 45, op := _, type := _, pos := _, after := _, guard := _ }) (v := undef) rfl ?j1x43 ?j2x43 ?j3x43 ?j4x43 (Or.inr ⟨?j5x43, rfl⟩) (by assumption) ?j7x43
      case j1x43 => kernel_rfl
      case j2x43 => kernel_rfl
      case j3x43 => kernel_rfl
      case j4x43 => exact fun _ _ _ h => h
      case j5x43 => kernel_rfl
      simp only [Act.put, List.setIfInBounds_toArray, List.set_cons_zero, List.set_cons_succ]
      refine wpAnyH_take (i := 19) (oi := { dst := some 46, op := _, type := _, pos := _, after := _, guard := _ }) (v := undef) rfl ?j1x44 ?j2x44 ?j3x44 ?j4x44 (Or.inr ⟨?j5x44, rfl⟩) (by assumption) ?j7x44
      case j1x44 => kernel_rfl
      case j2x44 => kernel_rfl
      case j3x44 => kernel_rfl
      case j4x44 => exact fun _ _ _ h => h
      case j5x44 => kernel_rfl
      simp only [Act.put, List.setIfInBounds_toArray, List.set_cons_zero, List.set_cons_succ]
      refine wpAnyH_take (i := 20) (oi := { dst := some 47, op := _, type := _, pos := _, after := _, guard := _ }) (v := ?j0x45) rfl ?j1x45 ?j2x45 ?j3x45 ?j4x45 (Or.inl ⟨?j5x45, ?j6x45⟩) (by assumption) ?j7x45
      case j1x45 => kernel_rfl
      case j2x45 => kernel_rfl
      case j3x45 => kernel_rfl
      case j4x45 => exact fun _ _ _ h => h
      case j5x45 => kernel_rfl
      case j6x45 => intro X hSw; (try dsimp only at hSw); go_simp; all_goals (with_reducible rfl)
      simp only [Act.put, List.setIfInBounds_toArray, List.set_cons_zero, List.set_cons_succ]
      refine wpAnyH_take (i := 21) (oi := { dst := some 48, op := _, type := _, pos := _, after := _, guard := _ }) (v := ?j0x46) rfl ?j1x46 ?j2x46 ?j3x46 ?j4x46 (Or.inl ⟨?j5x46, ?j6x46⟩) (by assumption) ?j7x46
      case j1x46 => kernel_rfl
      case j2x46 => kernel_rfl
      case j3x46 => kernel_rfl
      case j4x46 => exact fun _ _ _ h => h
      case j5x46 => kernel_rfl
      case j6x46 => intro X hSw; (try dsimp only at hSw); go_simp; all_goals (with_reducible rfl)
      simp only [Act.put, List.setIfInBounds_toArray, List.set_cons_zero, List.set_cons_succ]
      refine wpAnyH_take (i := 22) (oi := { dst := some 49, op := _, type := _, pos := _, after := _, guard := _ }) (v := undef) rfl ?j1x47 ?j2x47 ?j3x47 ?j4x47 (Or.inr ⟨?j5x47, rfl⟩) (by assumption) ?j7x47
      case j1x47 => kernel_rfl
      case j2x47 => kernel_rfl
      case j3x47 => kernel_rfl
      case j4x47 => exact fun _ _ _ h => h
      case j5x47 => kernel_rfl
      simp only [Act.put, List.setIfInBounds_toArray, List.set_cons_zero, List.set_cons_succ]
      refine wpAnyH_take (i := 23) (oi := { dst := some 50, op := _, type := _, pos := _, after := _, guard := _ }) (v := undef) rfl ?j1x48 ?j2x48 ?j3x48 ?j4x48 (Or.inr ⟨?j5x48, rfl⟩) (by assumption) ?j7x48
      case j1x48 => kernel_rfl
      case j2x48 => kernel_rfl
      case j3x48 => kernel_rfl
      case j4x48 => exact fun _ _ _ h => h
      case j5x48 => kernel_rfl
      simp only [Act.put, List.setIfInBounds_toArray, List.set_cons_zero, List.set_cons_succ]
      refine wpAnyH_take (i := 24) (oi := { dst := some 51, op := _, type := _, pos := _, after := _, guard := _ }) (v := ?j0x49) rfl ?j1x49 ?j2x49 ?j3x49 ?j4x49 (Or.inl ⟨?j5x49, ?j6x49⟩) (by assumption) ?j7x49
      case j1x49 => kernel_rfl
      case j2x49 => kernel_rfl
      case j3x49 => kernel_rfl
      case j4x49 => exact fun _ _ _ h => h
      case j5x49 => kernel_rfl
      case j6x49 => intro X hSw; (try dsimp only at hSw); go_simp; all_goals (with_reducible rfl)
      simp only [Act.put, List.setIfInBounds_toArray, List.set_cons_zero, List.set_cons_succ]
      refine wpAnyH_done (by kernel_rfl) ?_ _
      clear hb45 hb45'
      generalize wR.drew = wd at *
      have hbn := HSB.out _ hHeld
      have hXn := Lib.hid (hXR.out.call hbn)
      have HOn := Lib.hid (HOR.out.below hbn)
      have hgn := hHeld.2.1
      have hbb0 := hXn.out.bel
      clear hHeld
      have hbb := hbb0
      have hop0 := hXn.out.ob.c0
      have HN : Hid (P.length = PN) := Lib.hid HPN.out.symm
      have HON := Lib.hid (HOn.out.mono hszw)
      have HSP : Hid (spcW op.name P = (s.toList == [40] || (op.name.toList == [45] && digW s 0))) := Lib.hid (by rw [HSPC.out, HS.out])
      have HD0 : Hid (∀ W, Calls Tryz.prog 176 #[.string s, .int .i64 0] W fun e w' => e = .returned (.bool (digW s 0)) ∧ W = w') := Lib.hid (fun W => r_digit s 0 W (by unfold maxLen; omega) (by decide))
      have hn0 : (0 : Int) < (PN : Int) := by omega
      have HV0 : Hid (RES = (if spcW op.name P = true then [s1 32] else []) ++ P) := Lib.hid (by rw [HRES.out]; simp [brk])
      clear hbb0 hbn HOn HRES
      generalize op.name = onm at *
      cases e1 : (s.toList == [40])
      · have e1' : ¬ s.toList = [40] := by simpa using e1
        rw [e1] at HSP
        cases e2 : (onm.toList == [45])
        · have e2' : ¬ onm.toList = [45] := by simpa using e2
          rw [e2] at HSP
          have HV : Hid (RES = P) := Lib.hid (by rw [HV0.out, HSP.out]; rfl)
          go_wp2_with fail
          go_ret
          exact ⟨_, rfl, hbb, by rw [HV.out]; have h := HON.out; unfold OwnS at h ⊢; exact h⟩
        · have e2' : onm.toList = [45] := by simpa using e2
          rw [e2] at HSP
          cases e3 : digW s 0
          · rw [e3] at HSP HD0
            have HV : Hid (RES = P) := Lib.hid (by rw [HV0.out, HSP.out]; rfl)
            clear e3
            go_wp2_with fail
            refine (HD0.out _).mono ?_; rintro e w6 ⟨rfl, rfl⟩
            go_wp2_with fail
            go_ret
            exact ⟨_, rfl, hbb, by rw [HV.out]; have h := HON.out; unfold OwnS at h ⊢; exact h⟩
          · rw [e3] at HSP HD0
            have HV : Hid (RES = [s1 32] ++ P) := Lib.hid (by rw [HV0.out, HSP.out]; rfl)
            clear e3
            go_wp2_with fail
            refine (HD0.out _).mono ?_; rintro e w6 ⟨rfl, rfl⟩
            have H1 := Lib.hid (OwnS.one 9 wd (s1 32))
            unfold s1 at H1
            have hBL := (Below.refl wd.heap.size wd).alloc (Nat.le_refl _) (.cells #[.string ⟨#[32]⟩] 9)
            have hszL := hBL.size
            obtain ⟨A7, cp7, he7, hsrc⟩ := (HON.out.below hBL).src
            injection he7 with he7 hl7 hc7
            subst he7 hc7
            clear hl7
            rw [HN.out] at hsrc
            have HSRC := Lib.hid hsrc
            clear hsrc
            go_wp2_with ((with_reducible refine at_appSS ?_); go_must (refine wpList_append_row rfl _ _ 28 9 rfl Tryz.underlying28 _ 1 16 infoStr rfl (by decide) wd.heap.size _ _ _ rfl H1.out _ _ c2 _ rfl HSRC.out (strs_one _) (by simp; omega) (by simp; omega) hszL wd hBL ?_; intro v7 w7 ho7 hB7 hg7))
            go_ret
            refine ⟨v7, rfl, hbb.trans (hB7.mono hbb.size), ?_⟩
            rw [HV.out]
            refine OwnS.mono ?_ hbb.size
            unfold OwnS
            have e1 : ([s1 32] ++ P).length = [s1 32].length + PN := by rw [List.length_append, HN.out]
            have e2 : ([s1 32] ++ P).map Value.string = [s1 32].map Value.string ++ (P).map Value.string := by simp
            rw [e1, e2]; exact ho7
      · have e1' : s.toList = [40] := by simpa using e1
        rw [e1] at HSP
        have HV : Hid (RES = [s1 32] ++ P) := Lib.hid (by rw [HV0.out, HSP.out]; rfl)
        have H1 := Lib.hid (OwnS.one 9 wd (s1 32))
        unfold s1 at H1
        have hBL := (Below.refl wd.heap.size wd).alloc (Nat.le_refl _) (.cells #[.string ⟨#[32]⟩] 9)
        have hszL := hBL.size
        obtain ⟨A7, cp7, he7, hsrc⟩ := (HON.out.below hBL).src
        injection he7 with he7 hl7 hc7
        subst he7 hc7
        clear hl7
        rw [HN.out] at hsrc
        have HSRC := Lib.hid hsrc
        clear hsrc
        go_wp2_with ((with_reducible refine at_appSS ?_); go_must (refine wpList_append_row rfl _ _ 28 9 rfl Tryz.underlying28 _ 1 16 infoStr rfl (by decide) wd.heap.size _ _ _ rfl H1.out _ _ c2 _ rfl HSRC.out (strs_one _) (by simp; omega) (by simp; omega) hszL wd hBL ?_; intro v7 w7 ho7 hB7 hg7))
        go_ret
        refine ⟨v7, rfl, hbb.trans (hB7.mono hbb.size), ?_⟩
        rw [HV.out]
        refine OwnS.mono ?_ hbb.size
        unfold OwnS
        have e1 : ([s1 32] ++ P).length = [s1 32].length + PN := by rw [List.length_append, HN.out]
        have e2 : ([s1 32] ++ P).map Value.string = [s1 32].map Value.string ++ (P).map Value.string := by simp
        rw [e1, e2]; exact ho7
    · cases isA
      · skip
        refine wp_region_held_drew (S := (fun X => X.cell? ⟨w.heap.size, 0, none⟩ = some (.slice TA TN TC) ∧ X.cell? ⟨g, 0, none⟩ = some (.string s) ∧ Below wR.heap.size wR X)) (by kernel_rfl) (HK.out _ (Below.refl _ _).drew) (fun hHeld => ?_)
        refine wpAnyH_take (i := 0) (oi := { dst := some 27, op := _, type := _, pos := _, after := _, guard := _ }) (v := ?j0x50) rfl ?j1x50 ?j2x50 ?j3x50 ?j4x50 (Or.inl ⟨?j5x50, ?j6x50⟩) (by assumption) ?j7x50
        case j1x50 => kernel_rfl
        case j2x50 => kernel_rfl
        case j3x50 => kernel_rfl
        case j4x50 => exact fun _ _ _ h => h
        case j5x50 => kernel_rfl
        case j6x50 => intro X hSw; (try dsimp only at hSw); go_simp; all_goals (with_reducible rfl)
        simp only [Act.put, List.setIfInBounds_toArray, List.set_cons_zero, List.set_cons_succ]
        refine wpAnyH_take (i := 1) (oi := { dst := some 28, op := _, type := _, pos := _, after := _, guard := _ }) (v := ?j0x51) rfl ?j1x51 ?j2x51 ?j3x51 ?j4x51 (Or.inl ⟨?j5x51, ?j6x51⟩) (by assumption) ?j7x51
        case j1x51 => kernel_rfl
        case j2x51 => kernel_rfl
        case j3x51 => kernel_rfl
        case j4x51 => exact fun _ _ _ h => h
        case j5x51 => kernel_rfl
        case j6x51 => intro X hSw; (try dsimp only at hSw); go_simp; all_goals (with_reducible rfl)
        simp only [Act.put, List.setIfInBounds_toArray, List.set_cons_zero, List.set_cons_succ]
        refine wpAnyH_take (i := 2) (oi := { dst := some 29, op := _, type := _, pos := _, after := _, guard := _ }) (v := ?j0x52) rfl ?j1x52 ?j2x52 ?j3x52 ?j4x52 (Or.inl ⟨?j5x52, ?j6x52⟩) (by assumption) ?j7x52
        case j1x52 => kernel_rfl
        case j2x52 => kernel_rfl
        case j3x52 => kernel_rfl
        case j4x52 => exact fun _ _ _ h => h
        case j5x52 => kernel_rfl
        case j6x52 => intro X hSw; (try dsimp only at hSw); go_simp; all_goals (with_reducible rfl)
        simp only [Act.put, List.setIfInBounds_toArray, List.set_cons_zero, List.set_cons_succ]
        refine wpAnyH_take (i := 3) (oi := { dst := some 30, op := _, type := _, pos := _, after := _, guard := _ }) (v := ?j0x53) rfl ?j1x53 ?j2x53 ?j3x53 ?j4x53 (Or.inl ⟨?j5x53, ?j6x53⟩) (by assumption) ?j7x53
        case j1x53 => kernel_rfl
        case j2x53 => kernel_rfl
        case j3x53 => kernel_rfl
        case j4x53 => exact fun _ _ _ h => h
        case j5x53 => kernel_rfl
        case j6x53 => intro X hSw; (try dsimp only at hSw); go_simp; all_goals (with_reducible rfl)
        simp only [Act.put, List.setIfInBounds_toArray, List.set_cons_zero, List.set_cons_succ]
        refine wpAnyH_take (i := 4) (oi := { dst := some 31, op := _, type := _, pos := _, after := _, guard := _ }) (v := ?j0x54) rfl ?j1x54 ?j2x54 ?j3x54 ?j4x54 (Or.inl ⟨?j5x54, ?j6x54⟩) (by assumption) ?j7x54
        case j1x54 => kernel_rfl
        case j2x54 => kernel_rfl
        case j3x54 => kernel_rfl
        case j4x54 => exact fun _ _ _ h => h
        case j5x54 => kernel_rfl
        case j6x54 => intro X hSw; (try dsimp only at hSw); go_simp; all_goals (with_reducible rfl)
        simp only [Act.put, List.setIfInBounds_toArray, List.set_cons_zero, List.set_cons_succ]
        refine wpAnyH_take (i := 5) (oi := { dst := some 32, op := _, type := _, pos := _, after := _, guard := _ }) (v := ?j0x55) rfl ?j1x55 ?j2x55 ?j3x55 ?j4x55 (Or.inl ⟨?j5x55, ?j6x55⟩) (by assumption) ?j7x55
        case j1x55 => kernel_rfl
        case j2x55 => kernel_rfl
        case j3x55 => kernel_rfl
        case j4x55 => exact fun _ _ _ h => h
        case j5x55 => kernel_rfl
        case j6x55 => intro X hSw; (try dsimp only at hSw); go_simp; all_goals (with_reducible rfl)
        simp only [Act.put, List.setIfInBounds_toArray, List.set_cons_zero, List.set_cons_succ]
        refine wpAnyH_take (i := 6) (oi := { dst := some 33, op := _, type := _, pos := _, after := _, guard := _ }) (v := ?j0x56) rfl ?j1x56 ?j2x56 ?j3x56 ?j4x56 (Or.inl ⟨?j5x56, ?j6x56⟩) (by assumption) ?j7x56
        case j1x56 => kernel_rfl
        case j2x56 => kernel_rfl
        case j3x56 => kernel_rfl
        case j4x56 => exact fun _ _ _ h => h
        case j5x56 => kernel_rfl
        case j6x56 => intro X hSw; (try dsimp only at hSw); go_simp; all_goals (with_reducible rfl)
        simp only [Act.put, List.setIfInBounds_toArray, List.set_cons_zero, List.set_cons_succ]
        refine wpAnyH_take (i := 7) (oi := { dst := some 34, op := _, type := _, pos := _, after := _, guard := _ }) (v := ?j0x57) rfl ?j1x57 ?j2x57 ?j3x57 ?j4x57 (Or.inl ⟨?j5x57, ?j6x57⟩) (by assumption) ?j7x57
        case j1x57 => kernel_rfl
        case j2x57 => kernel_rfl
        case j3x57 => kernel_rfl
        case j4x57 => exact fun _ _ _ h => h
        case j5x57 => kernel_rfl
        case j6x57 => intro X hSw; (try dsimp only at hSw); go_simp; all_goals (with_reducible rfl)
        simp only [Act.put, List.setIfInBounds_toArray, List.set_cons_zero, List.set_cons_succ]
        refine wpAnyH_take (i := 8) (oi := { dst := some 35, op := _, type := _, pos := _, after := _, guard := _ }) (v := ?j0x58) rfl ?j1x58 ?j2x58 ?j3x58 ?j4x58 (Or.inl ⟨?j5x58, ?j6x58⟩) (by assumption) ?j7x58
        case j1x58 => kernel_rfl
        case j2x58 => kernel_rfl
        case j3x58 => kernel_rfl
        case j4x58 => exact fun _ _ _ h => h
        case j5x58 => kernel_rfl
        case j6x58 => intro X hSw; (try dsimp only at hSw); go_simp; all_goals (with_reducible rfl)
        simp only [Act.put, List.setIfInBounds_toArray, List.set_cons_zero, List.set_cons_succ]
        refine wpAnyH_take (i := 9) (oi := { dst := some 36, op := _, type := _, pos := _, after := _, guard := _ }) (v := ?j0x59) rfl ?j1x59 ?j2x59 ?j3x59 ?j4x59 (Or.inl ⟨?j5x59, ?j6x59⟩) (by assumption) ?j7x59
        case j1x59 => kernel_rfl
        case j2x59 => kernel_rfl
        case j3x59 => kernel_rfl
        case j4x59 => exact fun _ _ _ h => h
        case j5x59 => kernel_rfl
        case j6x59 => intro X hSw; (try dsimp only at hSw); go_simp; all_goals (with_reducible rfl)
        simp only [Act.put, List.setIfInBounds_toArray, List.set_cons_zero, List.set_cons_succ]
        refine wpAnyH_take (i := 10) (oi := { dst := some 37, op := _, type := _, pos := _, after := _, guard := _ }) (v := ?j0x60) rfl ?j1x60 ?j2x60 ?j3x60 ?j4x60 (Or.inl ⟨?j5x60, ?j6x60⟩) (by assumption) ?j7x60
        case j1x60 => kernel_rfl
        case j2x60 => kernel_rfl
        case j3x60 => kernel_rfl
        case j4x60 => exact fun _ _ _ h => h
        case j5x60 => kernel_rfl
        case j6x60 => intro X hSw; (try dsimp only at hSw); go_simp; all_goals (with_reducible rfl)
        simp only [Act.put, List.setIfInBounds_toArray, List.set_cons_zero, List.set_cons_succ]
        refine wpAnyH_take (i := 11) (oi := { dst := some 38, op := _, type := _, pos := _, after := _, guard := _ }) (v := ?j0x61) rfl ?j1x61 ?j2x61 ?j3x61 ?j4x61 (Or.inl ⟨?j5x61, ?j6x61⟩) (by assumption) ?j7x61
        case j1x61 => kernel_rfl
        case j2x61 => kernel_rfl
        case j3x61 => kernel_rfl
        case j4x61 => exact fun _ _ _ h => h
        case j5x61 => kernel_rfl
        case j6x61 => intro X hSw; (try dsimp only at hSw); go_simp; all_goals (with_reducible rfl)
        simp only [Act.put, List.setIfInBounds_toArray, List.set_cons_zero, List.set_cons_succ]
        refine wpAnyH_take (i := 12) (oi := { dst := some 39, op := _, type := _, pos := _, after := _, guard := _ }) (v := ?j0x62) rfl ?j1x62 ?j2x62 ?j3x62 ?j4x62 (Or.inl ⟨?j5x62, ?j6x62⟩) (by assumption) ?j7x62
        case j1x62 => kernel_rfl
        case j2x62 => kernel_rfl
        case j3x62 => kernel_rfl
        case j4x62 => exact fun _ _ _ h => h
        case j5x62 => kernel_rfl
        case j6x62 => intro X hSw; (try dsimp only at hSw); go_simp; all_goals (with_reducible rfl)
        simp only [Act.put, List.setIfInBounds_toArray, List.set_cons_zero, List.set_cons_succ]
        refine wpAnyH_take (i := 13) (oi := { dst := some 40, op := _, type := _, pos := _, after := _, guard := _ }) (v := ?j0x63) rfl ?j1x63 ?j2x63 ?j3x63 ?j4x63 (Or.inl ⟨?j5x63, ?j6x63⟩) (by assumption) ?j7x63
        case j1x63 => kernel_rfl
        case j2x63 => kernel_rfl
        case j3x63 => kernel_rfl
        case j4x63 => exact fun _ _ _ h => h
        case j5x63 => kernel_rfl
        case j6x63 => intro X hSw; (try dsimp only at hSw); go_simp; all_goals (with_reducible rfl)
        simp only [Act.put, List.setIfInBounds_toArray, List.set_cons_zero, List.set_cons_succ]
        refine wpAnyH_ready (rs := [14]) (by kernel_rfl) (by simp) ?_
        refine AllReadyH.cons (o := { dst := some 41, op := _, type := _, pos := _, after := _, guard := _ }) rfl (fun K hK => ?_) AllReadyH.nil
        go_simp
        (go_at_call 176; (with_reducible refine (HDG.out _).mono ?_); rintro e wd ⟨rfl, rfl⟩)
        refine hK.out _ _ ?_ (fun hHeld => ?_)
        · exact hHeld
        clear hK K
        refine wpAnyH_take (i := 15) (oi := { dst := some 42, op := _, type := _, pos := _, after := _, guard := _ }) (v := ?j0x64) rfl ?j1x64 ?j2x64 ?j3x64 ?j4x64 (Or.inl ⟨?j5x64, ?j6x64⟩) (by assumption) ?j7x64
        case j1x64 => kernel_rfl
        case j2x64 => kernel_rfl
        case j3x64 => kernel_rfl
        case j4x64 => exact fun _ _ _ h => h
        case j5x64 => kernel_rfl
        case j6x64 => intro X hSw; (try dsimp only at hSw); go_simp; all_goals (with_reducible rfl)
        simp only [Act.put, List.setIfInBounds_toArray, List.set_cons_zero, List.set_cons_succ]
        refine wpAnyH_take (i := 16) (oi := { dst := some 43, op := _, type := _, pos := _, after := _, guard := _ }) (v := ?j0x65) rfl ?j1x65 ?j2x65 ?j3x65 ?j4x65 (Or.inl ⟨?j5x65, ?j6x65⟩) (by assumption) ?j7x65
        case j1x65 => kernel_rfl
        case j2x65 => kernel_rfl
        case j3x65 => kernel_rfl
        case j4x65 => exact fun _ _ _ h => h
        case j5x65 => kernel_rfl
        case j6x65 => intro X hSw; (try dsimp only at hSw); go_simp; all_goals (with_reducible rfl)
        simp only [Act.put, List.setIfInBounds_toArray, List.set_cons_zero, List.set_cons_succ]
        refine wpAnyH_take (i := 17) (oi := { dst := some 44, op := _, type := _, pos := _, after := _, guard := _ }) (v := ?j0x66) rfl ?j1x66 ?j2x66 ?j3x66 ?j4x66 (Or.inl ⟨?j5x66, ?j6x66⟩) (by assumption) ?j7x66
        case j1x66 => kernel_rfl
        case j2x66 => kernel_rfl
        case j3x66 => kernel_rfl
        case j4x66 => exact fun _ _ _ h => h
        case j5x66 => kernel_rfl
        case j6x66 => intro X hSw; (try dsimp only at hSw); go_simp; all_goals (with_reducible rfl)
        simp only [Act.put, List.setIfInBounds_toArray, List.set_cons_zero, List.set_cons_succ]
        refine wpAnyH_take (i := 18) (oi := { dst := some 45, op := _, type := _, pos := _, after := _, guard := _ }) (v := ?j0x67) rfl ?j1x67 ?j2x67 ?j3x67 ?j4x67 (Or.inl ⟨?j5x67, ?j6x67⟩) (by assumption) ?j7x67
        case j1x67 => kernel_rfl
        case j2x67 => kernel_rfl
        case j3x67 => kernel_rfl
        case j4x67 => exact fun _ _ _ h => h
        case j5x67 => kernel_rfl
        case j6x67 => intro X hSw; (try dsimp only at hSw); go_simp; all_goals (with_reducible rfl)
        simp only [Act.put, List.setIfInBounds_toArray, List.set_cons_zero, List.set_cons_succ]
        refine wpAnyH_ready (rs := [19]) (by kernel_rfl) (by simp) ?_
        refine AllReadyH.cons (o := { dst := some 46, op := _, type := _, pos := _, after := _, guard := _ }) rfl (fun K hK => ?_) AllReadyH.nil
        go_simp
        (go_at_call 24; (with_reducible refine (HIS.out _ (HSB.out _ hHeld)).mono ?_); rintro e wi ⟨rfl, hBi⟩)
        refine hK.out _ _ ?_ (fun hHeld => ?_)
        · exact HK.out _ ((HSB.out _ hHeld).trans (hBi.mono (HSB.out _ hHeld).size))
        clear hK K
        refine wpAnyH_take (i := 20) (oi := { dst := some 47, op := _, type := _, pos := _, after := _, guard := _ }) (v := ?j0x68) rfl ?j1x68 ?j2x68 ?j3x68 ?j4x68 (Or.inl ⟨?j5x68, ?j6x68⟩) (by assumption) ?j7x68
        case j1x68 => kernel_rfl
        case j2x68 => kernel_rfl
        case j3x68 => kernel_rfl
        case j4x68 => exact fun _ _ _ h => h
        case j5x68 => kernel_rfl
        case j6x68 => intro X hSw; (try dsimp only at hSw); go_simp; all_goals (with_reducible rfl)
        simp only [Act.put, List.setIfInBounds_toArray, List.set_cons_zero, List.set_cons_succ]
        refine wpAnyH_take (i := 21) (oi := { dst := some 48, op := _, type := _, pos := _, after := _, guard := _ }) (v := ?j0x69) rfl ?j1x69 ?j2x69 ?j3x69 ?j4x69 (Or.inl ⟨?j5x69, ?j6x69⟩) (by assumption) ?j7x69
        case j1x69 => kernel_rfl
        case j2x69 => kernel_rfl
        case j3x69 => kernel_rfl
        case j4x69 => exact fun _ _ _ h => h
        case j5x69 => kernel_rfl
        case j6x69 => intro X hSw; (try dsimp only at hSw); go_simp; all_goals (with_reducible rfl)
        simp only [Act.put, List.setIfInBounds_toArray, List.set_cons_zero, List.set_cons_succ]
        refine wpAnyH_take (i := 22) (oi := { dst := some 49, op := _, type := _, pos := _, after := _, guard := _ }) (v := undef) rfl ?j1x70 ?j2x70 ?j3x70 ?j4x70 (Or.inr ⟨?j5x70, rfl⟩) (by assumption) ?j7x70
        case j1x70 => kernel_rfl
        case j2x70 => kernel_rfl
        case j3x70 => kernel_rfl
        case j4x70 => exact fun _ _ _ h => h
        case j5x70 => kernel_rfl
        simp only [Act.put, List.setIfInBounds_toArray, List.set_cons_zero, List.set_cons_succ]
        refine wpAnyH_take (i := 23) (oi := { dst := some 50, op := _, type := _, pos := _, after := _, guard := _ }) (v := undef) rfl ?j1x71 ?j2x71 ?j3x71 ?j4x71 (Or.inr ⟨?j5x71, rfl⟩) (by assumption) ?j7x71
        case j1x71 => kernel_rfl
        case j2x71 => kernel_rfl
        case j3x71 => kernel_rfl
        case j4x71 => exact fun _ _ _ h => h
        case j5x71 => kernel_rfl
        simp only [Act.put, List.setIfInBounds_toArray, List.set_cons_zero, List.set_cons_succ]
        refine wpAnyH_take (i := 24) (oi := { dst := some 51, op := _, type := _, pos := _, after := _, guard := _ }) (v := ?j0x72) rfl ?j1x72 ?j2x72 ?j3x72 ?j4x72 (Or.inl ⟨?j5x72, ?j6x72⟩) (by assumption) ?j7x72
        case j1x72 => kernel_rfl
        case j2x72 => kernel_rfl
        case j3x72 => kernel_rfl
        case j4x72 => exact fun _ _ _ h => h
        case j5x72 => kernel_rfl
        case j6x72 => intro X hSw; (try dsimp only at hSw); go_simp; all_goals (with_reducible rfl)
        simp only [Act.put, List.setIfInBounds_toArray, List.set_cons_zero, List.set_cons_succ]
        refine wpAnyH_done (by kernel_rfl) ?_ _
        clear hb45 hb45'
        have hbn := HSB.out _ hHeld
        have hXn := Lib.hid (hXR.out.call hbn)
        have HOn := Lib.hid (HOR.out.below hbn)
        have hgn := hHeld.2.1
        have hbb0 := hXn.out.bel
        clear hHeld
        have hbb := hbb0
        have hop0 := hXn.out.ob.c0
        have HN : Hid (P.length = PN) := Lib.hid HPN.out.symm
        have HON := Lib.hid (HOn.out.mono hszw)
        have HSP : Hid (spcW op.name P = (s.toList == [40] || (op.name.toList == [45] && digW s 0))) := Lib.hid (by rw [HSPC.out, HS.out])
        have HD0 : Hid (∀ W, Calls Tryz.prog 176 #[.string s, .int .i64 0] W fun e w' => e = .returned (.bool (digW s 0)) ∧ W = w') := Lib.hid (fun W => r_digit s 0 W (by unfold maxLen; omega) (by decide))
        have hn0 : (0 : Int) < (PN : Int) := by omega
        have HV0 : Hid (RES = (if spcW op.name P = true then [s1 32] else []) ++ P) := Lib.hid (by rw [HRES.out]; simp [brk])
        clear hbb0 hbn HOn HRES
        generalize op.name = onm at *
        cases e1 : (s.toList == [40])
        · have e1' : ¬ s.toList = [40] := by simpa using e1
          rw [e1] at HSP
          cases e2 : (onm.toList == [45])
          · have e2' : ¬ onm.toList = [45] := by simpa using e2
            rw [e2] at HSP
            have HV : Hid (RES = P) := Lib.hid (by rw [HV0.out, HSP.out]; rfl)
            go_wp2_with fail
            go_ret
            exact ⟨_, rfl, hbb, by rw [HV.out]; have h := HON.out; unfold OwnS at h ⊢; exact h⟩
          · have e2' : onm.toList = [45] := by simpa using e2
            rw [e2] at HSP
            cases e3 : digW s 0
            · rw [e3] at HSP HD0
              have HV : Hid (RES = P) := Lib.hid (by rw [HV0.out, HSP.out]; rfl)
              clear e3
              go_wp2_with fail
              refine (HD0.out _).mono ?_; rintro e w6 ⟨rfl, rfl⟩
              go_wp2_with fail
              go_ret
              exact ⟨_, rfl, hbb, by rw [HV.out]; have h := HON.out; unfold OwnS at h ⊢; exact h⟩
            · rw [e3] at HSP HD0
              have HV : Hid (RES = [s1 32] ++ P) := Lib.hid (by rw [HV0.out, HSP.out]; rfl)
              clear e3
              go_wp2_with fail
              refine (HD0.out _).mono ?_; rintro e w6 ⟨rfl, rfl⟩
              have H1 := Lib.hid (OwnS.one 9 wi (s1 32))
              unfold s1 at H1
              have hBL := (Below.refl wi.heap.size wi).alloc (Nat.le_refl _) (.cells #[.string ⟨#[32]⟩] 9)
              have hszL := hBL.size
              obtain ⟨A7, cp7, he7, hsrc⟩ := (HON.out.below hBL).src
              injection he7 with he7 hl7 hc7
              subst he7 hc7
              clear hl7
              rw [HN.out] at hsrc
              have HSRC := Lib.hid hsrc
              clear hsrc
              go_wp2_with ((with_reducible refine at_appSS ?_); go_must (refine wpList_append_row rfl _ _ 28 9 rfl Tryz.underlying28 _ 1 16 infoStr rfl (by decide) wi.heap.size _ _ _ rfl H1.out _ _ c2 _ rfl HSRC.out (strs_one _) (by simp; omega) (by simp; omega) hszL wi hBL ?_; intro v7 w7 ho7 hB7 hg7))
              go_ret
              refine ⟨v7, rfl, hbb.trans (hB7.mono hbb.size), ?_⟩
              rw [HV.out]
              refine OwnS.mono ?_ hbb.size
              unfold OwnS
              have e1 : ([s1 32] ++ P).length = [s1 32].length + PN := by rw [List.length_append, HN.out]
              have e2 : ([s1 32] ++ P).map Value.string = [s1 32].map Value.string ++ (P).map Value.string := by simp
              rw [e1, e2]; exact ho7
        · have e1' : s.toList = [40] := by simpa using e1
          rw [e1] at HSP
          have HV : Hid (RES = [s1 32] ++ P) := Lib.hid (by rw [HV0.out, HSP.out]; rfl)
          have H1 := Lib.hid (OwnS.one 9 wi (s1 32))
          unfold s1 at H1
          have hBL := (Below.refl wi.heap.size wi).alloc (Nat.le_refl _) (.cells #[.string ⟨#[32]⟩] 9)
          have hszL := hBL.size
          obtain ⟨A7, cp7, he7, hsrc⟩ := (HON.out.below hBL).src
          injection he7 with he7 hl7 hc7
          subst he7 hc7
          clear hl7
          rw [HN.out] at hsrc
          have HSRC := Lib.hid hsrc
          clear hsrc
          go_wp2_with ((with_reducible refine at_appSS ?_); go_must (refine wpList_append_row rfl _ _ 28 9 rfl Tryz.underlying28 _ 1 16 infoStr rfl (by decide) wi.heap.size _ _ _ rfl H1.out _ _ c2 _ rfl HSRC.out (strs_one _) (by simp; omega) (by simp; omega) hszL wi hBL ?_; intro v7 w7 ho7 hB7 hg7))
          go_ret
          refine ⟨v7, rfl, hbb.trans (hB7.mono hbb.size), ?_⟩
          rw [HV.out]
          refine OwnS.mono ?_ hbb.size
          unfold OwnS
          have e1 : ([s1 32] ++ P).length = [s1 32].length + PN := by rw [List.length_append, HN.out]
          have e2 : ([s1 32] ++ P).map Value.string = [s1 32].map Value.string ++ (P).map Value.string := by simp
          rw [e1, e2]; exact ho7
      · cases hp1
        · skip
          refine wp_region_held_drew (S := (fun X => X.cell? ⟨w.heap.size, 0, none⟩ = some (.slice TA TN TC) ∧ X.cell? ⟨g, 0, none⟩ = some (.string s) ∧ Below wR.heap.size wR X)) (by kernel_rfl) (HK.out _ (Below.refl _ _).drew) (fun hHeld => ?_)
          refine wpAnyH_take (i := 0) (oi := { dst := some 27, op := _, type := _, pos := _, after := _, guard := _ }) (v := ?j0x73) rfl ?j1x73 ?j2x73 ?j3x73 ?j4x73 (Or.inl ⟨?j5x73, ?j6x73⟩) (by assumption) ?j7x73
          case j1x73 => kernel_rfl
          case j2x73 => kernel_rfl
          case j3x73 => kernel_rfl
          case j4x73 => exact fun _ _ _ h => h
          case j5x73 => kernel_rfl
          case j6x73 => intro X hSw; (try dsimp only at hSw); go_simp; all_goals (with_reducible rfl)
          simp only [Act.put, List.setIfInBounds_toArray, List.set_cons_zero, List.set_cons_succ]
          refine wpAnyH_take (i := 1) (oi := { dst := some 28, op := _, type := _, pos := _, after := _, guard := _ }) (v := ?j0x74) rfl ?j1x74 ?j2x74 ?j3x74 ?j4x74 (Or.inl ⟨?j5x74, ?j6x74⟩) (by assumption) ?j7x74
          case j1x74 => kernel_rfl
          case j2x74 => kernel_rfl
          case j3x74 => kernel_rfl
          case j4x74 => exact fun _ _ _ h => h
          case j5x74 => kernel_rfl
          case j6x74 => intro X hSw; (try dsimp only at hSw); go_simp; all_goals (with_reducible rfl)
          simp only [Act.put, List.setIfInBounds_toArray, List.set_cons_zero, List.set_cons_succ]
          refine wpAnyH_take (i := 2) (oi := { dst := some 29, op := _, type := _, pos := _, after := _, guard := _ }) (v := ?j0x75) rfl ?j1x75 ?j2x75 ?j3x75 ?j4x75 (Or.inl ⟨?j5x75, ?j6x75⟩) (by assumption) ?j7x75
          case j1x75 => kernel_rfl
          case j2x75 => kernel_rfl
          case j3x75 => kernel_rfl
          case j4x75 => exact fun _ _ _ h => h
          case j5x75 => kernel_rfl
          case j6x75 => intro X hSw; (try dsimp only at hSw); go_simp; all_goals (with_reducible rfl)
          simp only [Act.put, List.setIfInBounds_toArray, List.set_cons_zero, List.set_cons_succ]
          refine wpAnyH_take (i := 3) (oi := { dst := some 30, op := _, type := _, pos := _, after := _, guard := _ }) (v := ?j0x76) rfl ?j1x76 ?j2x76 ?j3x76 ?j4x76 (Or.inl ⟨?j5x76, ?j6x76⟩) (by assumption) ?j7x76
          case j1x76 => kernel_rfl
          case j2x76 => kernel_rfl
          case j3x76 => kernel_rfl
          case j4x76 => exact fun _ _ _ h => h
          case j5x76 => kernel_rfl
          case j6x76 => intro X hSw; (try dsimp only at hSw); go_simp; all_goals (with_reducible rfl)
          simp only [Act.put, List.setIfInBounds_toArray, List.set_cons_zero, List.set_cons_succ]
          refine wpAnyH_take (i := 4) (oi := { dst := some 31, op := _, type := _, pos := _, after := _, guard := _ }) (v := ?j0x77) rfl ?j1x77 ?j2x77 ?j3x77 ?j4x77 (Or.inl ⟨?j5x77, ?j6x77⟩) (by assumption) ?j7x77
          case j1x77 => kernel_rfl
          case j2x77 => kernel_rfl
          case j3x77 => kernel_rfl
          case j4x77 => exact fun _ _ _ h => h
          case j5x77 => kernel_rfl
          case j6x77 => intro X hSw; (try dsimp only at hSw); go_simp; all_goals (with_reducible rfl)
          simp only [Act.put, List.setIfInBounds_toArray, List.set_cons_zero, List.set_cons_succ]
          refine wpAnyH_take (i := 5) (oi := { dst := some 32, op := _, type := _, pos := _, after := _, guard := _ }) (v := ?j0x78) rfl ?j1x78 ?j2x78 ?j3x78 ?j4x78 (Or.inl ⟨?j5x78, ?j6x78⟩) (by assumption) ?j7x78
          case j1x78 => kernel_rfl
          case j2x78 => kernel_rfl
          case j3x78 => kernel_rfl
          case j4x78 => exact fun _ _ _ h => h
          case j5x78 => kernel_rfl
          case j6x78 => intro X hSw; (try dsimp only at hSw); go_simp; all_goals (with_reducible rfl)
          simp only [Act.put, List.setIfInBounds_toArray, List.set_cons_zero, List.set_cons_succ]
          refine wpAnyH_take (i := 6) (oi := { dst := some 33, op := _, type := _, pos := _, after := _, guard := _ }) (v := ?j0x79) rfl ?j1x79 ?j2x79 ?j3x79 ?j4x79 (Or.inl ⟨?j5x79, ?j6x79⟩) (by assumption) ?j7x79
          case j1x79 => kernel_rfl
          case j2x79 => kernel_rfl
          case j3x79 => kernel_rfl
          case j4x79 => exact fun _ _ _ h => h
          case j5x79 => kernel_rfl
          case j6x79 => intro X hSw; (try dsimp only at hSw); go_simp; all_goals (with_reducible rfl)
          simp only [Act.put, List.setIfInBounds_toArray, List.set_cons_zero, List.set_cons_succ]
          refine wpAnyH_take (i := 7) (oi := { dst := some 34, op := _, type := _, pos := _, after := _, guard := _ }) (v := ?j0x80) rfl ?j1x80 ?j2x80 ?j3x80 ?j4x80 (Or.inl ⟨?j5x80, ?j6x80⟩) (by assumption) ?j7x80
          case j1x80 => kernel_rfl
          case j2x80 => kernel_rfl
          case j3x80 => kernel_rfl
          case j4x80 => exact fun _ _ _ h => h
          case j5x80 => kernel_rfl
          case j6x80 => intro X hSw; (try dsimp only at hSw); go_simp; all_goals (with_reducible rfl)
          simp only [Act.put, List.setIfInBounds_toArray, List.set_cons_zero, List.set_cons_succ]
          refine wpAnyH_take (i := 8) (oi := { dst := some 35, op := _, type := _, pos := _, after := _, guard := _ }) (v := ?j0x81) rfl ?j1x81 ?j2x81 ?j3x81 ?j4x81 (Or.inl ⟨?j5x81, ?j6x81⟩) (by assumption) ?j7x81
          case j1x81 => kernel_rfl
          case j2x81 => kernel_rfl
          case j3x81 => kernel_rfl
          case j4x81 => exact fun _ _ _ h => h
          case j5x81 => kernel_rfl
          case j6x81 => intro X hSw; (try dsimp only at hSw); go_simp; all_goals (with_reducible rfl)
          simp only [Act.put, List.setIfInBounds_toArray, List.set_cons_zero, List.set_cons_succ]
          refine wpAnyH_take (i := 9) (oi := { dst := some 36, op := _, type := _, pos := _, after := _, guard := _ }) (v := ?j0x82) rfl ?j1x82 ?j2x82 ?j3x82 ?j4x82 (Or.inl ⟨?j5x82, ?j6x82⟩) (by assumption) ?j7x82
          case j1x82 => kernel_rfl
          case j2x82 => kernel_rfl
          case j3x82 => kernel_rfl
          case j4x82 => exact fun _ _ _ h => h
          case j5x82 => kernel_rfl
          case j6x82 => intro X hSw; (try dsimp only at hSw); go_simp; all_goals (with_reducible rfl)
          simp only [Act.put, List.setIfInBounds_toArray, List.set_cons_zero, List.set_cons_succ]
          refine wpAnyH_take (i := 10) (oi := { dst := some 37, op := _, type := _, pos := _, after := _, guard := _ }) (v := ?j0x83) rfl ?j1x83 ?j2x83 ?j3x83 ?j4x83 (Or.inl ⟨?j5x83, ?j6x83⟩) (by assumption) ?j7x83
          case j1x83 => kernel_rfl
          case j2x83 => kernel_rfl
          case j3x83 => kernel_rfl
          case j4x83 => exact fun _ _ _ h => h
          case j5x83 => kernel_rfl
          case j6x83 => intro X hSw; (try dsimp only at hSw); go_simp; all_goals (with_reducible rfl)
          simp only [Act.put, List.setIfInBounds_toArray, List.set_cons_zero, List.set_cons_succ]
          refine wpAnyH_take (i := 11) (oi := { dst := some 38, op := _, type := _, pos := _, after := _, guard := _ }) (v := ?j0x84) rfl ?j1x84 ?j2x84 ?j3x84 ?j4x84 (Or.inl ⟨?j5x84, ?j6x84⟩) (by assumption) ?j7x84
          case j1x84 => kernel_rfl
          case j2x84 => kernel_rfl
          case j3x84 => kernel_rfl
          case j4x84 => exact fun _ _ _ h => h
          case j5x84 => kernel_rfl
          case j6x84 => intro X hSw; (try dsimp only at hSw); go_simp; all_goals (with_reducible rfl)
          simp only [Act.put, List.setIfInBounds_toArray, List.set_cons_zero, List.set_cons_succ]
          refine wpAnyH_take (i := 12) (oi := { dst := some 39, op := _, type := _, pos := _, after := _, guard := _ }) (v := ?j0x85) rfl ?j1x85 ?j2x85 ?j3x85 ?j4x85 (Or.inl ⟨?j5x85, ?j6x85⟩) (by assumption) ?j7x85
          case j1x85 => kernel_rfl
          case j2x85 => kernel_rfl
          case j3x85 => kernel_rfl
          case j4x85 => exact fun _ _ _ h => h
          case j5x85 => kernel_rfl
          case j6x85 => intro X hSw; (try dsimp only at hSw); go_simp; all_goals (with_reducible rfl)
          simp only [Act.put, List.setIfInBounds_toArray, List.set_cons_zero, List.set_cons_succ]
          refine wpAnyH_take (i := 13) (oi := { dst := some 40, op := _, type := _, pos := _, after := _, guard := _ }) (v := ?j0x86) rfl ?j1x86 ?j2x86 ?j3x86 ?j4x86 (Or.inl ⟨?j5x86, ?j6x86⟩) (by assumption) ?j7x86
          case j1x86 => kernel_rfl
          case j2x86 => kernel_rfl
          case j3x86 => kernel_rfl
          case j4x86 => exact fun _ _ _ h => h
          case j5x86 => kernel_rfl
          case j6x86 => intro X hSw; (try dsimp only at hSw); go_simp; all_goals (with_reducible rfl)
          simp only [Act.put, List.setIfInBounds_toArray, List.set_cons_zero, List.set_cons_succ]
          refine wpAnyH_ready (rs := [14]) (by kernel_rfl) (by simp) ?_
          refine AllReadyH.cons (o := { dst := some 41, op := _, type := _, pos := _, after := _, guard := _ }) rfl (fun K hK => ?_) AllReadyH.nil
          go_simp
          (go_at_call 176; (with_reducible refine (HDG.out _).mono ?_); rintro e wd ⟨rfl, rfl⟩)
          refine hK.out _ _ ?_ (fun hHeld => ?_)
          · exact hHeld
          clear hK K
          refine wpAnyH_take (i := 15) (oi := { dst := some 42, op := _, type := _, pos := _, after := _, guard := _ }) (v := ?j0x87) rfl ?j1x87 ?j2x87 ?j3x87 ?j4x87 (Or.inl ⟨?j5x87, ?j6x87⟩) (by assumption) ?j7x87
          case j1x87 => kernel_rfl
          case j2x87 => kernel_rfl
          case j3x87 => kernel_rfl
          case j4x87 => exact fun _ _ _ h => h
          case j5x87 => kernel_rfl
          case j6x87 => intro X hSw; (try dsimp only at hSw); go_simp; all_goals (with_reducible rfl)
          simp only [Act.put, List.setIfInBounds_toArray, List.set_cons_zero, List.set_cons_succ]
          refine wpAnyH_take (i := 16) (oi := { dst := some 43, op := _, type := _, pos := _, after := _, guard := _ }) (v := ?j0x88) rfl ?j1x88 ?j2x88 ?j3x88 ?j4x88 (Or.inl ⟨?j5x88, ?j6x88⟩) (by assumption) ?j7x88
          case j1x88 => kernel_rfl
          case j2x88 => kernel_rfl
          case j3x88 => kernel_rfl
          case j4x88 => exact fun _ _ _ h => h
          case j5x88 => kernel_rfl
          case j6x88 => intro X hSw; (try dsimp only at hSw); go_simp; all_goals (with_reducible rfl)
          simp only [Act.put, List.setIfInBounds_toArray, List.set_cons_zero, List.set_cons_succ]
          refine wpAnyH_take (i := 17) (oi := { dst := some 44, op := _, type := _, pos := _, after := _, guard := _ }) (v := ?j0x89) rfl ?j1x89 ?j2x89 ?j3x89 ?j4x89 (Or.inl ⟨?j5x89, ?j6x89⟩) (by assumption) ?j7x89
          case j1x89 => kernel_rfl
          case j2x89 => kernel_rfl
          case j3x89 => kernel_rfl
          case j4x89 => exact fun _ _ _ h => h
          case j5x89 => kernel_rfl
          case j6x89 => intro X hSw; (try dsimp only at hSw); go_simp; all_goals (with_reducible rfl)
          simp only [Act.put, List.setIfInBounds_toArray, List.set_cons_zero, List.set_cons_succ]
          refine wpAnyH_take (i := 18) (oi := { dst := some 45, op := _, type := _, pos := _, after := _, guard := _ }) (v := ?j0x90) rfl ?j1x90 ?j2x90 ?j3x90 ?j4x90 (Or.inl ⟨?j5x90, ?j6x90⟩) (by assumption) ?j7x90
          case j1x90 => kernel_rfl
          case j2x90 => kernel_rfl
          case j3x90 => kernel_rfl
          case j4x90 => exact fun _ _ _ h => h
          case j5x90 => kernel_rfl
          case j6x90 => intro X hSw; (try dsimp only at hSw); go_simp; all_goals (with_reducible rfl)
          simp only [Act.put, List.setIfInBounds_toArray, List.set_cons_zero, List.set_cons_succ]
          refine wpAnyH_ready (rs := [19]) (by kernel_rfl) (by simp) ?_
          refine AllReadyH.cons (o := { dst := some 46, op := _, type := _, pos := _, after := _, guard := _ }) rfl (fun K hK => ?_) AllReadyH.nil
          go_simp
          (go_at_call 24; (with_reducible refine (HIS.out _ (HSB.out _ hHeld)).mono ?_); rintro e wi ⟨rfl, hBi⟩)
          refine hK.out _ _ ?_ (fun hHeld => ?_)
          · exact HK.out _ ((HSB.out _ hHeld).trans (hBi.mono (HSB.out _ hHeld).size))
          clear hK K
          refine wpAnyH_take (i := 20) (oi := { dst := some 47, op := _, type := _, pos := _, after := _, guard := _ }) (v := ?j0x91) rfl ?j1x91 ?j2x91 ?j3x91 ?j4x91 (Or.inl ⟨?j5x91, ?j6x91⟩) (by assumption) ?j7x91
          case j1x91 => kernel_rfl
          case j2x91 => kernel_rfl
          case j3x91 => kernel_rfl
          case j4x91 => exact fun _ _ _ h => h
          case j5x91 => kernel_rfl
          case j6x91 => intro X hSw; (try dsimp only at hSw); go_simp; all_goals (with_reducible rfl)
          simp only [Act.put, List.setIfInBounds_toArray, List.set_cons_zero, List.set_cons_succ]
          refine wpAnyH_take (i := 21) (oi := { dst := some 48, op := _, type := _, pos := _, after := _, guard := _ }) (v := ?j0x92) rfl ?j1x92 ?j2x92 ?j3x92 ?j4x92 (Or.inl ⟨?j5x92, ?j6x92⟩) (by assumption) ?j7x92
          case j1x92 => kernel_rfl
          case j2x92 => kernel_rfl
          case j3x92 => kernel_rfl
          case j4x92 => exact fun _ _ _ h => h
          case j5x92 => kernel_rfl
          case j6x92 => intro X hSw; (try dsimp only at hSw); go_simp; all_goals (with_reducible rfl)
          simp only [Act.put, List.setIfInBounds_toArray, List.set_cons_zero, List.set_cons_succ]
          refine wpAnyH_take (i := 22) (oi := { dst := some 49, op := _, type := _, pos := _, after := _, guard := _ }) (v := ?j0x93) rfl ?j1x93 ?j2x93 ?j3x93 ?j4x93 (Or.inl ⟨?j5x93, ?j6x93⟩) (by assumption) ?j7x93
          case j1x93 => kernel_rfl
          case j2x93 => kernel_rfl
          case j3x93 => kernel_rfl
          case j4x93 => exact fun _ _ _ h => h
          case j5x93 => kernel_rfl
          case j6x93 => intro X hSw; (try dsimp only at hSw); go_simp; all_goals (with_reducible rfl)
          simp only [Act.put, List.setIfInBounds_toArray, List.set_cons_zero, List.set_cons_succ]
          refine wpAnyH_take (i := 23) (oi := { dst := some 50, op := _, type := _, pos := _, after := _, guard := _ }) (v := ?j0x94) rfl ?j1x94 ?j2x94 ?j3x94 ?j4x94 (Or.inl ⟨?j5x94, ?j6x94⟩) (by assumption) ?j7x94
          case j1x94 => kernel_rfl
          case j2x94 => kernel_rfl
          case j3x94 => kernel_rfl
          case j4x94 => exact fun _ _ _ h => h
          case j5x94 => kernel_rfl
          case j6x94 => intro X hSw; (try dsimp only at hSw); go_simp; all_goals (with_reducible rfl)
          simp only [Act.put, List.setIfInBounds_toArray, List.set_cons_zero, List.set_cons_succ]
          refine wpAnyH_take (i := 24) (oi := { dst := some 51, op := _, type := _, pos := _, after := _, guard := _ }) (v := ?j0x95) rfl ?j1x95 ?j2x95 ?j3x95 ?j4x95 (Or.inl ⟨?j5x95, ?j6x95⟩) (by assumption) ?j7x95
          case j1x95 => kernel_rfl
          case j2x95 => kernel_rfl
          case j3x95 => kernel_rfl
          case j4x95 => exact fun _ _ _ h => h
          case j5x95 => kernel_rfl
          case j6x95 => intro X hSw; (try dsimp only at hSw); go_simp; all_goals (with_reducible rfl)
          simp only [Act.put, List.setIfInBounds_toArray, List.set_cons_zero, List.set_cons_succ]
          refine wpAnyH_done (by kernel_rfl) ?_ _
          clear hb45 hb45'
          have hbn := HSB.out _ hHeld
          have hXn := Lib.hid (hXR.out.call hbn)
          have HOn := Lib.hid (HOR.out.below hbn)
          have hgn := hHeld.2.1
          have hbb0 := hXn.out.bel
          clear hHeld
          have HINC := Lib.hid (r_inO _ HOn.out (by have := HPN.out; omega))
          clear HOn hgn
          go_wp2_with fail
          refine HINC.out.mono ?_; rintro e w5 ⟨v5, rfl, hB5, hO5⟩
          obtain ⟨g5, c5, rfl, hg5, _⟩ := own_hd hO5 (by simp [brk]) rfl
          obtain ⟨sb, HSBE⟩ : ∃ sb, Hid (sb = hd (brk P true)) := ⟨_, Lib.hid rfl⟩
          have e1' : sb.toList = [40] := by rw [HSBE.out, show hd (brk P true) = ⟨#[40]⟩ from rfl]; decide +kernel
          have e1 : (sb.toList == [40]) = true := by rw [e1']; rfl
          rw [← HSBE.out] at hg5
          have hX5 := Lib.hid (hXn.out.call hB5)
          have HO5 := Lib.hid (hO5.mono hbb0.size)
          have hbb := hX5.out.bel
          have hop0 := hX5.out.ob.c0
          clear hO5 HINC hXn hbn hbb0
          have HSP : Hid (spcW op.name (brk P true) = true) := Lib.hid (by rw [HSPC.out, ← HSBE.out, e1']; rfl)
          clear HSBE
          have hp6 : (brk P true).length ≤ 60000 := by have := HPN.out; have := brk_le P true; omega
          have hp5 : 0 < (brk P true).length := by simp [brk]
          have HV : Hid (RES = [s1 32] ++ brk P true) := Lib.hid (by
            rw [HRES.out, show (true && (true && (true && !false))) = true from rfl, HSP.out]; rfl)
          clear HRES HSP
          generalize brk P true = L at *
          obtain ⟨N, HN⟩ : ∃ N, Hid (L.length = N) := ⟨_, Lib.hid rfl⟩
          rw [HN.out] at HO5 hp6 hp5 ⊢
          have hn0 : (0 : Int) < (N : Int) := by omega
          generalize op.name = onm at *
          have H1 := Lib.hid (OwnS.one 9 w5 (s1 32))
          unfold s1 at H1
          have hBL := (Below.refl w5.heap.size w5).alloc (Nat.le_refl _) (.cells #[.string ⟨#[32]⟩] 9)
          have hszL := hBL.size
          obtain ⟨A7, cp7, he7, hsrc⟩ := (HO5.out.below hBL).src
          injection he7 with he7 hl7 hc7
          subst he7 hc7
          clear hl7
          rw [HN.out] at hsrc
          have HSRC := Lib.hid hsrc
          clear hsrc
          go_wp2_with ((with_reducible refine at_appSS ?_); go_must (refine wpList_append_row rfl _ _ 28 9 rfl Tryz.underlying28 _ 1 16 infoStr rfl (by decide) w5.heap.size _ _ _ rfl H1.out _ _ c5 _ rfl HSRC.out (strs_one _) (by simp; omega) (by simp; omega) hszL w5 hBL ?_; intro v7 w7 ho7 hB7 hg7))
          go_ret
          refine ⟨v7, rfl, hbb.trans (hB7.mono hbb.size), ?_⟩
          rw [HV.out]
          refine OwnS.mono ?_ hbb.size
          unfold OwnS
          have e1 : ([s1 32] ++ L).length = [s1 32].length + N := by rw [List.length_append, HN.out]
          have e2 : ([s1 32] ++ L).map Value.string = [s1 32].map Value.string ++ (L).map Value.string := by simp
          rw [e1, e2]; exact ho7
        · skip
          refine wp_region_held_drew (S := (fun X => X.cell? ⟨w.heap.size, 0, none⟩ = some (.slice TA TN TC) ∧ X.cell? ⟨g, 0, none⟩ = some (.string s) ∧ Below wR.heap.size wR X)) (by kernel_rfl) (HK.out _ (Below.refl _ _).drew) (fun hHeld => ?_)
          refine wpAnyH_take (i := 0) (oi := { dst := some 27, op := _, type := _, pos := _, after := _, guard := _ }) (v := ?j0x96) rfl ?j1x96 ?j2x96 ?j3x96 ?j4x96 (Or.inl ⟨?j5x96, ?j6x96⟩) (by assumption) ?j7x96
          case j1x96 => kernel_rfl
          case j2x96 => kernel_rfl
          case j3x96 => kernel_rfl
          case j4x96 => exact fun _ _ _ h => h
          case j5x96 => kernel_rfl
          case j6x96 => intro X hSw; (try dsimp only at hSw); go_simp; all_goals (with_reducible rfl)
          simp only [Act.put, List.setIfInBounds_toArray, List.set_cons_zero, List.set_cons_succ]
          refine wpAnyH_take (i := 1) (oi := { dst := some 28, op := _, type := _, pos := _, after := _, guard := _ }) (v := ?j0x97) rfl ?j1x97 ?j2x97 ?j3x97 ?j4x97 (Or.inl ⟨?j5x97, ?j6x97⟩) (by assumption) ?j7x97
          case j1x97 => kernel_rfl
          case j2x97 => kernel_rfl
          case j3x97 => kernel_rfl
          case j4x97 => exact fun _ _ _ h => h
          case j5x97 => kernel_rfl
          case j6x97 => intro X hSw; (try dsimp only at hSw); go_simp; all_goals (with_reducible rfl)
          simp only [Act.put, List.setIfInBounds_toArray, List.set_cons_zero, List.set_cons_succ]
          refine wpAnyH_take (i := 2) (oi := { dst := some 29, op := _, type := _, pos := _, after := _, guard := _ }) (v := ?j0x98) rfl ?j1x98 ?j2x98 ?j3x98 ?j4x98 (Or.inl ⟨?j5x98, ?j6x98⟩) (by assumption) ?j7x98
          case j1x98 => kernel_rfl
          case j2x98 => kernel_rfl
          case j3x98 => kernel_rfl
          case j4x98 => exact fun _ _ _ h => h
          case j5x98 => kernel_rfl
          case j6x98 => intro X hSw; (try dsimp only at hSw); go_simp; all_goals (with_reducible rfl)
          simp only [Act.put, List.setIfInBounds_toArray, List.set_cons_zero, List.set_cons_succ]
          refine wpAnyH_take (i := 3) (oi := { dst := some 30, op := _, type := _, pos := _, after := _, guard := _ }) (v := ?j0x99) rfl ?j1x99 ?j2x99 ?j3x99 ?j4x99 (Or.inl ⟨?j5x99, ?j6x99⟩) (by assumption) ?j7x99
          case j1x99 => kernel_rfl
          case j2x99 => kernel_rfl
          case j3x99 => kernel_rfl
          case j4x99 => exact fun _ _ _ h => h
          case j5x99 => kernel_rfl
          case j6x99 => intro X hSw; (try dsimp only at hSw); go_simp; all_goals (with_reducible rfl)
          simp only [Act.put, List.setIfInBounds_toArray, List.set_cons_zero, List.set_cons_succ]
          refine wpAnyH_take (i := 4) (oi := { dst := some 31, op := _, type := _, pos := _, after := _, guard := _ }) (v := ?j0x100) rfl ?j1x100 ?j2x100 ?j3x100 ?j4x100 (Or.inl ⟨?j5x100, ?j6x100⟩) (by assumption) ?j7x100
          case j1x100 => kernel_rfl
          case j2x100 => kernel_rfl
          case j3x100 => kernel_rfl
          case j4x100 => exact fun _ _ _ h => h
          case j5x100 => kernel_rfl
          case j6x100 => intro X hSw; (try dsimp only at hSw); go_simp; all_goals (with_reducible rfl)
          simp only [Act.put, List.setIfInBounds_toArray, List.set_cons_zero, List.set_cons_succ]
          refine wpAnyH_take (i := 5) (oi := { dst := some 32, op := _, type := _, pos := _, after := _, guard := _ }) (v := ?j0x101) rfl ?j1x101 ?j2x101 ?j3x101 ?j4x101 (Or.inl ⟨?j5x101, ?j6x101⟩) (by assumption) ?j7x101
          case j1x101 => kernel_rfl
          case j2x101 => kernel_rfl
          case j3x101 => kernel_rfl
          case j4x101 => exact fun _ _ _ h => h
          case j5x101 => kernel_rfl
          case j6x101 => intro X hSw; (try dsimp only at hSw); go_simp; all_goals (with_reducible rfl)
          simp only [Act.put, List.setIfInBounds_toArray, List.set_cons_zero, List.set_cons_succ]
          refine wpAnyH_take (i := 6) (oi := { dst := some 33, op := _, type := _, pos := _, after := _, guard := _ }) (v := ?j0x102) rfl ?j1x102 ?j2x102 ?j3x102 ?j4x102 (Or.inl ⟨?j5x102, ?j6x102⟩) (by assumption) ?j7x102
          case j1x102 => kernel_rfl
          case j2x102 => kernel_rfl
          case j3x102 => kernel_rfl
          case j4x102 => exact fun _ _ _ h => h
          case j5x102 => kernel_rfl
          case j6x102 => intro X hSw; (try dsimp only at hSw); go_simp; all_goals (with_reducible rfl)
          simp only [Act.put, List.setIfInBounds_toArray, List.set_cons_zero, List.set_cons_succ]
          refine wpAnyH_take (i := 7) (oi := { dst := some 34, op := _, type := _, pos := _, after := _, guard := _ }) (v := ?j0x103) rfl ?j1x103 ?j2x103 ?j3x103 ?j4x103 (Or.inl ⟨?j5x103, ?j6x103⟩) (by assumption) ?j7x103
          case j1x103 => kernel_rfl
          case j2x103 => kernel_rfl
          case j3x103 => kernel_rfl
          case j4x103 => exact fun _ _ _ h => h
          case j5x103 => kernel_rfl
          case j6x103 => intro X hSw; (try dsimp only at hSw); go_simp; all_goals (with_reducible rfl)
          simp only [Act.put, List.setIfInBounds_toArray, List.set_cons_zero, List.set_cons_succ]
          refine wpAnyH_take (i := 8) (oi := { dst := some 35, op := _, type := _, pos := _, after := _, guard := _ }) (v := ?j0x104) rfl ?j1x104 ?j2x104 ?j3x104 ?j4x104 (Or.inl ⟨?j5x104, ?j6x104⟩) (by assumption) ?j7x104
          case j1x104 => kernel_rfl
          case j2x104 => kernel_rfl
          case j3x104 => kernel_rfl
          case j4x104 => exact fun _ _ _ h => h
          case j5x104 => kernel_rfl
          case j6x104 => intro X hSw; (try dsimp only at hSw); go_simp; all_goals (with_reducible rfl)
          simp only [Act.put, List.setIfInBounds_toArray, List.set_cons_zero, List.set_cons_succ]
          refine wpAnyH_take (i := 9) (oi := { dst := some 36, op := _, type := _, pos := _, after := _, guard := _ }) (v := ?j0x105) rfl ?j1x105 ?j2x105 ?j3x105 ?j4x105 (Or.inl ⟨?j5x105, ?j6x105⟩) (by assumption) ?j7x105
          case j1x105 => kernel_rfl
          case j2x105 => kernel_rfl
          case j3x105 => kernel_rfl
          case j4x105 => exact fun _ _ _ h => h
          case j5x105 => kernel_rfl
          case j6x105 => intro X hSw; (try dsimp only at hSw); go_simp; all_goals (with_reducible rfl)
          simp only [Act.put, List.setIfInBounds_toArray, List.set_cons_zero, List.set_cons_succ]
          refine wpAnyH_take (i := 10) (oi := { dst := some 37, op := _, type := _, pos := _, after := _, guard := _ }) (v := ?j0x106) rfl ?j1x106 ?j2x106 ?j3x106 ?j4x106 (Or.inl ⟨?j5x106, ?j6x106⟩) (by assumption) ?j7x106
          case j1x106 => kernel_rfl
          case j2x106 => kernel_rfl
          case j3x106 => kernel_rfl
          case j4x106 => exact fun _ _ _ h => h
          case j5x106 => kernel_rfl
          case j6x106 => intro X hSw; (try dsimp only at hSw); go_simp; all_goals (with_reducible rfl)
          simp only [Act.put, List.setIfInBounds_toArray, List.set_cons_zero, List.set_cons_succ]
          refine wpAnyH_take (i := 11) (oi := { dst := some 38, op := _, type := _, pos := _, after := _, guard := _ }) (v := ?j0x107) rfl ?j1x107 ?j2x107 ?j3x107 ?j4x107 (Or.inl ⟨?j5x107, ?j6x107⟩) (by assumption) ?j7x107
          case j1x107 => kernel_rfl
          case j2x107 => kernel_rfl
          case j3x107 => kernel_rfl
          case j4x107 => exact fun _ _ _ h => h
          case j5x107 => kernel_rfl
          case j6x107 => intro X hSw; (try dsimp only at hSw); go_simp; all_goals (with_reducible rfl)
          simp only [Act.put, List.setIfInBounds_toArray, List.set_cons_zero, List.set_cons_succ]
          refine wpAnyH_take (i := 12) (oi := { dst := some 39, op := _, type := _, pos := _, after := _, guard := _ }) (v := ?j0x108) rfl ?j1x108 ?j2x108 ?j3x108 ?j4x108 (Or.inl ⟨?j5x108, ?j6x108⟩) (by assumption) ?j7x108
          case j1x108 => kernel_rfl
          case j2x108 => kernel_rfl
          case j3x108 => kernel_rfl
          case j4x108 => exact fun _ _ _ h => h
          case j5x108 => kernel_rfl
          case j6x108 => intro X hSw; (try dsimp only at hSw); go_simp; all_goals (with_reducible rfl)
          simp only [Act.put, List.setIfInBounds_toArray, List.set_cons_zero, List.set_cons_succ]
          refine wpAnyH_take (i := 13) (oi := { dst := some 40, op := _, type := _, pos := _, after := _, guard := _ }) (v := ?j0x109) rfl ?j1x109 ?j2x109 ?j3x109 ?j4x109 (Or.inl ⟨?j5x109, ?j6x109⟩) (by assumption) ?j7x109
          case j1x109 => kernel_rfl
          case j2x109 => kernel_rfl
          case j3x109 => kernel_rfl
          case j4x109 => exact fun _ _ _ h => h
          case j5x109 => kernel_rfl
          case j6x109 => intro X hSw; (try dsimp only at hSw); go_simp; all_goals (with_reducible rfl)
          simp only [Act.put, List.setIfInBounds_toArray, List.set_cons_zero, List.set_cons_succ]
          refine wpAnyH_ready (rs := [14]) (by kernel_rfl) (by simp) ?_
          refine AllReadyH.cons (o := { dst := some 41, op := _, type := _, pos := _, after := _, guard := _ }) rfl (fun K hK => ?_) AllReadyH.nil
          go_simp
          (go_at_call 176; (with_reducible refine (HDG.out _).mono ?_); rintro e wd ⟨rfl, rfl⟩)
          refine hK.out _ _ ?_ (fun hHeld => ?_)
          · exact hHeld
          clear hK K
          refine wpAnyH_take (i := 15) (oi := { dst := some 42, op := _, type := _, pos := _, after := _, guard := _ }) (v := ?j0x110) rfl ?j1x110 ?j2x110 ?j3x110 ?j4x110 (Or.inl ⟨?j5x110, ?j6x110⟩) (by assumption) ?j7x110
          case j1x110 => kernel_rfl
          case j2x110 => kernel_rfl
          case j3x110 => kernel_rfl
          case j4x110 => exact fun _ _ _ h => h
          case j5x110 => kernel_rfl
          case j6x110 => intro X hSw; (try dsimp only at hSw); go_simp; all_goals (with_reducible rfl)
          simp only [Act.put, List.setIfInBounds_toArray, List.set_cons_zero, List.set_cons_succ]
          refine wpAnyH_take (i := 16) (oi := { dst := some 43, op := _, type := _, pos := _, after := _, guard := _ }) (v := ?j0x111) rfl ?j1x111 ?j2x111 ?j3x111 ?j4x111 (Or.inl ⟨?j5x111, ?j6x111⟩) (by assumption) ?j7x111
          case j1x111 => kernel_rfl
          case j2x111 => kernel_rfl
          case j3x111 => kernel_rfl
          case j4x111 => exact fun _ _ _ h => h
          case j5x111 => kernel_rfl
          case j6x111 => intro X hSw; (try dsimp only at hSw); go_simp; all_goals (with_reducible rfl)
          simp only [Act.put, List.setIfInBounds_toArray, List.set_cons_zero, List.set_cons_succ]
          refine wpAnyH_take (i := 17) (oi := { dst := some 44, op := _, type := _, pos := _, after := _, guard := _ }) (v := ?j0x112) rfl ?j1x112 ?j2x112 ?j3x112 ?j4x112 (Or.inl ⟨?j5x112, ?j6x112⟩) (by assumption) ?j7x112
          case j1x112 => kernel_rfl
          case j2x112 => kernel_rfl
          case j3x112 => kernel_rfl
          case j4x112 => exact fun _ _ _ h => h
          case j5x112 => kernel_rfl
          case j6x112 => intro X hSw; (try dsimp only at hSw); go_simp; all_goals (with_reducible rfl)
          simp only [Act.put, List.setIfInBounds_toArray, List.set_cons_zero, List.set_cons_succ]
          refine wpAnyH_take (i := 18) (oi := { dst := some 45, op := _, type := _, pos := _, after := _, guard := _ }) (v := ?j0x113) rfl ?j1x113 ?j2x113 ?j3x113 ?j4x113 (Or.inl ⟨?j5x113, ?j6x113⟩) (by assumption) ?j7x113
          case j1x113 => kernel_rfl
          case j2x113 => kernel_rfl
          case j3x113 => kernel_rfl
          case j4x113 => exact fun _ _ _ h => h
          case j5x113 => kernel_rfl
          case j6x113 => intro X hSw; (try dsimp only at hSw); go_simp; all_goals (with_reducible rfl)
          simp only [Act.put, List.setIfInBounds_toArray, List.set_cons_zero, List.set_cons_succ]
          refine wpAnyH_ready (rs := [19]) (by kernel_rfl) (by simp) ?_
          refine AllReadyH.cons (o := { dst := some 46, op := _, type := _, pos := _, after := _, guard := _ }) rfl (fun K hK => ?_) AllReadyH.nil
          go_simp
          (go_at_call 24; (with_reducible refine (HIS.out _ (HSB.out _ hHeld)).mono ?_); rintro e wi ⟨rfl, hBi⟩)
          refine hK.out _ _ ?_ (fun hHeld => ?_)
          · exact HK.out _ ((HSB.out _ hHeld).trans (hBi.mono (HSB.out _ hHeld).size))
          clear hK K
          refine wpAnyH_take (i := 20) (oi := { dst := some 47, op := _, type := _, pos := _, after := _, guard := _ }) (v := ?j0x114) rfl ?j1x114 ?j2x114 ?j3x114 ?j4x114 (Or.inl ⟨?j5x114, ?j6x114⟩) (by assumption) ?j7x114
          case j1x114 => kernel_rfl
          case j2x114 => kernel_rfl
          case j3x114 => kernel_rfl
          case j4x114 => exact fun _ _ _ h => h
          case j5x114 => kernel_rfl
          case j6x114 => intro X hSw; (try dsimp only at hSw); go_simp; all_goals (with_reducible rfl)
          simp only [Act.put, List.setIfInBounds_toArray, List.set_cons_zero, List.set_cons_succ]
          refine wpAnyH_take (i := 21) (oi := { dst := some 48, op := _, type := _, pos := _, after := _, guard := _ }) (v := ?j0x115) rfl ?j1x115 ?j2x115 ?j3x115 ?j4x115 (Or.inl ⟨?j5x115, ?j6x115⟩) (by assumption) ?j7x115
          case j1x115 => kernel_rfl
          case j2x115 => kernel_rfl
          case j3x115 => kernel_rfl
          case j4x115 => exact fun _ _ _ h => h
          case j5x115 => kernel_rfl
          case j6x115 => intro X hSw; (try dsimp only at hSw); go_simp; all_goals (with_reducible rfl)
          simp only [Act.put, List.setIfInBounds_toArray, List.set_cons_zero, List.set_cons_succ]
          refine wpAnyH_take (i := 22) (oi := { dst := some 49, op := _, type := _, pos := _, after := _, guard := _ }) (v := ?j0x116) rfl ?j1x116 ?j2x116 ?j3x116 ?j4x116 (Or.inl ⟨?j5x116, ?j6x116⟩) (by assumption) ?j7x116
          case j1x116 => kernel_rfl
          case j2x116 => kernel_rfl
          case j3x116 => kernel_rfl
          case j4x116 => exact fun _ _ _ h => h
          case j5x116 => kernel_rfl
          case j6x116 => intro X hSw; (try dsimp only at hSw); go_simp; all_goals (with_reducible rfl)
          simp only [Act.put, List.setIfInBounds_toArray, List.set_cons_zero, List.set_cons_succ]
          refine wpAnyH_take (i := 23) (oi := { dst := some 50, op := _, type := _, pos := _, after := _, guard := _ }) (v := ?j0x117) rfl ?j1x117 ?j2x117 ?j3x117 ?j4x117 (Or.inl ⟨?j5x117, ?j6x117⟩) (by assumption) ?j7x117
          case j1x117 => kernel_rfl
          case j2x117 => kernel_rfl
          case j3x117 => kernel_rfl
          case j4x117 => exact fun _ _ _ h => h
          case j5x117 => kernel_rfl
          case j6x117 => intro X hSw; (try dsimp only at hSw); go_simp; all_goals (with_reducible rfl)
          simp only [Act.put, List.setIfInBounds_toArray, List.set_cons_zero, List.set_cons_succ]
          refine wpAnyH_take (i := 24) (oi := { dst := some 51, op := _, type := _, pos := _, after := _, guard := _ }) (v := ?j0x118) rfl ?j1x118 ?j2x118 ?j3x118 ?j4x118 (Or.inl ⟨?j5x118, ?j6x118⟩) (by assumption) ?j7x118
          case j1x118 => kernel_rfl
          case j2x118 => kernel_rfl
          case j3x118 => kernel_rfl
          case j4x118 => exact fun _ _ _ h => h
          case j5x118 => kernel_rfl
          case j6x118 => intro X hSw; (try dsimp only at hSw); go_simp; all_goals (with_reducible rfl)
          simp only [Act.put, List.setIfInBounds_toArray, List.set_cons_zero, List.set_cons_succ]
          refine wpAnyH_done (by kernel_rfl) ?_ _
          clear hb45 hb45'
          have hbn := HSB.out _ hHeld
          have hXn := Lib.hid (hXR.out.call hbn)
          have HOn := Lib.hid (HOR.out.below hbn)
          have hgn := hHeld.2.1
          have hbb0 := hXn.out.bel
          clear hHeld
          have hbb := hbb0
          have hop0 := hXn.out.ob.c0
          have HN : Hid (P.length = PN) := Lib.hid HPN.out.symm
          have HON := Lib.hid (HOn.out.mono hszw)
          have HSP : Hid (spcW op.name P = (s.toList == [40] || (op.name.toList == [45] && digW s 0))) := Lib.hid (by rw [HSPC.out, HS.out])
          have HD0 : Hid (∀ W, Calls Tryz.prog 176 #[.string s, .int .i64 0] W fun e w' => e = .returned (.bool (digW s 0)) ∧ W = w') := Lib.hid (fun W => r_digit s 0 W (by unfold maxLen; omega) (by decide))
          have hn0 : (0 : Int) < (PN : Int) := by omega
          have HV0 : Hid (RES = (if spcW op.name P = true then [s1 32] else []) ++ P) := Lib.hid (by rw [HRES.out]; simp [brk])
          clear hbb0 hbn HOn HRES
          generalize op.name = onm at *
          cases e1 : (s.toList == [40])
          · have e1' : ¬ s.toList = [40] := by simpa using e1
            rw [e1] at HSP
            cases e2 : (onm.toList == [45])
            · have e2' : ¬ onm.toList = [45] := by simpa using e2
              rw [e2] at HSP
              have HV : Hid (RES = P) := Lib.hid (by rw [HV0.out, HSP.out]; rfl)
              go_wp2_with fail
              go_ret
              exact ⟨_, rfl, hbb, by rw [HV.out]; have h := HON.out; unfold OwnS at h ⊢; exact h⟩
            · have e2' : onm.toList = [45] := by simpa using e2
              rw [e2] at HSP
              cases e3 : digW s 0
              · rw [e3] at HSP HD0
                have HV : Hid (RES = P) := Lib.hid (by rw [HV0.out, HSP.out]; rfl)
                clear e3
                go_wp2_with fail
                refine (HD0.out _).mono ?_; rintro e w6 ⟨rfl, rfl⟩
                go_wp2_with fail
                go_ret
                exact ⟨_, rfl, hbb, by rw [HV.out]; have h := HON.out; unfold OwnS at h ⊢; exact h⟩
              · rw [e3] at HSP HD0
                have HV : Hid (RES = [s1 32] ++ P) := Lib.hid (by rw [HV0.out, HSP.out]; rfl)
                clear e3
                go_wp2_with fail
                refine (HD0.out _).mono ?_; rintro e w6 ⟨rfl, rfl⟩
                have H1 := Lib.hid (OwnS.one 9 wi (s1 32))
                unfold s1 at H1
                have hBL := (Below.refl wi.heap.size wi).alloc (Nat.le_refl _) (.cells #[.string ⟨#[32]⟩] 9)
                have hszL := hBL.size
                obtain ⟨A7, cp7, he7, hsrc⟩ := (HON.out.below hBL).src
                injection he7 with he7 hl7 hc7
                subst he7 hc7
                clear hl7
                rw [HN.out] at hsrc
                have HSRC := Lib.hid hsrc
                clear hsrc
                go_wp2_with ((with_reducible refine at_appSS ?_); go_must (refine wpList_append_row rfl _ _ 28 9 rfl Tryz.underlying28 _ 1 16 infoStr rfl (by decide) wi.heap.size _ _ _ rfl H1.out _ _ c2 _ rfl HSRC.out (strs_one _) (by simp; omega) (by simp; omega) hszL wi hBL ?_; intro v7 w7 ho7 hB7 hg7))
                go_ret
                refine ⟨v7, rfl, hbb.trans (hB7.mono hbb.size), ?_⟩
                rw [HV.out]
                refine OwnS.mono ?_ hbb.size
                unfold OwnS
                have e1 : ([s1 32] ++ P).length = [s1 32].length + PN := by rw [List.length_append, HN.out]
                have e2 : ([s1 32] ++ P).map Value.string = [s1 32].map Value.string ++ (P).map Value.string := by simp
                rw [e1, e2]; exact ho7
          · have e1' : s.toList = [40] := by simpa using e1
            rw [e1] at HSP
            have HV : Hid (RES = [s1 32] ++ P) := Lib.hid (by rw [HV0.out, HSP.out]; rfl)
            have H1 := Lib.hid (OwnS.one 9 wi (s1 32))
            unfold s1 at H1
            have hBL := (Below.refl wi.heap.size wi).alloc (Nat.le_refl _) (.cells #[.string ⟨#[32]⟩] 9)
            have hszL := hBL.size
            obtain ⟨A7, cp7, he7, hsrc⟩ := (HON.out.below hBL).src
            injection he7 with he7 hl7 hc7
            subst he7 hc7
            clear hl7
            rw [HN.out] at hsrc
            have HSRC := Lib.hid hsrc
            clear hsrc
            go_wp2_with ((with_reducible refine at_appSS ?_); go_must (refine wpList_append_row rfl _ _ 28 9 rfl Tryz.underlying28 _ 1 16 infoStr rfl (by decide) wi.heap.size _ _ _ rfl H1.out _ _ c2 _ rfl HSRC.out (strs_one _) (by simp; omega) (by simp; omega) hszL wi hBL ?_; intro v7 w7 ho7 hB7 hg7))
            go_ret
            refine ⟨v7, rfl, hbb.trans (hB7.mono hbb.size), ?_⟩
            rw [HV.out]
            refine OwnS.mono ?_ hbb.size
            unfold OwnS
            have e1 : ([s1 32] ++ P).length = [s1 32].length + PN := by rw [List.length_append, HN.out]
            have e2 : ([s1 32] ++ P).map Value.string = [s1 32].map Value.string ++ (P).map Value.string := by simp
            rw [e1, e2]; exact ho7
end Go.Proofs.YtgapnafkelokaaaGreatDoor
