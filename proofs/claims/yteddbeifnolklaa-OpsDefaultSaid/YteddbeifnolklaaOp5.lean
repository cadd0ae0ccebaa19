/- Operators: Valid. -/
import Derived.Test.YteddbeifnolklaaOp4
namespace Hb
theorem okJ_1 (l : List OpR) (k : Nat) (hk : k < l.length) (h : opOk l[k] = false) : okJ l k = false := by unfold okJ; rw [getD_at l k hk, h]; rfl
theorem okJ_0 (l : List OpR) (k : Nat) (hk : k < l.length) (h0 : k = 0) (h : opOk l[k] = true) : okJ l k = true := by subst h0; unfold okJ; rw [getD_at l 0 hk, h]; rfl
theorem okJ_s (l : List OpR) (k : Nat) (hk : k < l.length) (h0 : 0 < k) (h : opOk l[k] = true) : okJ l k = opLt (l[k - 1]'(by omega)) l[k] := by
  unfold okJ; rw [getD_at l k hk, getD_at l (k - 1) (by omega), h]
  have : (k == 0) = false := by simp; omega
  rw [this]; rfl
end Hb
namespace Go.Proofs.Yteddbeifnolklaa
open Go.RowKit Hb
set_option maxRecDepth 100000
set_option maxHeartbeats 3200000 in
theorem ops_valid (A : Option Addr) (n cap : Nat) (l : List OpR) (w : World) (hn : n = l.length) (hm : n ≤ 400) (hp : OpsAt w A l) :
    Calls Try.prog 14 #[.slice A n cap] w fun e w' => e = .returned (.bool (opsValid l)) ∧ Below w.heap.size w w' := by
  by_cases c1 : 100 < n
  · have b1 : decide ((100 : Int) < n) = true := by simp; omega
    have HV := Lib.hid (opsValid_long l (by omega))
    clear hn hp c1
    go_enter Try.func14, Try.ntmps14
    go_wp2_with fail
    go_ret
    exact ⟨ret_bool HV.out.symm, Below.refl _ _⟩
  have b1 : decide ((100 : Int) < n) = false := by simp; omega
  have h100 : n ≤ 100 := by omega
  have HN := Lib.hid hn
  have HP := Lib.hid hp
  clear hn hp c1
  go_enter Try.func14, Try.ntmps14
  go_wp2_with fail
  go_loopw [11] (fun i wr => ∃ k : Nat, k ≤ n ∧ i = .int .i64 k ∧ Below w.heap.size w wr ∧ Hid (∀ j, j < k → okJ l j = true)) (fun i _ => n - (intOf i).toNat)
  case atStart => exact ⟨0, Nat.zero_le _, rfl, Below.refl _ _, fun j hj => absurd hj (by omega)⟩
  case round =>
    obtain ⟨k, hk, rfl, hB, HA⟩ := hrel
    by_cases hlt : k < n
    · have hbs := hB.size
      have hkl : k < l.length := by have := HN.out; omega
      obtain ⟨b, off, rfl, hb, c0, c1, c2⟩ := (HP.out.below hB) k hkl
      have hprev : 0 < k → wr.cell? ⟨b, off + (k - 1) * 3, none⟩ = some (.string (l[k - 1]'(by omega)).name) ∧ wr.cell? ⟨b, off + (k - 1) * 3 + 1, none⟩ = some (.int .i64 (l[k - 1]'(by omega)).typ) ∧ wr.cell? ⟨b, off + (k - 1) * 3 + 2, none⟩ = some (.int .i64 (l[k - 1]'(by omega)).prec) := fun h0 => by
        obtain ⟨b', off', e', _, d0, d1, d2⟩ := (HP.out.below hB) (k - 1) (by omega)
        injection e' with e'
        injection e' with e1 e2 _
        subst e1 e2
        exact ⟨d0, d1, d2⟩
      have HPr := Lib.hid hprev
      have J1 := Lib.hid (okJ_1 l k hkl)
      have J0 := Lib.hid (okJ_0 l k hkl)
      have JS := Lib.hid (okJ_s l k hkl)
      have HNO := Lib.hid (opsValid_no l k hkl)
      generalize l[k] = o at *
      have hX := BoxAt.start wr o 34
      clear hprev
      cases hok : opOk o
      · have HO := Lib.hid hok
        have HW := Lib.hid (op_valid o (wr.alloc (.cells #[.string o.name, .int .i64 o.typ, .int .i64 o.prec] 34)))
        rw [hok] at HW
        clear hok
        unfold opV at HW
        go_wp2_with fail
        refine HW.out.mono ?_; rintro e w1 ⟨rfl, hB1⟩
        go_wp2_with fail
        go_ret
        exact ⟨ret_bool (HNO.out (J1.out HO.out)).symm, hB.trans ((hX.call hB1).bel.mono hbs)⟩
      · have HO := Lib.hid hok
        have HW := Lib.hid (op_valid o (wr.alloc (.cells #[.string o.name, .int .i64 o.typ, .int .i64 o.prec] 34)))
        rw [hok] at HW
        clear hok
        unfold opV at HW
        by_cases h0 : k = 0
        · have b0 : ((k : Int) == 0) = true := by simp [h0]
          have HJ := Lib.hid (J0.out h0 HO.out)
          clear h0
          go_wp2_with fail
          refine HW.out.mono ?_; rintro e w1 ⟨rfl, hB1⟩
          go_wp2_with fail
          go_roundw
          case rel => exact ⟨k + 1, by omega, by go_num, hB.trans ((hX.call hB1).bel.mono hbs), fun j hj => by
              rcases Nat.lt_or_ge j k with h | h
              · exact HA.out j h
              · have : j = k := by omega
                subst this; exact HJ.out⟩
          case measure => simp [intOf] <;> omega
        · have b0 : ((k : Int) == 0) = false := by simpa using h0
          have h0' : 0 < k := by omega
          have HJ := Lib.hid (JS.out h0' HO.out)
          obtain ⟨d0, d1, d2⟩ := HPr.out h0'
          generalize l[k - 1]'(by omega) = p at *
          clear h0
          go_wp2_with fail
          refine HW.out.mono ?_; rintro e w1 ⟨rfl, hB1⟩
          have hX1 := hX.call hB1
          have xl := hX1.lt
          have x0 := hX1.c0
          have x1 := hX1.c1
          have x2 := hX1.c2
          have d0' := (hX1.bel.cell (p := ⟨b, off + (k - 1) * 3, none⟩) hb).trans d0
          have d1' := (hX1.bel.cell (p := ⟨b, off + (k - 1) * 3 + 1, none⟩) hb).trans d1
          have d2' := (hX1.bel.cell (p := ⟨b, off + (k - 1) * 3 + 2, none⟩) hb).trans d2
          clear d0 d1 d2
          go_wp2_with fail
          refine (op_compare p o _).mono ?_; rintro e w2 ⟨rfl, hB2⟩
          have hY := (BoxAt.start w1 p 34).call hB2
          have hX2 := (hX1.call ((Below.refl w1.heap.size w1).alloc (Nat.le_refl _) (.cells #[.string p.name, .int .i64 p.typ, .int .i64 p.prec] 34))).call hB2
          have y0 := hY.c0
          have y1 := hY.c1
          have z0 := hX2.c0
          have hB3 := hB.trans (hX2.bel.mono hbs)
          clear x0 x1 x2 d0' d1' d2' hB2
          have hcase : (decide (0 ≤ cmpOp p o) = true ∧ Hid (opLt p o = false)) ∨ (decide (0 ≤ cmpOp p o) = false ∧ (p.name.toList == o.name.toList) = false ∧ Hid (opLt p o = true)) ∨ (decide (0 ≤ cmpOp p o) = false ∧ (p.name.toList == o.name.toList) = true ∧ (clsOp p.typ == 2) = true ∧ Hid (opLt p o = false)) ∨ (decide (0 ≤ cmpOp p o) = false ∧ (p.name.toList == o.name.toList) = true ∧ (clsOp p.typ == 2) = false ∧ Hid (opLt p o = true)) := by
            unfold Hid opLt
            grind
          rcases hcase with ⟨e1, HL⟩ | ⟨e1, e2, HL⟩ | ⟨e1, e2, e3, HL⟩ | ⟨e1, e2, e3, HL⟩
          · go_wp2_with fail
            go_ret
            exact ⟨ret_bool (HNO.out (HJ.out.trans HL.out)).symm, hB3⟩
          · have e2' : ¬p.name.toList = o.name.toList := by simpa using e2
            go_wp2_with fail
            go_roundw
            case rel => exact ⟨k + 1, by omega, by go_num, hB3, fun j hj => by
              rcases Nat.lt_or_ge j k with h | h
              · exact HA.out j h
              · have : j = k := by omega
                subst this; exact HJ.out.trans HL.out⟩
            case measure => simp [intOf] <;> omega
          · have e2' : p.name.toList = o.name.toList := by simpa using e2
            have e3' : clsOp p.typ = 2 := by simpa using e3
            go_wp2_with fail
            refine (op_class_box hX2 p.typ).mono ?_; rintro e w3 ⟨rfl, hX3⟩
            go_wp2_with fail
            go_ret
            exact ⟨ret_bool (HNO.out (HJ.out.trans HL.out)).symm, hB.trans (hX3.bel.mono hbs)⟩
          · have e2' : p.name.toList = o.name.toList := by simpa using e2
            have e3' : ¬clsOp p.typ = 2 := by simpa using e3
            go_wp2_with fail
            refine (op_class_box hX2 p.typ).mono ?_; rintro e w3 ⟨rfl, hX3⟩
            go_wp2_with fail
            go_roundw
            case rel => exact ⟨k + 1, by omega, by go_num, hB.trans (hX3.bel.mono hbs), fun j hj => by
              rcases Nat.lt_or_ge j k with h | h
              · exact HA.out j h
              · have : j = k := by omega
                subst this; exact HJ.out.trans HL.out⟩
            case measure => simp [intOf] <;> omega
    · obtain rfl : k = n := by omega
      have HY := Lib.hid (opsValid_yes l (by have := HN.out; omega) (fun j hj => HA.out j (by have := HN.out; omega)))
      go_wp2_with fail
      go_ret
      exact ⟨ret_bool HY.out.symm, hB⟩
end Go.Proofs.Yteddbeifnolklaa
