/- Operators: the law OpsChanges. -/
import Derived.Test.YteddbeifnolklaaOpAw
import Derived.Test.YteddbeifnolklaaOpQ
namespace Go.Proofs.Yteddbeifnolklaa
open Go.RowKit Hb
set_option maxRecDepth 100000
theorem find_tab {w : World} {A : Option Addr} {n cap : Nat} {l : List OpR} (hT : Tab w A n cap l) (hm : n ≤ 400) (c : Int) (name : ByteArray) (hc : 1 ≤ c ∧ c ≤ 3) :
    Calls Try.prog 20 #[.slice A n cap, .int .i64 c, .string name] w fun e w' => e = .returned (.tuple #[.agg #[.string ((findR l name c).getD op0).name, .int .i64 ((findR l name c).getD op0).typ, .int .i64 ((findR l name c).getD op0).prec], .bool (findR l name c).isSome]) ∧ Below w.heap.size w w' :=
  law_find A n cap l c name w hT.len hm hT.ops hc
set_option maxHeartbeats 6400000 in
theorem law_changes (A : Option Addr) (n cap : Nat) (l : List OpR) (prec typ : Int) (name other : ByteArray) (cl : Int) (w : World) (hn : n = l.length) (hm : n ≤ maxLen) (hp : OpsAt w A l) (hz : n = 0 → (Value.slice A n cap = .slice none 0 0 ∨ ∃ ad, A = some ad)) :
    Calls Try.prog 5 #[.slice A n cap, .int .i64 prec, .int .i64 typ, .string name, .string other, .int .i64 cl] w fun e w' => e = .returned (.bool true) ∧ Below w.heap.size w w' := by
  unfold maxLen at hm
  by_cases h3 : 300 < n
  · have b1 : decide ((300 : Int) < (n : Int)) = true := by simp; omega
    clear hp hn hz
    go_enter Try.func5, Try.ntmps5
    go_wp2_with fail
    refine (law_awake w).mono ?_; rintro e w1 ⟨rfl, hB1⟩
    go_wp2_with fail
    go_ret
    exact ⟨rfl, hB1⟩
  have b1 : decide ((300 : Int) < (n : Int)) = false := by simp; omega
  have hm4 : n ≤ 400 := by omega
  have HT : Hid (Tab w A n cap l) := Lib.hid ⟨hn, hp, hz⟩
  clear hp hn hz h3
  have HS := Lib.hid (ops_set A n cap l prec typ name w hm4 HT.out)
  by_cases hok : (setR l ⟨name, typ, prec⟩).2 = 0
  · have hset := (setR_iff _ _).1 hok
    rw [setR_new hset] at HS
    have HSS := Lib.hid hset
    have HFO : Hid (findR (newL l ⟨name, typ, prec⟩) name (clsOp typ) = if 0 < prec then some ⟨name, typ, prec⟩ else none) := Lib.hid hset.found
    have HVT := Lib.hid hset.valid
    have HLEN := Lib.hid hset.len
    have HOT := Lib.hid hset.other
    have hc0 := cls_ge typ
    have hc3 := cls_le typ
    have hcn : clsOp typ ≠ 0 := hset.cls
    have HCL := Lib.hid (ref_class typ)
    clear hset hok
    have HCE := Lib.hid (show clsOp (OpR.typ ⟨name, typ, prec⟩) = clsOp typ from rfl)
    rw [HCE.out] at HOT
    generalize newL l ⟨name, typ, prec⟩ = t at *
    generalize clsOp typ = c at *
    go_enter Try.func5, Try.ntmps5
    go_wp2_with fail
    refine HS.out.mono ?_; rintro e w1 ⟨A1, n1, c1, rfl, hB1, hT1⟩
    have HT1 := Lib.hid hT1
    have hn1 : n1 ≤ 400 := by have h1 := hT1.len; have h2 := HLEN.out; omega
    clear hT1
    go_wp2_with fail
    refine (HCL.out w1).mono ?_; rintro e w1' ⟨rfl, rfl⟩
    have HF := Lib.hid (find_tab HT1.out hn1 c name (by omega))
    have HVV := Lib.hid (fun w' (h : Below w1'.heap.size w1' w') => ops_valid A1 n1 c1 t w' HT1.out.len hn1 (HT1.out.ops.below h))
    rw [HVT.out] at HVV
    have HF2 := Lib.hid (fun w' (h : Below w1'.heap.size w1' w') (hc : 1 ≤ cl ∧ cl ≤ 3) => find_tab (HT.out.below (hB1.trans (h.mono hB1.size))) hm4 cl other hc)
    have HF3 := Lib.hid (fun w' (h : Below w1'.heap.size w1' w') (hc : 1 ≤ cl ∧ cl ≤ 3) => find_tab (HT1.out.below h) hn1 cl other hc)
    rw [HFO.out] at HF
    have hend : ∀ w', Below w1'.heap.size w1' w' → Below w.heap.size w w' := fun w' h => hB1.trans (h.mono hB1.size)
    have hcase : (cl < 1) ∨ (3 < cl) ∨ (1 ≤ cl ∧ cl ≤ 3 ∧ cl = c ∧ other.toList = name.toList) ∨ (1 ≤ cl ∧ cl ≤ 3 ∧ ¬(cl = c ∧ other.toList = name.toList)) := by
      by_cases h1 : cl < 1
      · exact .inl h1
      by_cases h2 : 3 < cl
      · exact .inr (.inl h2)
      by_cases h : cl = c ∧ other.toList = name.toList
      · exact .inr (.inr (.inl ⟨by omega, by omega, h.1, h.2⟩))
      · exact .inr (.inr (.inr ⟨by omega, by omega, h⟩))
    have HOE : Hid (¬(cl = c ∧ other.toList = name.toList) → findR t other cl = findR l other cl) := Lib.hid fun h => HOT.out other cl h
    by_cases hp0 : 0 < prec
    · skip
      rw [if_pos hp0] at HF
      have bp : decide (0 < prec) = true := by simpa using hp0
      have HF1 : Hid (Calls Try.prog 20 #[.slice A1 n1 c1, .int .i64 c, .string name] w1' fun e w' => e = .returned (.tuple #[.agg #[.string name, .int .i64 typ, .int .i64 prec], .bool true]) ∧ Below w1'.heap.size w1' w') := HF
      clear HF
      go_wp2_with fail
      refine HF1.out.mono ?_; rintro e w2 ⟨rfl, hB2⟩
      have hX := BoxAt.start w2 ⟨name, typ, prec⟩ 34
      have hB12 := hB2.trans (hX.bel.mono hB2.size)
      go_wp2_with fail
      refine (HVV.out _ hB12).mono ?_; rintro e w3 ⟨rfl, hB3⟩
      have hX3 := hX.call hB3
      have x0 := hX3.c0
      have x1 := hX3.c1
      have x2 := hX3.c2
      have hB13 := hB2.trans (hX3.bel.mono hB2.size)
      rcases hcase with h | h | ⟨k1, k2, k3, k4⟩ | ⟨k1, k2, k3⟩
      · go_wp2_with fail
        refine (law_awake w3).mono ?_; rintro e w4 ⟨rfl, hB4⟩
        go_wp2_with fail
        go_ret
        exact ⟨rfl, hend _ (hB13.trans (hB4.mono hB13.size))⟩
      · go_wp2_with fail
        refine (law_awake w3).mono ?_; rintro e w4 ⟨rfl, hB4⟩
        go_wp2_with fail
        go_ret
        exact ⟨rfl, hend _ (hB13.trans (hB4.mono hB13.size))⟩
      · go_wp2_with fail
        refine (law_awake w3).mono ?_; rintro e w4 ⟨rfl, hB4⟩
        go_wp2_with fail
        go_ret
        exact ⟨rfl, hend _ (hB13.trans (hB4.mono hB13.size))⟩
      · have G2 := Lib.hid (HF2.out _ hB13 ⟨k1, k2⟩)
        have HOE2 := Lib.hid (HOE.out k3)
        have G3 := Lib.hid (fun w' h => HF3.out w' h ⟨k1, k2⟩)
        rw [HOE2.out] at G3
        clear HOE HOE2 HF2 HF3 HOT
        generalize findR l other cl = X at *
        have m1 : ¬cl < 1 := by omega
        have m2 : ¬3 < cl := by omega
        have hk : ((cl == c) = false ∧ ¬cl = c) ∨ (cl = c ∧ (other.toList == name.toList) = false ∧ ¬other.toList = name.toList) := by
          by_cases h : cl = c
          · have h2 : ¬other.toList = name.toList := fun h2 => k3 ⟨h, h2⟩
            exact .inr ⟨h, by simpa using h2, h2⟩
          · exact .inl ⟨by simpa using h, h⟩
        clear k3
        rcases hk with ⟨hk, hk2⟩ | ⟨rfl, hk, hk2⟩
        · go_wp2_with fail
          refine G2.out.mono ?_; rintro e w4 ⟨rfl, hB4⟩
          have hY := BoxAt.start w4 (X.getD op0) 34
          have hB14 := hB13.trans ((hB4.trans (hY.bel.mono hB4.size)).mono hB13.size)
          go_wp2_with fail
          refine (G3.out _ hB14).mono ?_; rintro e w5 ⟨rfl, hB5⟩
          have hY5 := (hY.call hB5).call ((Below.refl w5.heap.size w5).alloc (Nat.le_refl _) (.cells #[.string (X.getD op0).name, .int .i64 (X.getD op0).typ, .int .i64 (X.getD op0).prec] 34))
          have y0 := hY5.c0
          have y1 := hY5.c1
          have y2 := hY5.c2
          have hB15 := hB13.trans ((hB4.trans (hY5.bel.mono hB4.size)).mono hB13.size)
          go_wp2_with fail
          refine (law_awake _).mono ?_; rintro e w6 ⟨rfl, hB6⟩
          go_wp2_with fail
          go_ret
          exact ⟨rfl, hend _ (hB15.trans (hB6.mono hB15.size))⟩
        · go_wp2_with fail
          refine G2.out.mono ?_; rintro e w4 ⟨rfl, hB4⟩
          have hY := BoxAt.start w4 (X.getD op0) 34
          have hB14 := hB13.trans ((hB4.trans (hY.bel.mono hB4.size)).mono hB13.size)
          go_wp2_with fail
          refine (G3.out _ hB14).mono ?_; rintro e w5 ⟨rfl, hB5⟩
          have hY5 := (hY.call hB5).call ((Below.refl w5.heap.size w5).alloc (Nat.le_refl _) (.cells #[.string (X.getD op0).name, .int .i64 (X.getD op0).typ, .int .i64 (X.getD op0).prec] 34))
          have y0 := hY5.c0
          have y1 := hY5.c1
          have y2 := hY5.c2
          have hB15 := hB13.trans ((hB4.trans (hY5.bel.mono hB4.size)).mono hB13.size)
          go_wp2_with fail
          refine (law_awake _).mono ?_; rintro e w6 ⟨rfl, hB6⟩
          go_wp2_with fail
          go_ret
          exact ⟨rfl, hend _ (hB15.trans (hB6.mono hB15.size))⟩
    · skip
      rw [if_neg hp0] at HF
      have bp : decide (0 < prec) = false := by simpa using hp0
      have HF1 : Hid (Calls Try.prog 20 #[.slice A1 n1 c1, .int .i64 c, .string name] w1' fun e w' => e = .returned (.tuple #[.agg #[.string ⟨#[]⟩, .int .i64 0, .int .i64 0], .bool false]) ∧ Below w1'.heap.size w1' w') := HF
      clear HF
      go_wp2_with fail
      refine HF1.out.mono ?_; rintro e w2 ⟨rfl, hB2⟩
      have hX := BoxAt.start w2 ⟨⟨#[]⟩, 0, 0⟩ 34
      have hB12 := hB2.trans (hX.bel.mono hB2.size)
      go_wp2_with fail
      refine (HVV.out _ hB12).mono ?_; rintro e w3 ⟨rfl, hB3⟩
      have hX3 := hX.call hB3
      have x0 := hX3.c0
      have x1 := hX3.c1
      have x2 := hX3.c2
      have hB13 := hB2.trans (hX3.bel.mono hB2.size)
      rcases hcase with h | h | ⟨k1, k2, k3, k4⟩ | ⟨k1, k2, k3⟩
      · go_wp2_with fail
        refine (law_awake w3).mono ?_; rintro e w4 ⟨rfl, hB4⟩
        go_wp2_with fail
        go_ret
        exact ⟨rfl, hend _ (hB13.trans (hB4.mono hB13.size))⟩
      · go_wp2_with fail
        refine (law_awake w3).mono ?_; rintro e w4 ⟨rfl, hB4⟩
        go_wp2_with fail
        go_ret
        exact ⟨rfl, hend _ (hB13.trans (hB4.mono hB13.size))⟩
      · go_wp2_with fail
        refine (law_awake w3).mono ?_; rintro e w4 ⟨rfl, hB4⟩
        go_wp2_with fail
        go_ret
        exact ⟨rfl, hend _ (hB13.trans (hB4.mono hB13.size))⟩
      · have G2 := Lib.hid (HF2.out _ hB13 ⟨k1, k2⟩)
        have HOE2 := Lib.hid (HOE.out k3)
        have G3 := Lib.hid (fun w' h => HF3.out w' h ⟨k1, k2⟩)
        rw [HOE2.out] at G3
        clear HOE HOE2 HF2 HF3 HOT
        generalize findR l other cl = X at *
        have m1 : ¬cl < 1 := by omega
        have m2 : ¬3 < cl := by omega
        have hk : ((cl == c) = false ∧ ¬cl = c) ∨ (cl = c ∧ (other.toList == name.toList) = false ∧ ¬other.toList = name.toList) := by
          by_cases h : cl = c
          · have h2 : ¬other.toList = name.toList := fun h2 => k3 ⟨h, h2⟩
            exact .inr ⟨h, by simpa using h2, h2⟩
          · exact .inl ⟨by simpa using h, h⟩
        clear k3
        rcases hk with ⟨hk, hk2⟩ | ⟨rfl, hk, hk2⟩
        · go_wp2_with fail
          refine G2.out.mono ?_; rintro e w4 ⟨rfl, hB4⟩
          have hY := BoxAt.start w4 (X.getD op0) 34
          have hB14 := hB13.trans ((hB4.trans (hY.bel.mono hB4.size)).mono hB13.size)
          go_wp2_with fail
          refine (G3.out _ hB14).mono ?_; rintro e w5 ⟨rfl, hB5⟩
          have hY5 := (hY.call hB5).call ((Below.refl w5.heap.size w5).alloc (Nat.le_refl _) (.cells #[.string (X.getD op0).name, .int .i64 (X.getD op0).typ, .int .i64 (X.getD op0).prec] 34))
          have y0 := hY5.c0
          have y1 := hY5.c1
          have y2 := hY5.c2
          have hB15 := hB13.trans ((hB4.trans (hY5.bel.mono hB4.size)).mono hB13.size)
          go_wp2_with fail
          refine (law_awake _).mono ?_; rintro e w6 ⟨rfl, hB6⟩
          go_wp2_with fail
          go_ret
          exact ⟨rfl, hend _ (hB15.trans (hB6.mono hB15.size))⟩
        · go_wp2_with fail
          refine G2.out.mono ?_; rintro e w4 ⟨rfl, hB4⟩
          have hY := BoxAt.start w4 (X.getD op0) 34
          have hB14 := hB13.trans ((hB4.trans (hY.bel.mono hB4.size)).mono hB13.size)
          go_wp2_with fail
          refine (G3.out _ hB14).mono ?_; rintro e w5 ⟨rfl, hB5⟩
          have hY5 := (hY.call hB5).call ((Below.refl w5.heap.size w5).alloc (Nat.le_refl _) (.cells #[.string (X.getD op0).name, .int .i64 (X.getD op0).typ, .int .i64 (X.getD op0).prec] 34))
          have y0 := hY5.c0
          have y1 := hY5.c1
          have y2 := hY5.c2
          have hB15 := hB13.trans ((hB4.trans (hY5.bel.mono hB4.size)).mono hB13.size)
          go_wp2_with fail
          refine (law_awake _).mono ?_; rintro e w6 ⟨rfl, hB6⟩
          go_wp2_with fail
          go_ret
          exact ⟨rfl, hend _ (hB15.trans (hB6.mono hB15.size))⟩
  · have hnil := setR_none hok
    rw [hnil] at HS
    generalize (setR l ⟨name, typ, prec⟩).2 = x at *
    have bx : (x == 0) = false := by rw [beq_eq_false_iff_ne]; exact hok
    clear hnil
    go_enter Try.func5, Try.ntmps5
    go_wp2_with fail
    refine HS.out.mono ?_; rintro e w1 ⟨A1, n1, c1, rfl, hB1, hT1⟩
    have h0 : n1 = 0 := hT1.len
    subst h0
    clear hT1
    go_wp2_with fail
    refine (law_awake w1).mono ?_; rintro e w2 ⟨rfl, hB2⟩
    go_wp2_with fail
    go_ret
    exact ⟨rfl, hB1.trans (hB2.mono hB1.size)⟩
end Go.Proofs.Yteddbeifnolklaa
