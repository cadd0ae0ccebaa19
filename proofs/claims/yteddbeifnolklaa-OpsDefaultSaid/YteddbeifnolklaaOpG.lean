/- Operators: Set. -/
import Derived.Test.YteddbeifnolklaaOpE
import Derived.Test.YteddbeifnolklaaOpI
namespace Hb
open Go Go.RowKit
theorem filt_le (o : OpR) (l : List OpR) : (restL o l).length ≤ l.length := List.length_filter_le _ _
theorem setR_bad {l : List OpR} {o : OpR} (h : (!opsValid l || decide (o.prec < 0) || decide (1200 < o.prec) || clsOp o.typ == 0 || decide (100 < o.name.size)) = true) : setR l o = ([], 1) := by
  unfold setR; rw [if_pos h]
theorem setR_fix {l : List OpR} {o : OpR} (h : (!opsValid l || decide (o.prec < 0) || decide (1200 < o.prec) || clsOp o.typ == 0 || decide (100 < o.name.size)) = false) (hf : fixedS l o = true) : setR l o = ([], 5) := by
  unfold setR; rw [h, if_neg (by simp), if_pos hf]
theorem setR_full {l : List OpR} {o : OpR} (h : (!opsValid l || decide (o.prec < 0) || decide (1200 < o.prec) || clsOp o.typ == 0 || decide (100 < o.name.size)) = false) (hf : fixedS l o = false) (hn : 100 < (newL l o).length) : setR l o = ([], 13) := by
  unfold setR; rw [h, if_neg (by simp), hf, if_neg (by simp), if_pos hn]
theorem setR_ok {l : List OpR} {o : OpR} (h : (!opsValid l || decide (o.prec < 0) || decide (1200 < o.prec) || clsOp o.typ == 0 || decide (100 < o.name.size)) = false) (hf : fixedS l o = false) (hn : ¬ 100 < (newL l o).length) : setR l o = (newL l o, 0) := by
  unfold setR; rw [h, if_neg (by simp), hf, if_neg (by simp), if_neg hn]
theorem own_nil {w : World} {base e n cap : Nat} {A : Option Addr} {xs : List Value} (h : w.ownsRow base e 3 (.slice A n cap) n xs) : n = 0 → (Value.slice A n cap = .slice none 0 0 ∨ ∃ ad, A = some ad) := by
  intro _
  rcases h.2 with ⟨hv, _⟩ | ⟨g, c, cur, hv, _⟩
  · exact .inl hv
  · injection hv with h1 _ _
    exact .inr ⟨_, h1⟩
theorem BoxAt.over {w0 w w' : World} {o : OpR} {B : Nat} (h : BoxAt w0 w o) (hlt : w0.heap.size < B) (hB : Below B w w') : BoxAt w0 w' o where
  bel := h.bel.trans (hB.mono (Nat.le_of_lt hlt))
  lt := Nat.lt_of_lt_of_le h.lt hB.size
  c0 := (hB.cell (p := ⟨_, _, none⟩) hlt).trans h.c0
  c1 := (hB.cell (p := ⟨_, _, none⟩) hlt).trans h.c1
  c2 := (hB.cell (p := ⟨_, _, none⟩) hlt).trans h.c2
/-- A table as a call hands it back. -/
structure Tab (w : World) (A : Option Addr) (n cap : Nat) (l : List OpR) : Prop where
  len : n = l.length
  ops : OpsAt w A l
  nil : n = 0 → (Value.slice A n cap = .slice none 0 0 ∨ ∃ ad, A = some ad)
theorem Tab.none (w : World) : Tab w none 0 0 [] := ⟨rfl, OpsAt.nil _ _, fun _ => .inl rfl⟩
theorem Tab.below {w w' : World} {A : Option Addr} {n cap : Nat} {l : List OpR} (h : Tab w A n cap l) (hB : Below w.heap.size w w') : Tab w' A n cap l := ⟨h.len, h.ops.below hB, h.nil⟩
theorem Tab.own {w : World} {base e n cap : Nat} {A : Option Addr} {l : List OpR} (h : w.ownsRow base e 3 (.slice A n cap) n (opsCells l)) : Tab w A n cap l := ⟨(own_len h).symm, ops_own h, own_nil h⟩
end Hb
namespace Go.Proofs.Yteddbeifnolklaa
open Go.RowKit Hb
set_option maxRecDepth 100000
set_option maxHeartbeats 3200000 in
theorem ops_set (A : Option Addr) (n cap : Nat) (l : List OpR) (prec typ : Int) (name : ByteArray) (w : World) (hm : n ≤ 400) (hT : Tab w A n cap l) :
    Calls Try.prog 17 #[.slice A n cap, .int .i64 prec, .int .i64 typ, .string name] w fun e w' => ∃ A' n' cap', e = .returned (.tuple #[.slice A' n' cap', .int .i64 (setR l ⟨name, typ, prec⟩).2]) ∧ Below w.heap.size w w' ∧ Tab w' A' n' cap' (setR l ⟨name, typ, prec⟩).1 := by
  have HV := Lib.hid (ops_valid A n cap l w hT.len hm hT.ops)
  cases hbad : (!opsValid l || decide (prec < 0) || decide (1200 < prec) || clsOp typ == 0 || decide (100 < name.size))
  · have HG := Lib.hid hbad
    simp at hbad
    obtain ⟨⟨⟨⟨hv, hb1⟩, hb2⟩, hb3⟩, hb4⟩ := hbad
    have HVL := Lib.hid hv
    rw [hv] at HV
    clear hv
    obtain ⟨o, HOE⟩ : ∃ o : OpR, Hid (o = ⟨name, typ, prec⟩) := ⟨_, Lib.hid rfl⟩
    have HFX : Hid (∀ (W : World), OpsAt W A l → Calls Try.prog 39 #[.slice A n cap, .agg #[.string name, .int .i64 typ, .int .i64 prec]] W fun e w' => e = .returned (.bool (fixedS l o)) ∧ Below W.heap.size W w') := Lib.hid fun W hW => by
      rw [HOE.out]; exact ops_fixed A n cap l ⟨name, typ, prec⟩ W hT.len hm hW
    have HTA := Lib.hid hT
    have hl100 : n ≤ 100 := by have := (opsValid_at l HVL.out).1; have := hT.len; omega
    rw [← HOE.out]
    have HG' : Hid ((!opsValid l || decide (o.prec < 0) || decide (1200 < o.prec) || clsOp o.typ == 0 || decide (100 < o.name.size)) = false) := by rw [HOE.out]; exact HG
    clear hT HG
    have b1 : decide (prec < 0) = false := by simpa using hb1
    have b2 : decide (1200 < prec) = false := by simpa using hb2
    have b3 : (clsOp typ == 0) = false := by simpa using hb3
    have b4 : decide ((100 : Int) < (name.size : Int)) = false := by simp; omega
    clear hb1 hb2 hb3 hb4
    cases hfx : fixedS l o
    · rw [hfx] at HFX
      have HFS := Lib.hid hfx
      clear hfx
      go_enter Try.func17, Try.ntmps17
      go_wp2_with fail
      refine HV.out.mono ?_; rintro e w1 ⟨rfl, hB1⟩
      go_wp2_with fail
      refine (op_class typ w1).mono ?_; rintro e w2 ⟨rfl, hB2⟩
      have hB02 : Below w.heap.size w w2 := hB1.trans (hB2.mono hB1.size)
      have hX : Hid (BoxAt w2 (w2.alloc (.cells #[.string name, .int .i64 typ, .int .i64 prec] 34)) o) := by rw [HOE.out]; exact Lib.hid (BoxAt.start w2 ⟨name, typ, prec⟩ 34)
      go_wp2_with fail
      refine (HFX.out _ (HTA.out.ops.below (hB02.trans (hX.out.bel.mono hB02.size)))).mono ?_; rintro e w3 ⟨rfl, hB3⟩
      have hX3 := Lib.hid (hX.out.call hB3)
      have hB03 : Below w.heap.size w w3 := hB02.trans (hX3.out.bel.mono hB02.size)
      have hx3 : w2.heap.size < w3.heap.size := hX3.out.lt
      have hT3 := Lib.hid (HTA.out.below hB03)
      clear hX hB3
      go_wp2_with fail
      refine (ops_clone A n cap l w3 hT3.out.len hm hT3.out.ops hT3.out.nil).mono ?_; rintro e w4 ⟨A4, c4, rfl, hB4, hO4⟩
      have hX4 := Lib.hid (hX3.out.call hB4)
      have HD := Lib.hid (ops_delete A4 n c4 l o w2.heap.size w3.heap.size w4 hm hO4 hx3 hB4.size hX4.out.c0 hX4.out.c1 hX4.out.c2)
      clear hO4
      go_wp2_with fail
      refine HD.out.mono ?_; rintro e w5 ⟨n5, rfl, hB5, hO5⟩
      have hX5 := Lib.hid (hX4.out.over hx3 hB5)
      have hB45 : Below w3.heap.size w3 w5 := hB4.trans hB5
      have hB05 : Below w.heap.size w w5 := hB03.trans (hB45.mono hB03.size)
      have HO5 := Lib.hid hO5
      have hn5 : n5 ≤ 100 := by have h1 := own_len hO5; have h2 := filt_le o l; have h3 := HTA.out.len; omega
      clear hO5 HD HFX HV
      have HN5 := Lib.hid (own_len HO5.out)
      by_cases hp : 0 < prec
      · have HNL : Hid (newL l o = insO o (restL o l)) := by
          refine Lib.hid ?_
          unfold newL
          rw [if_pos (by rw [HOE.out]; exact hp)]
        have hs0 := sorted_valid HVL.out
        have HSR := Lib.hid (ops_search A4 n5 c4 (restL o l) o w5 HN5.out.symm (by omega) (ops_own HO5.out) ((hs0.rest o).mono o))
        clear hs0
        unfold opV at HSR
        have c0 := hX5.out.c0
        have c1 := hX5.out.c1
        have c2 := hX5.out.c2
        go_wp2_with fail
        refine HSR.out.mono ?_; rintro e w6 ⟨i, b, rfl, hPa, hB6⟩
        have hX6 := Lib.hid (hX5.out.call hB6)
        have HIN := Lib.hid (insO_parts o (restL o l) i (rest_ne o l) hPa)
        have hi5 : i ≤ n5 := by have := hPa.hl; have := HN5.out; omega
        have hB6' : Below w3.heap.size w5 w6 := hB6.mono hB45.size
        have HI6 := Lib.hid (ops_insert A4 n5 c4 i (restL o l) o w6.heap.size w3.heap.size (w6.alloc (.cells #[.string o.name, .int .i64 o.typ, .int .i64 o.prec] 34)) (by omega) hi5 ((own_below HO5.out hB6).alloc _) (by have := hB45.size; have := hB6.size; simp; omega) (fun g hg => by
          have := (HO5.out.lt g (by rw [hg]; rfl)).2
          have := hB6.size
          omega) (heap_alloc_new _ _))
        rw [HIN.out] at HI6
        clear hPa HSR c0 c1 c2
        have c0 := hX6.out.c0
        have c1 := hX6.out.c1
        have c2 := hX6.out.c2
        have hB06 : Below w3.heap.size w3 w6 := hB45.trans hB6'
        have hBa : Below w3.heap.size w3 (w6.alloc (.cells #[.string o.name, .int .i64 o.typ, .int .i64 o.prec] 34)) := hB06.alloc (by have := hB06.size; exact this) _
        go_wp2_with fail
        refine HI6.out.mono ?_; rintro e w7 ⟨A7, c7, rfl, hB7, hO7⟩
        have HT7 := Lib.hid (Tab.own hO7)
        have HN7 := Lib.hid (own_len hO7)
        rw [← HNL.out] at HN7 HT7
        clear hO7 HI6
        have hBz : Below w.heap.size w w7 := hB03.trans ((hBa.trans hB7).mono hB03.size)
        by_cases hfull : 100 < n5 + 1
        · have b5 : decide ((100 : Int) < (n5 : Int) + 1) = true := by simp; omega
          have HR := Lib.hid (setR_full HG'.out HFS.out (by rw [HN7.out]; exact hfull))
          go_wp2_with fail
          go_ret2
          exact ⟨none, 0, 0, by rw [HR.out]; rfl, hBz, by rw [HR.out]; exact Tab.none _⟩
        · have b5 : decide ((100 : Int) < (n5 : Int) + 1) = false := by simp; omega
          have HR := Lib.hid (setR_ok HG'.out HFS.out (by rw [HN7.out]; exact hfull))
          go_wp2_with fail
          go_ret2
          exact ⟨A7, n5 + 1, c7, by rw [HR.out]; rfl, hBz, by rw [HR.out]; exact HT7.out⟩
      · have b6 : decide (0 < prec) = false := by simpa using hp
        have HNL : Hid (newL l o = restL o l) := by
          refine Lib.hid ?_
          unfold newL
          rw [if_neg (by rw [HOE.out]; exact hp)]
        have HT5 := Lib.hid (Tab.own HO5.out)
        rw [← HNL.out] at HT5 HN5
        have HR := Lib.hid (setR_ok HG'.out HFS.out (by rw [HN5.out]; omega))
        have b5 : decide ((100 : Int) < (n5 : Int)) = false := by simp; omega
        go_wp2_with fail
        go_ret2
        exact ⟨A4, n5, c4, by rw [HR.out]; rfl, hB05, by rw [HR.out]; exact HT5.out⟩
    · rw [hfx] at HFX
      have HR := Lib.hid (setR_fix HG'.out hfx)
      clear hfx
      go_enter Try.func17, Try.ntmps17
      go_wp2_with fail
      refine HV.out.mono ?_; rintro e w1 ⟨rfl, hB1⟩
      go_wp2_with fail
      refine (op_class typ w1).mono ?_; rintro e w2 ⟨rfl, hB2⟩
      have hB02 : Below w.heap.size w w2 := hB1.trans (hB2.mono hB1.size)
      have hX : Hid (BoxAt w2 (w2.alloc (.cells #[.string name, .int .i64 typ, .int .i64 prec] 34)) o) := by rw [HOE.out]; exact Lib.hid (BoxAt.start w2 ⟨name, typ, prec⟩ 34)
      go_wp2_with fail
      refine (HFX.out _ (HTA.out.ops.below (hB02.trans (hX.out.bel.mono hB02.size)))).mono ?_; rintro e w3 ⟨rfl, hB3⟩
      have hX3 := Lib.hid (hX.out.call hB3)
      have hB03 : Below w.heap.size w w3 := hB02.trans (hX3.out.bel.mono hB02.size)
      go_wp2_with fail
      go_ret2
      exact ⟨none, 0, 0, by rw [HR.out]; rfl, hB03, by rw [HR.out]; exact Tab.none _⟩
  · have HR := Lib.hid (setR_bad (l := l) (o := ⟨name, typ, prec⟩) hbad)
    have HTA := Lib.hid hT
    cases hv : opsValid l
    · rw [hv] at HV
      clear hv hbad hT
      go_enter Try.func17, Try.ntmps17
      go_wp2_with fail
      refine HV.out.mono ?_; rintro e w1 ⟨rfl, hB1⟩
      go_wp2_with fail
      go_ret2
      exact ⟨none, 0, 0, by rw [HR.out]; rfl, hB1, by rw [HR.out]; exact Tab.none _⟩
    · rw [hv] at HV hbad
      have HC := Lib.hid (op_class typ)
      have HBD : Hid (prec < 0 ∨ 1200 < prec ∨ clsOp typ = 0 ∨ (100 : Int) < name.size) := by
        simp at hbad
        refine Lib.hid ?_
        rcases hbad with ((h | h) | h) | h
        · exact .inl h
        · exact .inr (.inl h)
        · exact .inr (.inr (.inl h))
        · exact .inr (.inr (.inr (by omega)))
      clear hv hbad hT
      generalize clsOp typ = c at *
      go_enter Try.func17, Try.ntmps17
      go_wp2_with fail
      refine HV.out.mono ?_; rintro e w1 ⟨rfl, hB1⟩
      by_cases h1 : prec < 0
      · go_wp2_with fail
        go_ret2
        exact ⟨none, 0, 0, by rw [HR.out]; rfl, hB1, by rw [HR.out]; exact Tab.none _⟩
      by_cases h2 : 1200 < prec
      · go_wp2_with fail
        go_ret2
        exact ⟨none, 0, 0, by rw [HR.out]; rfl, hB1, by rw [HR.out]; exact Tab.none _⟩
      have HB2 : ∀ w2, Below w1.heap.size w1 w2 → Below w.heap.size w w2 := fun w2 h => hB1.trans (h.mono hB1.size)
      have b1 : decide (prec < 0) = false := by simpa using h1
      have b2 : decide (1200 < prec) = false := by simpa using h2
      by_cases h3 : c = 0
      · go_wp2_with fail
        refine (HC.out w1).mono ?_; rintro e w2 ⟨rfl, hB2⟩
        go_wp2_with fail
        go_ret2
        exact ⟨none, 0, 0, by rw [HR.out]; rfl, HB2 _ hB2, by rw [HR.out]; exact Tab.none _⟩
      · have b3 : (c == 0) = false := by simpa using h3
        have b4 : decide ((100 : Int) < (name.size : Int)) = true := by
          rcases HBD.out with h | h | h | h
          · exact absurd h h1
          · exact absurd h h2
          · exact absurd h h3
          · simpa using h
        go_wp2_with fail
        refine (HC.out w1).mono ?_; rintro e w2 ⟨rfl, hB2⟩
        go_wp2_with fail
        go_ret2
        exact ⟨none, 0, 0, by rw [HR.out]; rfl, HB2 _ hB2, by rw [HR.out]; exact Tab.none _⟩
end Go.Proofs.Yteddbeifnolklaa
