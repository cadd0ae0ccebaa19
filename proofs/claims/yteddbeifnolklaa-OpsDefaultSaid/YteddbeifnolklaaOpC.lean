/- Operators: rows of the call's own; the two Clone. -/
import Derived.Test.YteddbeifnolklaaOp8
import Derived.Laws.AppendOwnNone
import Derived.Laws.OwnMore
import Derived.Lib.SliceRun
namespace Hb
open Go Go.RowKit
theorem opsCells_len (l : List OpR) : (opsCells l).length = l.length * 3 := by
  unfold opsCells; induction l with
  | nil => rfl
  | cons p l ih => rw [List.flatMap_cons, List.length_append, ih]; simp [opCells]; omega
theorem oc_get : ∀ (l : List OpR) (i : Nat) (h : i < l.length), (opsCells l)[i * 3]? = some (.string l[i].name) ∧ (opsCells l)[i * 3 + 1]? = some (.int .i64 l[i].typ) ∧ (opsCells l)[i * 3 + 2]? = some (.int .i64 l[i].prec)
  | p :: l, 0, _ => ⟨rfl, rfl, rfl⟩
  | p :: l, i + 1, h => by
    have := oc_get l i (by simpa using h)
    have e : opsCells (p :: l) = .string p.name :: .int .i64 p.typ :: .int .i64 p.prec :: opsCells l := rfl
    rw [e, show (i + 1) * 3 = i * 3 + 3 by omega]
    exact ⟨by simpa using this.1, by simpa using this.2.1, by simpa using this.2.2⟩
theorem oc_one (l : List OpR) : ∀ u ∈ opsCells l, u.oneCell' = true := by
  intro u hu
  unfold opsCells at hu
  rw [List.mem_flatMap] at hu
  obtain ⟨p, _, hp⟩ := hu
  simp [opCells] at hp
  rcases hp with rfl | rfl | rfl <;> rfl
/-- The operators lie from a place on. -/
def OpsIn (w : World) (b off : Nat) (l : List OpR) : Prop :=
  ∀ j (hj : j < l.length), w.cell? ⟨b, off + j * 3, none⟩ = some (.string l[j].name) ∧ w.cell? ⟨b, off + j * 3 + 1, none⟩ = some (.int .i64 l[j].typ) ∧ w.cell? ⟨b, off + j * 3 + 2, none⟩ = some (.int .i64 l[j].prec)
theorem add_at (b o j : Nat) : (⟨b, o, none⟩ : Addr).add j = ⟨b, o + j, none⟩ := by unfold Addr.add; split <;> simp_all
theorem oc_at {w : World} {b off : Nat} {l : List OpR} (h : OpsIn w b off l) (j : Nat) (u : Value) (hu : (opsCells l)[j]? = some u) : w.cell? ((⟨b, off, none⟩ : Addr).add j) = some u := by
  have hj : j < (opsCells l).length := by
    rcases Nat.lt_or_ge j (opsCells l).length with hh | hh
    · exact hh
    · rw [List.getElem?_eq_none hh] at hu; cases hu
  rw [opsCells_len] at hj
  have hi : j / 3 < l.length := by omega
  obtain ⟨p1, p2, p3⟩ := oc_get l (j / 3) hi
  obtain ⟨q1, q2, q3⟩ := h (j / 3) hi
  rw [add_at]
  have hc : j = j / 3 * 3 ∨ j = j / 3 * 3 + 1 ∨ j = j / 3 * 3 + 2 := by omega
  rcases hc with e2 | e2 | e2
  · rw [e2, p1] at hu; injection hu with hu; rw [e2, ← hu]; exact q1
  · rw [e2, p2] at hu; injection hu with hu; rw [e2, ← hu, ← Nat.add_assoc]; exact q2
  · rw [e2, p3] at hu; injection hu with hu; rw [e2, ← hu, ← Nat.add_assoc]; exact q3
theorem OpsAt.cases {w : World} {A : Option Addr} {l : List OpR} (h : OpsAt w A l) : l = [] ∨ ∃ b off, A = some ⟨b, off, none⟩ ∧ b < w.heap.size ∧ OpsIn w b off l := by
  cases l with
  | nil => exact .inl rfl
  | cons a l =>
    obtain ⟨b, off, e, hb, _⟩ := h 0 (by simp)
    refine .inr ⟨b, off, e, hb, fun j hj => ?_⟩
    obtain ⟨b', off', e', _, c⟩ := h j hj
    rw [e] at e'; injection e' with e'; injection e' with e1 e2 _; subst e1; subst e2
    exact c
theorem OpsIn.ops {w : World} {b off : Nat} {l : List OpR} (h : OpsIn w b off l) (hb : b < w.heap.size) : OpsAt w (some ⟨b, off, none⟩) l := fun j hj => ⟨b, off, rfl, hb, h j hj⟩
theorem OpsIn.below {w w' : World} {b off : Nat} {l : List OpR} (h : OpsIn w b off l) (hb : b < w.heap.size) (hB : Below w.heap.size w w') : OpsIn w' b off l := fun j hj => by
  obtain ⟨c0, c1, c2⟩ := h j hj
  exact ⟨(hB.cell (p := ⟨b, _, none⟩) hb).trans c0, (hB.cell (p := ⟨b, _, none⟩) hb).trans c1, (hB.cell (p := ⟨b, _, none⟩) hb).trans c2⟩
theorem own_slice {w : World} {base e size : Nat} {v : Value} {n : Nat} {xs : List Value} (h : w.ownsRow base e size v n xs) : ∃ A cap, v = .slice A n cap := by
  rcases h.2 with ⟨rfl, h0⟩ | ⟨g, cap, cur, rfl, _⟩
  · exact ⟨none, 0, by rw [h0]⟩
  · exact ⟨_, cap, rfl⟩
theorem own_in {w : World} {base e n g cap : Nat} {l : List OpR} (h : w.ownsRow base e 3 (.slice (some ⟨g, 0, none⟩) n cap) n (opsCells l)) : OpsIn w g 0 l := by
  have hn : n = l.length := by have := h.1; rw [opsCells_len] at this; omega
  intro j hj
  obtain ⟨p1, p2, p3⟩ := oc_get l j hj
  exact ⟨by rw [Nat.zero_add, h.cellAt _ (by omega)]; exact p1, by rw [Nat.zero_add, h.cellAt _ (by omega)]; exact p2, by rw [Nat.zero_add, h.cellAt _ (by omega)]; exact p3⟩
theorem ops_own {w : World} {base e n cap : Nat} {A : Option Addr} {l : List OpR} (h : w.ownsRow base e 3 (.slice A n cap) n (opsCells l)) : OpsAt w A l := by
  have hn : n = l.length := by have := h.1; rw [opsCells_len] at this; omega
  rcases h.2 with ⟨hv, h0⟩ | ⟨g, cap', cur, hv, hbg, hh, rest⟩
  · intro j hj; omega
  · injection hv with hA _ _
    subst hA
    exact (own_in h).ops (h.lt g rfl).2
theorem own_empty (w : World) (base e size : Nat) (hb : base ≤ w.heap.size) : (w.alloc (.cells #[] e)).ownsRow base e size (.slice (some ⟨w.heap.size, 0, none⟩) 0 0) 0 [] :=
  ⟨by simp, .inr ⟨w.heap.size, 0, #[], rfl, hb, by show (w.heap.push _)[w.heap.size]? = _; simp, Nat.le_refl _, Nat.zero_le _, by simp, by simp⟩⟩
end Hb
namespace Go.Proofs.Yteddbeifnolklaa
open Go.RowKit Hb
set_option maxRecDepth 100000
set_option maxHeartbeats 800000 in
theorem ops_clone (A : Option Addr) (n cap : Nat) (l : List OpR) (w : World) (hn : n = l.length) (hm : n ≤ 400) (hp : OpsAt w A l) (hA : n = 0 → (Value.slice A n cap = .slice none 0 0 ∨ ∃ ad, A = some ad)) :
    Calls Try.prog 41 #[.slice A n cap] w fun e w' => ∃ A' cap', e = .returned (.slice A' n cap') ∧ Below w.heap.size w w' ∧ w'.ownsRow w.heap.size 34 3 (.slice A' n cap') n (opsCells l) := by
  obtain ⟨i, hi, hz0, hz1, hz2⟩ := info_parts infoOp
  have HI := Lib.hid hi
  have HZ0 := Lib.hid hz0
  have HZ1 := Lib.hid hz1
  have HZ2 := Lib.hid hz2
  have hE := Lib.hid (own_empty w w.heap.size 34 3 (Nat.le_refl _))
  have hB0 := (Below.refl w.heap.size w).alloc (Nat.le_refl _) (.cells #[] 34)
  rcases hp.cases with hl0 | ⟨b, off, rfl, hb, hin⟩
  · subst hl0
    rw [List.length_nil] at hn
    subst hn
    rcases hA rfl with hv | ⟨ad, rfl⟩
    · injection hv with h1 h2 h3
      subst h1; subst h3
      clear hi hz0 hz1 hz2 hA hp h2
      have q22 : ∀ (w : World) (a : Option Addr) (n c n' c' : Nat), (binOp .eql 22 (.slice a n c) (.slice none n' c')).run Try.prog w = .ok (.bool a.isNone) w := fun w a n c n' c' => Lib.run_eql_slice_nil w _ _ a n c n' c' Try.underlying22
      go_enter Try.func41, Try.ntmps41
      go_wp2_with fail
      go_ret
      first | exact ⟨none, ⟨0, rfl⟩, Below.refl _ _, World.ownsRow_nil _ _ _ _⟩ | exact ⟨none, 0, rfl, Below.refl _ _, World.ownsRow_nil _ _ _ _⟩
    · clear hi hz0 hz1 hz2 hA hp
      have q22 : ∀ (w : World) (a : Option Addr) (n c n' c' : Nat), (binOp .eql 22 (.slice a n c) (.slice none n' c')).run Try.prog w = .ok (.bool a.isNone) w := fun w a n c n' c' => Lib.run_eql_slice_nil w _ _ a n c n' c' Try.underlying22
      go_enter Try.func41, Try.ntmps41
      go_wp2_with (at_builtin; go_must (refine wpList_append_own _ rfl _ _ 22 rfl w.heap.size 34 i _ 3 32 Try.underlying22 HI.out HZ0.out HZ1.out HZ2.out rfl (by decide) _ 0 [] rfl hE.out ad 0 cap [] rfl rfl (by intro j u hu; cases hu) (by intro u hu; cases hu) (by unfold maxLen; omega) (by omega) (by simp) ?_; intro v1 w1 hown1 hg1 _))
      have hB1 : Below w.heap.size w w1 := hB0.grown hg1 (by simp) (fun k hk => Nat.le_of_eq (Option.some.inj (show some w.heap.size = some k from hk)))
      rw [Nat.zero_add, List.nil_append] at hown1
      obtain ⟨A', cap', rfl⟩ := own_slice hown1
      have HO := Lib.hid hown1
      clear hown1
      go_ret
      first | exact ⟨A', ⟨cap', rfl⟩, hB1, HO.out⟩ | exact ⟨A', cap', rfl, hB1, HO.out⟩
  · have HC := Lib.hid (hin.below hb hB0)
    have HN := Lib.hid hn
    clear hi hz0 hz1 hz2 hA hp hin hn
    have q22 : ∀ (w : World) (a : Option Addr) (n c n' c' : Nat), (binOp .eql 22 (.slice a n c) (.slice none n' c')).run Try.prog w = .ok (.bool a.isNone) w := fun w a n c n' c' => Lib.run_eql_slice_nil w _ _ a n c n' c' Try.underlying22
    go_enter Try.func41, Try.ntmps41
    go_wp2_with (at_builtin; go_must (refine wpList_append_own _ rfl _ _ 22 rfl w.heap.size 34 i _ 3 32 Try.underlying22 HI.out HZ0.out HZ1.out HZ2.out rfl (by decide) _ 0 [] rfl hE.out ⟨b, off, none⟩ n cap (opsCells l) rfl (by rw [opsCells_len, HN.out]) (oc_at HC.out) (oc_one l) (by unfold maxLen; omega) (by omega) (by simp) ?_; intro v1 w1 hown1 hg1 _))
    rw [Nat.zero_add, List.nil_append] at hown1
    have hB1 : Below w.heap.size w w1 := hB0.grown hg1 (by simp) (fun k hk => Nat.le_of_eq (Option.some.inj (show some w.heap.size = some k from hk)))
    obtain ⟨A', cap', rfl⟩ := own_slice hown1
    have HO := Lib.hid hown1
    clear hown1
    go_ret
    first | exact ⟨A', ⟨cap', rfl⟩, hB1, HO.out⟩ | exact ⟨A', cap', rfl, hB1, HO.out⟩
set_option maxHeartbeats 800000 in
theorem ref_clone7 (A : Option Addr) (n cap : Nat) (l : List OpR) (w : World) (hn : n = l.length) (hm : n ≤ 400) (hp : OpsAt w A l) (hA : n = 0 → (Value.slice A n cap = .slice none 0 0 ∨ ∃ ad, A = some ad)) :
    Calls Try.prog 16 #[.slice A n cap] w fun e w' => ∃ A' cap', e = .returned (.slice A' n cap') ∧ Below w.heap.size w w' ∧ w'.ownsRow w.heap.size 34 3 (.slice A' n cap') n (opsCells l) := by
  obtain ⟨i, hi, hz0, hz1, hz2⟩ := info_parts infoOp
  have HI := Lib.hid hi
  have HZ0 := Lib.hid hz0
  have HZ1 := Lib.hid hz1
  have HZ2 := Lib.hid hz2
  have hE := Lib.hid (own_empty w w.heap.size 34 3 (Nat.le_refl _))
  have hB0 := (Below.refl w.heap.size w).alloc (Nat.le_refl _) (.cells #[] 34)
  rcases hp.cases with hl0 | ⟨b, off, rfl, hb, hin⟩
  · subst hl0
    rw [List.length_nil] at hn
    subst hn
    rcases hA rfl with hv | ⟨ad, rfl⟩
    · injection hv with h1 h2 h3
      subst h1; subst h3
      clear hi hz0 hz1 hz2 hA hp h2
      go_enter Try.func16, Try.ntmps16
      go_wp2_with (at_builtin; go_must (refine wpList_append_own_none rfl _ _ 22 rfl w.heap.size 34 i 3 Try.underlying22 HI.out _ 0 [] rfl hE.out rfl ?_))
      go_ret
      first | exact ⟨_, ⟨_, rfl⟩, hB0, hE.out⟩ | exact ⟨_, _, rfl, hB0, hE.out⟩
    · clear hi hz0 hz1 hz2 hA hp
      go_enter Try.func16, Try.ntmps16
      go_wp2_with (at_builtin; go_must (refine wpList_append_own _ rfl _ _ 22 rfl w.heap.size 34 i _ 3 32 Try.underlying22 HI.out HZ0.out HZ1.out HZ2.out rfl (by decide) _ 0 [] rfl hE.out ad 0 cap [] rfl rfl (by intro j u hu; cases hu) (by intro u hu; cases hu) (by unfold maxLen; omega) (by omega) (by simp) ?_; intro v1 w1 hown1 hg1 _))
      have hB1 : Below w.heap.size w w1 := hB0.grown hg1 (by simp) (fun k hk => Nat.le_of_eq (Option.some.inj (show some w.heap.size = some k from hk)))
      rw [Nat.zero_add, List.nil_append] at hown1
      obtain ⟨A', cap', rfl⟩ := own_slice hown1
      have HO := Lib.hid hown1
      clear hown1
      go_ret
      first | exact ⟨A', ⟨cap', rfl⟩, hB1, HO.out⟩ | exact ⟨A', cap', rfl, hB1, HO.out⟩
  · have HC := Lib.hid (hin.below hb hB0)
    have HN := Lib.hid hn
    clear hi hz0 hz1 hz2 hA hp hin hn
    go_enter Try.func16, Try.ntmps16
    go_wp2_with (at_builtin; go_must (refine wpList_append_own _ rfl _ _ 22 rfl w.heap.size 34 i _ 3 32 Try.underlying22 HI.out HZ0.out HZ1.out HZ2.out rfl (by decide) _ 0 [] rfl hE.out ⟨b, off, none⟩ n cap (opsCells l) rfl (by rw [opsCells_len, HN.out]) (oc_at HC.out) (oc_one l) (by unfold maxLen; omega) (by omega) (by simp) ?_; intro v1 w1 hown1 hg1 _))
    rw [Nat.zero_add, List.nil_append] at hown1
    have hB1 : Below w.heap.size w w1 := hB0.grown hg1 (by simp) (fun k hk => Nat.le_of_eq (Option.some.inj (show some w.heap.size = some k from hk)))
    obtain ⟨A', cap', rfl⟩ := own_slice hown1
    have HO := Lib.hid hown1
    clear hown1
    go_ret
    first | exact ⟨A', ⟨cap', rfl⟩, hB1, HO.out⟩ | exact ⟨A', cap', rfl, hB1, HO.out⟩
end Go.Proofs.Yteddbeifnolklaa
