/- Contracts: Clone and Same of tables. -/
import Derived.Test.YtmjeajfakhmakaaSame
import Derived.Test.YtmjeajfakhmakaaPairs
import Derived.Laws.AppendOwnNone
namespace Hb
open Go Go.RowKit
def pairCells (l : List (Int × Int)) : List Value := l.flatMap fun p => [.int .i64 p.1, .int .i64 p.2]
theorem pairCells_len (l : List (Int × Int)) : (pairCells l).length = l.length * 2 := by
  unfold pairCells; induction l with
  | nil => rfl
  | cons p l ih => rw [List.flatMap_cons, List.length_append, ih]; simp; omega
theorem pc_even : ∀ (l : List (Int × Int)) (i : Nat) (h : i < l.length), (pairCells l)[i * 2]? = some (.int .i64 l[i].1) ∧ (pairCells l)[i * 2 + 1]? = some (.int .i64 l[i].2)
  | p :: l, 0, _ => ⟨rfl, rfl⟩
  | p :: l, i + 1, h => by
    have := pc_even l i (by simpa using h)
    unfold pairCells at *
    rw [List.flatMap_cons, show (i + 1) * 2 = i * 2 + 2 by omega]
    exact ⟨by simpa using this.1, by simpa using this.2⟩
theorem pc_at {w : World} {b off : Nat} {l : List (Int × Int)} (h : ∀ j (hj : j < l.length), w.cell? ⟨b, off + j * 2, none⟩ = some (.int .i64 l[j].1) ∧ w.cell? ⟨b, off + j * 2 + 1, none⟩ = some (.int .i64 l[j].2)) (j : Nat) (u : Value) (hu : (pairCells l)[j]? = some u) : w.cell? ((⟨b, off, none⟩ : Addr).add j) = some u := by
  have hj : j < (pairCells l).length := by
    rcases Nat.lt_or_ge j (pairCells l).length with hh | hh
    · exact hh
    · rw [List.getElem?_eq_none hh] at hu; cases hu
  rw [pairCells_len] at hj
  have hi : j / 2 < l.length := by omega
  have e1 : (⟨b, off, none⟩ : Addr).add j = ⟨b, off + j, none⟩ := by unfold Addr.add; split <;> simp_all
  obtain ⟨p1, p2⟩ := pc_even l (j / 2) hi
  obtain ⟨q1, q2⟩ := h (j / 2) hi
  rw [e1]
  by_cases he : j % 2 = 0
  · have e2 : j = j / 2 * 2 := by omega
    rw [e2, p1] at hu; injection hu with hu; rw [e2, ← hu]; exact q1
  · have e2 : j = j / 2 * 2 + 1 := by omega
    rw [e2, p2] at hu
    injection hu with hu
    rw [e2, ← hu, ← Nat.add_assoc]; exact q2
theorem pairs_own {w : World} {base e : Nat} {v : Value} {l : List (Int × Int)} (h : w.ownsRow base e 2 v l.length (pairCells l)) : ∃ A cap, v = .slice A l.length cap ∧ Pairs w A l := by
  obtain ⟨A, cap, rfl⟩ := own_slice h
  refine ⟨A, cap, rfl, fun j hj => ?_⟩
  rcases h.2 with ⟨hv, h0⟩ | ⟨g, cap', cur, hv, hbg, hh, rest⟩
  · omega
  · injection hv with hA _ _
    subst hA
    have hc := h.cells (g := g) rfl
    obtain ⟨p1, p2⟩ := pc_even l j hj
    have key : ∀ (k : Nat) (u : Value), (pairCells l)[k]? = some u → w.cell? ⟨g, 0 + k, none⟩ = some u := fun k u hu => by
      have := hc _ u hu
      have e1 : (⟨g, 0, none⟩ : Addr).add k = ⟨g, 0 + k, none⟩ := by unfold Addr.add; split <;> simp_all
      rw [e1] at this
      exact this
    exact ⟨g, 0, rfl, (h.lt g rfl).2, key _ _ p1, key _ _ p2⟩
theorem own_empty (w : World) (base e size : Nat) (hb : base ≤ w.heap.size) : (w.alloc (.cells #[] e)).ownsRow base e size (.slice (some ⟨w.heap.size, 0, none⟩) 0 0) 0 [] :=
  ⟨by simp, .inr ⟨w.heap.size, 0, #[], rfl, hb, by show (w.heap.push _)[w.heap.size]? = _; simp, Nat.le_refl _, Nat.zero_le _, by simp, by simp⟩⟩
end Hb
namespace Go.Proofs.Ytmjeajfakhmakaa
open Go.RowKit Hb
set_option maxRecDepth 100000
theorem infoPair : (Try.prog.info? 55).map (fun i => (i.zero, i.size, i.bytes)) = some (some (.agg #[.int .i64 0, .int .i64 0]), 2, 16) := by kernel_rfl

set_option maxHeartbeats 800000 in
theorem ref_clone (A : Option Addr) (n cap : Nat) (l : List (Int × Int)) (w : World) (hn : n = l.length) (hm : n ≤ 400) (hp : Pairs w A l) (hA : n = 0 → (Value.slice A n cap = .slice none 0 0 ∨ ∃ ad, A = some ad)) :
    Calls Try.prog 15 #[.slice A n cap] w fun e w' => ∃ A' cap', e = .returned (.slice A' n cap') ∧ Below w.heap.size w w' ∧ Pairs w' A' l := by
  obtain ⟨i, hi, hz0, hz1, hz2⟩ := info_parts infoPair
  have HI := Lib.hid hi
  have HZ0 := Lib.hid hz0
  have HZ1 := Lib.hid hz1
  have HZ2 := Lib.hid hz2
  have HN := Lib.hid hn
  have HP := Lib.hid hp
  have hE := Lib.hid (own_empty w w.heap.size 55 2 (Nat.le_refl _))
  have hB0 := (Below.refl w.heap.size w).alloc (Nat.le_refl _) (.cells #[] 55)
  have HPA := Lib.hid (HP.out.below hB0)
  clear hi hz0 hz1 hz2 hn hp
  by_cases hs : ∃ b off, A = some ⟨b, off, none⟩ ∧ ∀ j (hj : j < l.length), (w.alloc (.cells #[] 55)).cell? ⟨b, off + j * 2, none⟩ = some (.int .i64 l[j].1) ∧ (w.alloc (.cells #[] 55)).cell? ⟨b, off + j * 2 + 1, none⟩ = some (.int .i64 l[j].2)
  · obtain ⟨b, off, rfl, hcs⟩ := hs
    have HC := Lib.hid hcs
    clear hcs hA
    go_enter Try.func15, Try.ntmps15
    go_wp2_with (at_builtin; go_must (refine wpList_append_own _ rfl _ _ 22 rfl w.heap.size 55 i _ 2 16 Try.underlying22 HI.out HZ0.out HZ1.out HZ2.out rfl (by decide) _ 0 [] rfl hE.out ⟨b, off, none⟩ n cap (pairCells l) rfl (by rw [pairCells_len, HN.out]) (pc_at HC.out) (by intro u hu; unfold pairCells at hu; rw [List.mem_flatMap] at hu; obtain ⟨p, _, hp⟩ := hu; simp at hp; rcases hp with rfl | rfl <;> rfl) (by unfold maxLen; omega) (by omega) (by simp) ?_; intro v1 w1 hown1 hg1 _))
    rw [Nat.zero_add, List.nil_append] at hown1
    have hB1 : Below w.heap.size w w1 := hB0.grown hg1 (by simp) (fun k hk => Nat.le_of_eq (Option.some.inj (show some w.heap.size = some k from hk)))
    have hown2 := hown1
    rw [HN.out] at hown2
    obtain ⟨A', cap', rfl, hP'⟩ := pairs_own hown2
    clear hown1 hown2
    go_ret
    first | exact ⟨A', cap', by rw [HN.out]; rfl, hB1, hP'⟩ | exact ⟨A', ⟨cap', by rw [HN.out]; rfl⟩, hB1, hP'⟩
  · have h0 : n = 0 := by
      rcases Nat.eq_zero_or_pos n with h | h
      · exact h
      · exfalso
        obtain ⟨b, off, e, _⟩ := HPA.out 0 (by have := HN.out; omega)
        refine hs ⟨b, off, e, fun j hj => ?_⟩
        obtain ⟨b', off', e', _, c1, c2⟩ := HPA.out j hj
        rw [e] at e'; injection e' with e'; injection e' with e1 e2 _; subst e1; subst e2
        exact ⟨c1, c2⟩
    have hl0 : l = [] := List.eq_nil_of_length_eq_zero (by have := HN.out; omega)
    subst hl0
    rcases hA h0 with hv | ⟨ad, rfl⟩
    · injection hv with h1 h2 h3
      subst h1; subst h2; subst h3
      clear hs h0 hA
      go_enter Try.func15, Try.ntmps15
      go_wp2_with (at_builtin; go_must (refine wpList_append_own_none rfl _ _ 22 rfl w.heap.size 55 i 2 Try.underlying22 HI.out _ 0 [] rfl hE.out rfl ?_))
      go_ret
      first | exact ⟨_, _, rfl, hB0, Pairs.nil _ _⟩ | exact ⟨_, ⟨_, rfl⟩, hB0, Pairs.nil _ _⟩
    · subst h0
      clear hs hA
      go_enter Try.func15, Try.ntmps15
      go_wp2_with (at_builtin; go_must (refine wpList_append_own _ rfl _ _ 22 rfl w.heap.size 55 i _ 2 16 Try.underlying22 HI.out HZ0.out HZ1.out HZ2.out rfl (by decide) _ 0 [] rfl hE.out ad 0 cap [] rfl rfl (by intro j u hu; cases hu) (by intro u hu; cases hu) (by unfold maxLen; omega) (by omega) (by simp) ?_; intro v1 w1 hown1 hg1 _))
      have hB1 : Below w.heap.size w w1 := hB0.grown hg1 (by simp) (fun k hk => Nat.le_of_eq (Option.some.inj (show some w.heap.size = some k from hk)))
      obtain ⟨A', cap', rfl⟩ := own_slice hown1
      clear hown1
      go_ret
      first | exact ⟨A', ⟨cap', rfl⟩, hB1, Pairs.nil _ _⟩ | exact ⟨A', cap', rfl, hB1, Pairs.nil _ _⟩

set_option maxHeartbeats 800000 in
theorem ref_same_pairs (A B : Option Addr) (n c1 c2 : Nat) (l : List (Int × Int)) (w : World) (hn : n = l.length) (hm : n ≤ maxLen) (h1 : Pairs w A l) (h2 : Pairs w B l) :
    Calls Try.prog 18 #[.slice A n c1, .slice B n c2] w fun e w' => e = .returned (.bool true) ∧ Below w.heap.size w w' := by
  unfold maxLen at hm
  have HN := Lib.hid hn
  have H1 := Lib.hid h1
  have H2 := Lib.hid h2
  clear hn h1 h2
  go_enter Try.func18, Try.ntmps18
  go_wp2_with fail
  go_loopw [5] (fun i wr => ∃ k : Nat, k ≤ n ∧ i = .int .i64 k ∧ Below w.heap.size w wr) (fun i _ => n - (intOf i).toNat)
  case atStart => exact ⟨0, Nat.zero_le _, rfl, Below.refl _ _⟩
  case round =>
    obtain ⟨k, hk, rfl, hB⟩ := hrel
    by_cases hlt : k < n
    · have hs := hB.size
      have hkl : k < l.length := by have := HN.out; omega
      obtain ⟨b, off, rfl, hb, a0, a1⟩ := (H1.out.below hB) k hkl
      obtain ⟨b', off', rfl, hb', d0, d1⟩ := (H2.out.below hB) k hkl
      generalize l[k] = r at *
      go_wp2_with fail
      go_quiet (fail)
      go_wp2_with fail
      go_roundw
      case rel => exact ⟨k + 1, by omega, by go_num, bl_drewN hB _⟩
      case measure => simp [intOf]; omega
    · obtain rfl : k = n := by omega
      go_wp2_with fail
      go_ret
      exact ⟨rfl, hB⟩
end Go.Proofs.Ytmjeajfakhmakaa
