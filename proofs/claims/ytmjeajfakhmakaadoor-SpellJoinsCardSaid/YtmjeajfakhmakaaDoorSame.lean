/- Contracts of layer 9's reference: Same, at rows of the same tokens. -/
import Derived.Test.YtmjeajfakhmakaaDoorAll
namespace Go.Proofs.YtmjeajfakhmakaaDoor
open Go.RowKit Hb
set_option maxRecDepth 100000

/-- One token in memory. -/
structure TokAt (w : World) (b o : Nat) (r : NextR) : Prop where
  lt : b < w.heap.size
  c0 : w.cell? ⟨b, o, none⟩ = some (.int .i64 r.r.kind)
  c1 : w.cell? ⟨b, o + 1, none⟩ = some (.string ⟨r.r.text.toArray⟩)
  c2 : w.cell? ⟨b, o + 2, none⟩ = some (.int .i64 r.r.n)
  c3 : w.cell? ⟨b, o + 3, none⟩ = some (.int .i64 r.r.at_)
  c4 : w.cell? ⟨b, o + 4, none⟩ = some (.int .i64 r.r.end_)
  c5 : w.cell? ⟨b, o + 5, none⟩ = some (.bool r.lay)
theorem TokAt.below {w w' : World} {b o : Nat} {r : NextR} (h : TokAt w b o r) {B : Nat} (hB : Below B w w') (hb : b < B) : TokAt w' b o r where
  lt := Nat.lt_of_lt_of_le h.lt hB.size
  c0 := (hB.cell (p := ⟨b, _, none⟩) hb).trans h.c0
  c1 := (hB.cell (p := ⟨b, _, none⟩) hb).trans h.c1
  c2 := (hB.cell (p := ⟨b, _, none⟩) hb).trans h.c2
  c3 := (hB.cell (p := ⟨b, _, none⟩) hb).trans h.c3
  c4 := (hB.cell (p := ⟨b, _, none⟩) hb).trans h.c4
  c5 := (hB.cell (p := ⟨b, _, none⟩) hb).trans h.c5
/-- A slice that reads as a list of tokens. -/
def Toks (w : World) (A : Option Addr) (l : List NextR) : Prop :=
  ∀ j (h : j < l.length), ∃ b off, A = some ⟨b, off, none⟩ ∧ TokAt w b (off + j * 6) l[j]
theorem Toks.below {w w' : World} {A : Option Addr} {l : List NextR} (h : Toks w A l) (hb : Below w.heap.size w w') : Toks w' A l := fun j hj => by
  obtain ⟨b, off, e, t⟩ := h j hj
  exact ⟨b, off, e, t.below hb t.lt⟩
theorem toks_cell : ∀ (l : List NextR) (j : Nat) (h : j < l.length) (k : Nat) (v : Value), (nxtCells l[j])[k]? = some v → (toksCells l)[j * 6 + k]? = some v
  | r :: l, 0, _, k, v, hk => by
    have : k < (nxtCells r).length := by
      rcases Nat.lt_or_ge k (nxtCells r).length with h | h
      · exact h
      · rw [List.getElem_cons_zero, List.getElem?_eq_none h] at hk; cases hk
    unfold toksCells
    rw [List.flatMap_cons, List.getElem?_append_left (by simpa using this)]
    simpa using hk
  | r :: l, j + 1, h, k, v, hk => by
    have := toks_cell l j (by simpa using h) k v (by simpa using hk)
    unfold toksCells at *
    have e : (nxtCells r).length = 6 := rfl
    rw [List.flatMap_cons, List.getElem?_append_right (by rw [e]; omega), e, show (j + 1) * 6 + k - 6 = j * 6 + k by omega]
    exact this
/-- A row of the call's own reads as its tokens. -/
theorem toks_own {w : World} {base : Nat} {v : Value} {l : List NextR} (h : w.ownsRow base 36 6 v l.length (toksCells l)) : ∃ A cap, v = .slice A l.length cap ∧ Toks w A l := by
  obtain ⟨A, cap, rfl⟩ := own_slice h
  refine ⟨A, cap, rfl, fun j hj => ?_⟩
  rcases h.2 with ⟨hv, h0⟩ | ⟨g, cap', cur, hv, hbg, hh, rest⟩
  · omega
  · injection hv with hA _ _
    subst hA
    refine ⟨g, 0, rfl, ?_⟩
    have hc := h.cells (g := g) rfl
    have key : ∀ (k : Nat) (u : Value), (nxtCells l[j])[k]? = some u → w.cell? ⟨g, 0 + j * 6 + k, none⟩ = some u := fun k u hu => by
      have := hc _ u (toks_cell l j hj k u hu)
      have e1 : (⟨g, 0, none⟩ : Addr).add (j * 6 + k) = ⟨g, 0 + j * 6 + k, none⟩ := by unfold Addr.add; split <;> simp_all
      rw [e1] at this
      exact this
    exact ⟨(h.lt g rfl).2, key 0 _ rfl, key 1 _ rfl, key 2 _ rfl, key 3 _ rfl, key 4 _ rfl, key 5 _ rfl⟩

set_option maxHeartbeats 1600000 in
theorem ref_same (A B : Option Addr) (n c1 c2 : Nat) (l : List NextR) (w : World) (hn : n = l.length) (hm : n ≤ maxLen) (h1 : Toks w A l) (h2 : Toks w B l) :
    Calls Tryd.prog 46 #[.slice A n c1, .slice B n c2] w fun e w' => e = .returned (.bool true) ∧ Below w.heap.size w w' := by
  unfold maxLen at hm
  have HN := Lib.hid hn
  have H1 := Lib.hid h1
  have H2 := Lib.hid h2
  clear hn h1 h2
  go_enter Tryd.func46, Tryd.ntmps46
  go_wp2_with fail
  go_loopw [5] (fun i wr => ∃ k : Nat, k ≤ n ∧ i = .int .i64 k ∧ Below w.heap.size w wr) (fun i _ => n - (intOf i).toNat)
  case atStart => exact ⟨0, Nat.zero_le _, rfl, Below.refl _ _⟩
  case round =>
    obtain ⟨k, hk, rfl, hB⟩ := hrel
    by_cases hlt : k < n
    · have hs := hB.size
      have hkl : k < l.length := by have := HN.out; omega
      obtain ⟨b, off, rfl, T1⟩ := (H1.out.below hB) k hkl
      obtain ⟨b', off', rfl, T2⟩ := (H2.out.below hB) k hkl
      obtain ⟨hb, a0, a1, a2, a3, a4, a5⟩ := T1
      obtain ⟨hb', d0, d1, d2, d3, d4, d5⟩ := T2
      generalize l[k] = r at *
      go_wp2_with fail
      go_quiet (fail)
      go_wp2_with fail
      go_roundw
      case rel => exact ⟨k + 1, by omega, by go_num, bl_drewN hB _⟩
      case measure => simp [intOf]; omega
    · obtain rfl : k = n := by omega
      go_wp2_with fail
      go_ret
      exact ⟨rfl, hB⟩
end Go.Proofs.YtmjeajfakhmakaaDoor
