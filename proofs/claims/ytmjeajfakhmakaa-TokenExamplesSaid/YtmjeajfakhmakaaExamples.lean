/- The walk of the law: TokenExamples. -/
import Derived.Test.YtmjeajfakhmakaaAwake
namespace Go.Proofs.Ytmjeajfakhmakaa
open Go.RowKit Hb
set_option maxRecDepth 100000

theorem nx (t : ByteArray) (k : Int) (r : NextR) (h : nextTop t.data.toList k [] = r) (hs : t.size ≤ maxLen) (w : World) : Calls Try.prog 16 #[.string t, .int .i64 k, .slice none 0 0] w fun e w' => e = .returned (nxtTup r) ∧ Below w.heap.size w w' := by
  subst h; exact (token_next t k none 0 0 [] w rfl (by decide) hs (Pairs.nil w none))
theorem al (t : ByteArray) (k : Int) (r : AllR) (h : allTop t.data.toList k [] = r) (hs : t.size ≤ maxLen) (w : World) : Calls Try.prog 12 #[.string t, .int .i64 k, .slice none 0 0] w (GivesA r w) := by
  subst h; exact (token_all t k none 0 0 [] w rfl (by decide) hs (Pairs.nil w none))

set_option maxHeartbeats 1600000 in
theorem law_fails (t : ByteArray) (k x e : Int) (h : nextTop t.data.toList k [] = ⟨errR e, false, x⟩) (hs : t.size ≤ maxLen) (w : World) : Calls Try.prog 23 #[.string t, .int .i64 k, .int .i64 x, .int .i64 e] w fun e w' => e = .returned (.bool true) ∧ Below w.heap.size w w' := by
  have HX := Lib.hid (nx t k _ h hs w)
  clear h
  go_enter Try.func23, Try.ntmps23
  go_wp2_with fail
  refine HX.out.mono ?_; rintro e w1 ⟨rfl, hB1⟩
  unfold nxtTup errR
  go_wp2_with fail
  go_ret
  exact ⟨rfl, hB1.alloc hB1.size _⟩

theorem cell_kept {w w' : World} {cs : Array Value} {e : TypeId} (hB : Below (w.alloc (.cells cs e)).heap.size (w.alloc (.cells cs e)) w') (j : Nat) : w'.cell? ⟨w.heap.size, j, none⟩ = cs[j]? := by
  rw [hB.cell (p := ⟨w.heap.size, j, none⟩) (by simp), World.cell?_alloc_new]
theorem sk (t : ByteArray) (k : Int) (r : Int) (h : skipTop t.data.toList k [] = r) (hs : t.size ≤ maxLen) (w : World) : Calls Try.prog 20 #[.string t, .int .i64 k, .slice none 0 0] w fun e w' => e = .returned (.int .i64 r) ∧ Below w.heap.size w w' := by
  subst h; exact (token_skip t k none 0 0 [] w rfl (by decide) hs (Pairs.nil w none))

set_option maxHeartbeats 1600000 in
theorem law_examples (w : World) : Calls Try.prog 9 #[] w fun e w' => e = .returned (.bool true) ∧ Below w.heap.size w w' := by
  go_enter Try.func9, Try.ntmps9
  go_wp2_with fail
  refine (law_awake _).mono ?_; rintro e w1 ⟨rfl, hB1⟩
  go_wp2_with fail
  refine (nx _ _ _ ev_a (by decide) _).mono ?_; rintro e w2 ⟨rfl, hB2⟩
  unfold nxtTup tx
  go_wp2_with fail
  refine (nx _ _ _ ev_b (by decide) _).mono ?_; rintro e w3 ⟨rfl, hB3⟩
  have a3 := cell_kept hB3
  unfold nxtTup tx
  go_wp2_with fail
  refine (al _ _ _ ev_c (by decide) _).mono ?_; rintro e w4 ⟨v4, rfl, hB4, _⟩
  have b4 := cell_kept hB4
  have h23 : w2.heap.size < w3.heap.size := by have := hB3.size; simp at this; omega
  have h34 : w3.heap.size < w4.heap.size := by have := hB4.size; simp at this; omega
  have a4 := fun j => (hB4.cell (p := ⟨w2.heap.size, j, none⟩) (by simp; omega)).trans ((((Below.refl w3.heap.size w3).alloc (Nat.le_refl _) _).cell (p := ⟨w2.heap.size, j, none⟩) h23).trans (a3 j))
  go_wp2_with fail
  refine (al _ _ _ ev_d (by decide) _).mono ?_; rintro e w5 ⟨v5, rfl, hB5, _⟩
  have h45 := hB5.size
  have a5 := fun j => (hB5.cell (p := ⟨w2.heap.size, j, none⟩) (show w2.heap.size < w4.heap.size by omega)).trans (a4 j)
  have b5 := fun j => (hB5.cell (p := ⟨w3.heap.size, j, none⟩) h34).trans (b4 j)
  have a0 := a5 0
  have a1 := a5 1
  have a2 := a5 2
  have a6 := a5 3
  have a7 := a5 4
  have a8 := a5 5
  have b0 := b5 0
  have b1 := b5 1
  have b2 := b5 2
  have b6 := b5 3
  have b7 := b5 4
  have b8 := b5 5
  have hB : Below w.heap.size w w5 := by
    have h1 := hB1.size
    have h2 := hB2.size
    exact ((((hB1.trans (hB2.mono h1)).alloc (by omega) _).trans (hB3.mono (by simp; omega))).alloc (by omega) _).trans ((hB4.mono (by simp; omega)).trans (hB5.mono (by omega)))
  clear a3 b4 a4 a5 b5 hB1 hB2 hB3 hB4 hB5
  have hs := hB.size
  go_wp2_with fail
  refine (law_fails _ _ _ _ ev_f1 (by decide) _).mono ?_; rintro e w6 ⟨rfl, hB6⟩
  have h6 := hB6.size
  go_wp2_with fail
  refine (law_fails _ _ _ _ ev_f2 (by decide) _).mono ?_; rintro e w7 ⟨rfl, hB7⟩
  have h7 := hB7.size
  go_wp2_with fail
  refine (law_fails _ _ _ _ ev_f3 (by decide) _).mono ?_; rintro e w8 ⟨rfl, hB8⟩
  have h8 := hB8.size
  go_wp2_with fail
  refine (law_fails _ _ _ _ ev_f4 (by decide) _).mono ?_; rintro e w9 ⟨rfl, hB9⟩
  have h9 := hB9.size
  go_wp2_with fail
  refine (law_fails _ _ _ _ ev_f5 (by decide) _).mono ?_; rintro e w10 ⟨rfl, hB10⟩
  have h10 := hB10.size
  go_wp2_with fail
  refine (sk _ _ _ ev_s (by decide) _).mono ?_; rintro e w11 ⟨rfl, hB11⟩
  go_wp2_with fail
  go_ret
  exact ⟨rfl, hB.trans ((hB6.mono hs).trans ((hB7.mono (by omega)).trans ((hB8.mono (by omega)).trans ((hB9.mono (by omega)).trans ((hB10.mono (by omega)).trans (hB11.mono (by omega)))))))⟩
end Go.Proofs.Ytmjeajfakhmakaa
