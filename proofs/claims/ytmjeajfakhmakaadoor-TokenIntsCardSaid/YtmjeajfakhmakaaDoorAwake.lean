/- The walk of the laws' helper: awake. -/
import Derived.Test.YtmjeajfakhmakaaDoorEv
import Derived.Test.YtmjeajfakhmakaaDoorSame
namespace Go.Proofs.YtmjeajfakhmakaaDoor
open Go.RowKit Hb
set_option maxRecDepth 100000

theorem all_awake (w : World) : Calls Tryd.prog 28 #[.string awakeTxt, .int .i64 0, .slice none 0 0] w fun e w' => ∃ A cap, e = .returned (.tuple #[.slice A 13 cap, .int .i64 0, .int .i64 0]) ∧ Below w.heap.size w w' ∧ Toks w' A awakeToks := by
  refine (token_all awakeTxt 0 none 0 0 [] w rfl (by decide) (by decide) (Pairs.nil w none)).mono ?_
  rw [ev_awake]
  rintro e w' ⟨v, rfl, hB, ho⟩
  obtain ⟨A, cap, rfl, ht⟩ := toks_own ho
  exact ⟨A, cap, rfl, hB, ht⟩
theorem want_toks (w w' : World) (o : TypeId) (hB : Below (w.alloc (.cells (toksCells awakeToks).toArray o)).heap.size (w.alloc (.cells (toksCells awakeToks).toArray o)) w') : Toks w' (some ⟨w.heap.size, 0, none⟩) awakeToks := fun j hj => by
  have hc : ∀ k, w'.cell? ⟨w.heap.size, k, none⟩ = (toksCells awakeToks)[k]? := fun k => by
    rw [hB.cell (p := ⟨w.heap.size, k, none⟩) (by simp), World.cell?_alloc_new]; simp
  refine ⟨_, 0, rfl, ?_⟩
  have key : ∀ (k : Nat) (u : Value), (nxtCells awakeToks[j])[k]? = some u → w'.cell? ⟨w.heap.size, 0 + j * 6 + k, none⟩ = some u := fun k u hu => by
    rw [hc, Nat.zero_add]; exact toks_cell _ j hj k u hu
  exact ⟨by have := hB.size; simp at this; omega, key 0 _ rfl, key 1 _ rfl, key 2 _ rfl, key 3 _ rfl, key 4 _ rfl, key 5 _ rfl⟩

set_option maxHeartbeats 1600000 in
theorem law_awake (w : World) : Calls Tryd.prog 22 #[] w fun e w' => e = .returned (.bool true) ∧ Below w.heap.size w w' := by
  go_enter Tryd.func22, Tryd.ntmps22
  go_wp2_with fail
  refine (all_awake _).mono ?_; rintro e w1 ⟨A, cap, rfl, hB1, T1⟩
  go_wp2_with fail
  refine (ref_same A _ 13 _ _ awakeToks _ rfl (by decide) (T1.below ?_) (want_toks w1 _ _ (Below.refl _ _))).mono ?_
  · exact (Below.refl _ _).alloc (Nat.le_refl _) _
  rintro e w2 ⟨rfl, hB2⟩
  go_wp2_with fail
  go_ret
  exact ⟨rfl, (hB1.alloc hB1.size _).trans (hB2.mono (by have := hB1.size; simp; omega))⟩
end Go.Proofs.YtmjeajfakhmakaaDoor
