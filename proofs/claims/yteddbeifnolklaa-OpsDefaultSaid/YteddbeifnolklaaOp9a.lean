/- Operators: the reference's one and before, in worlds that grow. -/
import Derived.Test.YteddbeifnolklaaOpSort
import Derived.Shelf.SlSortCmp.QuietGrown
namespace Hb
open Go Go.RowKit
theorem bl_grow (w : World) (n : Nat) (os : Array Obj) : Below w.heap.size w (Sort.grow (w.drewN n) os) :=
  ⟨rfl, rfl, rfl, by show w.heap.size ≤ (w.heap ++ os).size; simp, fun k hk => by show (w.heap ++ os)[k]? = _; rw [Array.getElem?_append_left hk]⟩
end Hb
namespace Go.Proofs.Yteddbeifnolklaa
open Go.RowKit Hb
set_option maxRecDepth 100000
set_option maxHeartbeats 1600000 in
theorem ref_one_up (o : OpR) (w : World) : Calls Try.prog 48 #[opV o] w fun e w' => e = .returned (.bool (opOk o)) ∧ ∃ q os', w' = Sort.grow (w.drewN q) os' := by
  unfold opV
  go_enter Try.func48, Try.ntmps48
  go_wp2_with (first | (go_at_call 19; (with_reducible refine (ref_class o.typ _).mono ?_); rintro e w2 ⟨rfl, rfl⟩))
  all_goals go_ret
  all_goals refine ⟨ret_bool ?_, grows_of ((Below.refl _ _).alloc (Nat.le_refl _) _) (Nat.le_refl _)⟩
  all_goals unfold opOk isN
  all_goals grind
theorem ref_before_up (a b : OpR) (w : World) : Calls Try.prog 49 #[opV a, opV b] w fun e w' => e = .returned (.bool (befOp a b)) ∧ ∃ q os', w' = Sort.grow (w.drewN q) os' := by
  have H1 := CmpHeld.start w a b 34
  unfold opV
  cases h : (a.name.toList == b.name.toList)
  · have hs := Lib.hid (show befOp a b = Op.bytesLess a.name.toList b.name.toList by unfold befOp; rw [h, if_neg (by simp)])
    have h2 : ¬a.name.toList = b.name.toList := by simpa using h
    go_enter Try.func49, Try.ntmps49
    go_wp2_with fail
    go_ret
    exact ⟨ret_bool hs.out.symm, grows_of H1.bel H1.dr⟩
  · have hs := Lib.hid (show befOp a b = decide (clsOp a.typ < clsOp b.typ) by unfold befOp; rw [h, if_pos rfl])
    have h2 : a.name.toList = b.name.toList := by simpa using h
    go_enter Try.func49, Try.ntmps49
    go_wp2_with fail
    go_quiet ((go_at_call 19; first | with_reducible exact quiet0 ((ref_class a.typ _).mono fun _ _ ⟨he, hw⟩ => ⟨he, hw.symm⟩) | with_reducible exact quiet0 ((ref_class b.typ _).mono fun _ _ ⟨he, hw⟩ => ⟨he, hw.symm⟩)))
    go_wp2_with fail
    go_ret
    exact ⟨ret_bool hs.out.symm, grows_of (bl_drewN H1.bel _) (Nat.le_trans H1.dr (Nat.le_add_right _ _))⟩
end Go.Proofs.Yteddbeifnolklaa
