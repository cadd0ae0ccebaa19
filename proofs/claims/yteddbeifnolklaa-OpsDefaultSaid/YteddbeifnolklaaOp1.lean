/- Operators: class, cmp.Compare, cmp.Or. -/
import Derived.Test.YteddbeifnolklaaChecked
import Derived.Test.YteddbeifnolklaaOpS
import Derived.LoopN
namespace Hb
theorem cls_at (t : Int) : (t < 1 ∧ clsOp t = 0) ∨ (8 ≤ t ∧ clsOp t = 0) ∨ (t = 1 ∧ clsOp t = 2) ∨ (t = 2 ∧ clsOp t = 2) ∨ (t = 3 ∧ clsOp t = 2) ∨ (t = 4 ∧ clsOp t = 1) ∨ (t = 5 ∧ clsOp t = 1) ∨ (t = 6 ∧ clsOp t = 3) ∨ (t = 7 ∧ clsOp t = 3) := by
  unfold clsOp
  grind
end Hb
namespace Go.Proofs.Yteddbeifnolklaa
open Go.RowKit Hb
set_option maxRecDepth 100000
theorem nan_str (a : ByteArray) (w : World) : Calls Try.prog 71 #[.string a] w fun e w' => e = .returned (.bool false) ∧ w' = w := by
  go_enter Try.func71, Try.ntmps71
  go_wp2_with fail
  go_ret
  exact ⟨rfl, rfl⟩
theorem nan_int (a : Int) (w : World) : Calls Try.prog 72 #[.int .i64 a] w fun e w' => e = .returned (.bool false) ∧ w' = w := by
  go_enter Try.func72, Try.ntmps72
  go_wp2_with fail
  go_ret
  exact ⟨rfl, rfl⟩
theorem cmp_str (a b : ByteArray) (w : World) : Calls Try.prog 55 #[.string a, .string b] w fun e w' => e = .returned (.int .i64 (cmpS a b)) ∧ w' = w := by
  go_enter Try.func55, Try.ntmps55
  go_wp2_with (first | (go_at_call 71; first | ((with_reducible refine (nan_str a _).mono ?_); rintro e w1 ⟨rfl, rfl⟩) | ((with_reducible refine (nan_str b _).mono ?_); rintro e w1 ⟨rfl, rfl⟩)))
  all_goals go_ret
  all_goals refine ⟨ret_int ?_, rfl⟩
  all_goals unfold cmpS
  all_goals simp_all
theorem cmp_int (a b : Int) (w : World) : Calls Try.prog 56 #[.int .i64 a, .int .i64 b] w fun e w' => e = .returned (.int .i64 (cmpN a b)) ∧ w' = w := by
  go_enter Try.func56, Try.ntmps56
  go_wp2_with (first | (go_at_call 72; first | ((with_reducible refine (nan_int a _).mono ?_); rintro e w1 ⟨rfl, rfl⟩) | ((with_reducible refine (nan_int b _).mono ?_); rintro e w1 ⟨rfl, rfl⟩)))
  all_goals go_ret
  all_goals refine ⟨ret_int ?_, rfl⟩
  all_goals unfold cmpN
  all_goals grind
theorem op_class_up (t : Int) (w : World) : Calls Try.prog 38 #[.int .i64 t] w fun e w' => e = .returned (.int .i64 (clsOp t)) ∧ Below w.heap.size w w' ∧ w.drawn ≤ w'.drawn := by
  rcases cls_at t with ⟨h, e⟩ | ⟨h, e⟩ | ⟨rfl, e⟩ | ⟨rfl, e⟩ | ⟨rfl, e⟩ | ⟨rfl, e⟩ | ⟨rfl, e⟩ | ⟨rfl, e⟩ | ⟨rfl, e⟩
  all_goals rw [e]
  all_goals clear e
  all_goals go_enter Try.func38, Try.ntmps38
  all_goals go_wp2_with fail
  all_goals go_ret
  all_goals exact ⟨rfl, (Below.refl _ _).alloc (Nat.le_refl _) _, Nat.le_refl _⟩
theorem op_class (t : Int) (w : World) : Calls Try.prog 38 #[.int .i64 t] w fun e w' => e = .returned (.int .i64 (clsOp t)) ∧ Below w.heap.size w w' :=
  (op_class_up t w).mono fun _ _ ⟨he, hb, _⟩ => ⟨he, hb⟩
theorem cmp_or (a b : Int) (w : World) (W : World) (e : TypeId) (hW : W = w.alloc (.cells #[.int .i64 a, .int .i64 b] e)) : Calls Try.prog 54 #[.slice (some ⟨w.heap.size, 0, none⟩) 2 2] W fun e w' => e = .returned (.int .i64 (orI a b)) ∧ w' = W := by
  have c0 : W.cell? ⟨w.heap.size, 0, none⟩ = some (.int .i64 a) := by rw [hW]; exact World.cell?_alloc_new _ _ _ 0
  have c1 : W.cell? ⟨w.heap.size, 1, none⟩ = some (.int .i64 b) := by rw [hW]; exact World.cell?_alloc_new _ _ _ 1
  clear hW
  by_cases d0 : a = 0
  · subst d0
    by_cases d1 : b = 0
    · subst d1
      go_enter Try.func54, Try.ntmps54
      go_wp2_with fail
      refine wp_loop_rounds 3 ?_
      rw [rounds_succ]
      go_wp2_with fail
      rw [rounds_succ]
      go_wp2_with fail
      rw [rounds_succ]
      go_wp2_with fail
      go_ret
      exact ⟨ret_int rfl, rfl⟩
    · have b1 : (b == 0) = false := by simpa using d1
      have e1 : orI 0 b = b := rfl
      go_enter Try.func54, Try.ntmps54
      go_wp2_with fail
      refine wp_loop_rounds 2 ?_
      rw [rounds_succ]
      go_wp2_with fail
      rw [rounds_succ]
      go_wp2_with fail
      go_ret
      exact ⟨ret_int e1.symm, rfl⟩
  · have b1 : (a == 0) = false := by simpa using d0
    have e1 : orI a b = a := if_neg d0
    go_enter Try.func54, Try.ntmps54
    go_wp2_with fail
    refine wp_loop_rounds 1 ?_
    rw [rounds_succ]
    go_wp2_with fail
    go_ret
    exact ⟨ret_int e1.symm, rfl⟩
end Go.Proofs.Yteddbeifnolklaa
