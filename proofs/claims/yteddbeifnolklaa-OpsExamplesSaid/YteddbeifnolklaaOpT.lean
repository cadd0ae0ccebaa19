/- Operators: names of types. -/
import Derived.Test.YteddbeifnolklaaOp7
namespace Hb
open Go Go.RowKit
def tyNm (t : Int) : ByteArray := if t = 1 then ⟨#[120, 102, 120]⟩ else if t = 2 then ⟨#[120, 102, 121]⟩ else if t = 3 then ⟨#[121, 102, 120]⟩ else if t = 4 then ⟨#[102, 121]⟩ else if t = 5 then ⟨#[102, 120]⟩ else if t = 6 then ⟨#[120, 102]⟩ else if t = 7 then ⟨#[121, 102]⟩ else ⟨#[]⟩
def tyOk (t : Int) : Bool := decide (1 ≤ t) && decide (t ≤ 7)
theorem ty_at (t : Int) : (t < 1 ∧ tyNm t = ⟨#[]⟩ ∧ tyOk t = false) ∨ (8 ≤ t ∧ tyNm t = ⟨#[]⟩ ∧ tyOk t = false) ∨ t = 1 ∨ t = 2 ∨ t = 3 ∨ t = 4 ∨ t = 5 ∨ t = 6 ∨ t = 7 := by
  unfold tyNm tyOk
  grind
end Hb
namespace Go.Proofs.Yteddbeifnolklaa
open Go.RowKit Hb
set_option maxRecDepth 100000
set_option maxHeartbeats 1600000 in
theorem ops_typeName (t : Int) (w : World) : Calls Try.prog 30 #[.int .i64 t] w fun e w' => e = .returned (.tuple #[.string (tyNm t), .bool (tyOk t)]) ∧ Below w.heap.size w w' := by
  rcases ty_at t with ⟨h, e1, e2⟩ | ⟨h, e1, e2⟩ | rfl | rfl | rfl | rfl | rfl | rfl | rfl
  · rw [e1, e2]
    clear e1 e2
    go_enter Try.func30, Try.ntmps30
    go_wp2_with fail
    exact bodyPost_ret (v := .tuple #[.string ⟨#[]⟩, .bool false]) (by simp [results, Try.results30, go_sem]) rfl ⟨rfl, (Below.refl _ _).alloc (Nat.le_refl _) _⟩
  · rw [e1, e2]
    clear e1 e2
    go_enter Try.func30, Try.ntmps30
    go_wp2_with fail
    exact bodyPost_ret (v := .tuple #[.string ⟨#[]⟩, .bool false]) (by simp [results, Try.results30, go_sem]) rfl ⟨rfl, (Below.refl _ _).alloc (Nat.le_refl _) _⟩
  all_goals
    go_enter Try.func30, Try.ntmps30
    go_wp2_with fail
    refine bodyPost_ret (v := .tuple #[.string (tyNm _), .bool true]) ?_ rfl ⟨rfl, (Below.refl _ _).alloc (Nat.le_refl _) _⟩
    simp [results, Try.results30, go_sem, tyNm]
set_option maxHeartbeats 1600000 in
theorem ref_typeName (t : Int) (w : World) : Calls Try.prog 31 #[.int .i64 t] w fun e w' => e = .returned (.tuple #[.string (tyNm t), .bool (tyOk t)]) ∧ Below w.heap.size w w' := by
  rcases ty_at t with ⟨h, e1, e2⟩ | ⟨h, e1, e2⟩ | rfl | rfl | rfl | rfl | rfl | rfl | rfl
  · rw [e1, e2]
    clear e1 e2
    go_enter Try.func31, Try.ntmps31
    go_wp2_with fail
    exact bodyPost_ret (v := .tuple #[.string ⟨#[]⟩, .bool false]) (by simp [results, Try.results31, go_sem]) rfl ⟨rfl, (Below.refl _ _).alloc (Nat.le_refl _) _⟩
  · rw [e1, e2]
    clear e1 e2
    go_enter Try.func31, Try.ntmps31
    go_wp2_with fail
    exact bodyPost_ret (v := .tuple #[.string ⟨#[]⟩, .bool false]) (by simp [results, Try.results31, go_sem]) rfl ⟨rfl, (Below.refl _ _).alloc (Nat.le_refl _) _⟩
  all_goals
    go_enter Try.func31, Try.ntmps31
    go_wp2_with fail
    refine bodyPost_ret (v := .tuple #[.string (tyNm _), .bool true]) ?_ rfl ⟨rfl, (Below.refl _ _).alloc (Nat.le_refl _) _⟩
    simp [results, Try.results31, go_sem, tyNm]
end Go.Proofs.Yteddbeifnolklaa
