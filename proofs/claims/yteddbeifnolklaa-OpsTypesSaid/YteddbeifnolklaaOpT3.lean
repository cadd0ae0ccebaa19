/- Operators: the reference's Sides. -/
import Derived.Test.YteddbeifnolklaaOp7
namespace Go.Proofs.Yteddbeifnolklaa
open Go.RowKit Hb
set_option maxRecDepth 100000
set_option maxHeartbeats 1600000 in
theorem ref_sides (o : OpR) (w : World) : Calls Try.prog 29 #[opV o] w fun e w' => e = .returned (.tuple #[.int .i64 (sideL o), .int .i64 (sideR o)]) ∧ Below w.heap.size w w' := by
  unfold opV
  generalize hL : sideL o = x
  generalize hR : sideR o = y
  have HL := Lib.hid hL
  have HR := Lib.hid hR
  clear hL hR
  obtain ⟨name, typ, prec⟩ := o
  have hd : prec < 1 ∨ 1200 < prec ∨ ((1 ≤ prec ∧ prec ≤ 1200) ∧ (typ = 1 ∨ typ = 2 ∨ typ = 3 ∨ typ = 4 ∨ typ = 5 ∨ typ = 6 ∨ typ = 7 ∨ (¬typ = 1 ∧ ¬typ = 2 ∧ ¬typ = 3 ∧ ¬typ = 4 ∧ ¬typ = 5 ∧ ¬typ = 6 ∧ ¬typ = 7))) := by omega
  rcases hd with h | h | ⟨⟨h1, h2⟩, rfl | rfl | rfl | rfl | rfl | rfl | rfl | ⟨n1, n2, n3, n4, n5, n6, n7⟩⟩
  all_goals
    go_enter Try.func29, Try.ntmps29
    go_wp2_with fail
    try (go_quiet (fail); go_wp2_with fail)
    refine bodyPost_ret (v := .tuple #[.int .i64 x, .int .i64 y]) ?_ rfl ⟨rfl, by first | exact (Below.refl _ _).alloc (Nat.le_refl _) _ | exact bl_drewN ((Below.refl _ _).alloc (Nat.le_refl _) _) _⟩
    have hl := HL.out
    have hr := HR.out
    unfold sideL at hl
    unfold sideR at hr
    simp [results, Try.results29, go_sem]
    grind
end Go.Proofs.Yteddbeifnolklaa
