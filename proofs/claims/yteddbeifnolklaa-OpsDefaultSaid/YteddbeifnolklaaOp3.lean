/- Operators: valid. -/
import Derived.Test.YteddbeifnolklaaOp2
namespace Hb
open Go Go.RowKit
/-- An operator in a cell of the call's own. -/
structure BoxAt (w0 w : World) (o : OpR) : Prop where
  bel : Below w0.heap.size w0 w
  lt : w0.heap.size < w.heap.size
  c0 : w.cell? ⟨w0.heap.size, 0, none⟩ = some (.string o.name)
  c1 : w.cell? ⟨w0.heap.size, 1, none⟩ = some (.int .i64 o.typ)
  c2 : w.cell? ⟨w0.heap.size, 2, none⟩ = some (.int .i64 o.prec)
theorem BoxAt.call {w0 w w' : World} {o : OpR} (h : BoxAt w0 w o) (hB : Below w.heap.size w w') : BoxAt w0 w' o where
  bel := h.bel.trans (hB.mono (Nat.le_of_lt h.lt))
  lt := Nat.lt_of_lt_of_le h.lt hB.size
  c0 := (hB.cell (p := ⟨_, _, none⟩) h.lt).trans h.c0
  c1 := (hB.cell (p := ⟨_, _, none⟩) h.lt).trans h.c1
  c2 := (hB.cell (p := ⟨_, _, none⟩) h.lt).trans h.c2
theorem BoxAt.start (w : World) (o : OpR) (e : TypeId) : BoxAt w (w.alloc (.cells #[.string o.name, .int .i64 o.typ, .int .i64 o.prec] e)) o where
  bel := (Below.refl _ _).alloc (Nat.le_refl _) _
  lt := by simp
  c0 := World.cell?_alloc_new _ _ _ 0
  c1 := World.cell?_alloc_new _ _ _ 1
  c2 := World.cell?_alloc_new _ _ _ 2
end Hb
namespace Go.Proofs.Yteddbeifnolklaa
open Go.RowKit Hb
set_option maxRecDepth 100000
theorem op_class_box {w0 w : World} {o : OpR} (h : BoxAt w0 w o) (t : Int) : Calls Try.prog 38 #[.int .i64 t] w fun e w' => e = .returned (.int .i64 (clsOp t)) ∧ BoxAt w0 w' o :=
  (op_class t w).mono fun _ _ ⟨he, hb⟩ => ⟨he, h.call hb⟩
set_option maxHeartbeats 1600000 in
theorem op_valid (o : OpR) (w : World) : Calls Try.prog 37 #[opV o] w fun e w' => e = .returned (.bool (opOk o)) ∧ Below w.heap.size w w' := by
  have hX := BoxAt.start w o 34
  have HK := Lib.hid (show opOk o = _ from rfl)
  unfold opV
  go_enter Try.func37, Try.ntmps37
  go_wp2_with (first | (go_at_call 38; (with_reducible refine (op_class_box (by with_reducible assumption) o.typ).mono ?_); rintro e w2 ⟨rfl, hX2⟩; have c0 := hX2.c0; have c1 := hX2.c1; have c2 := hX2.c2))
  all_goals go_ret
  all_goals refine ⟨ret_bool ?_, BoxAt.bel (o := o) (by with_reducible assumption)⟩
  all_goals unfold opOk isN
  all_goals grind
theorem ref_class (t : Int) (w : World) : Calls Try.prog 19 #[.int .i64 t] w fun e w' => e = .returned (.int .i64 (clsOp t)) ∧ w' = w := by
  go_enter Try.func19, Try.ntmps19
  go_wp2_with fail
  all_goals go_ret
  all_goals refine ⟨ret_int ?_, rfl⟩
  all_goals unfold clsOp
  all_goals grind
set_option maxHeartbeats 1600000 in
theorem ref_one (o : OpR) (w : World) : Calls Try.prog 48 #[opV o] w fun e w' => e = .returned (.bool (opOk o)) ∧ Below w.heap.size w w' := by
  unfold opV
  go_enter Try.func48, Try.ntmps48
  go_wp2_with (first | (go_at_call 19; (with_reducible refine (ref_class o.typ _).mono ?_); rintro e w2 ⟨rfl, rfl⟩))
  all_goals go_ret
  all_goals refine ⟨ret_bool ?_, (Below.refl _ _).alloc (Nat.le_refl _) _⟩
  all_goals unfold opOk isN
  all_goals grind
end Go.Proofs.Yteddbeifnolklaa
