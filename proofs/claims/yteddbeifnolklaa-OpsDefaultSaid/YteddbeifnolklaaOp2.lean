/- Operators: compare. -/
import Derived.Test.YteddbeifnolklaaOp1
import Derived.Deep.RegionHeld3
namespace Hb
open Go Go.RowKit
structure CmpHeld (w0 w : World) (a b : OpR) : Prop where
  bel : Below w0.heap.size w0 w
  lt : w0.heap.size + 1 < w.heap.size
  dr : w0.drawn ≤ w.drawn
  a0 : w.cell? ⟨w0.heap.size, 0, none⟩ = some (.string a.name)
  a1 : w.cell? ⟨w0.heap.size, 1, none⟩ = some (.int .i64 a.typ)
  b0 : w.cell? ⟨w0.heap.size + 1, 0, none⟩ = some (.string b.name)
  b1 : w.cell? ⟨w0.heap.size + 1, 1, none⟩ = some (.int .i64 b.typ)
section
variable {w0 w w' : World} {a b : OpR}
theorem CmpHeld.keep (h : CmpHeld w0 w a b) : w.cell? ⟨w0.heap.size, 0, none⟩ = some (.string a.name) ∧ w.cell? ⟨w0.heap.size, 1, none⟩ = some (.int .i64 a.typ) ∧ w.cell? ⟨w0.heap.size + 1, 0, none⟩ = some (.string b.name) ∧ w.cell? ⟨w0.heap.size + 1, 1, none⟩ = some (.int .i64 b.typ) ∧ CmpHeld w0 w a b := ⟨h.a0, h.a1, h.b0, h.b1, h⟩
theorem CmpHeld.of (h : w.cell? ⟨w0.heap.size, 0, none⟩ = some (.string a.name) ∧ w.cell? ⟨w0.heap.size, 1, none⟩ = some (.int .i64 a.typ) ∧ w.cell? ⟨w0.heap.size + 1, 0, none⟩ = some (.string b.name) ∧ w.cell? ⟨w0.heap.size + 1, 1, none⟩ = some (.int .i64 b.typ) ∧ CmpHeld w0 w a b) : CmpHeld w0 w a b := h.2.2.2.2
theorem CmpHeld.call (hB : Below w.heap.size w w') (hD : w.drawn ≤ w'.drawn) (h : CmpHeld w0 w a b) : CmpHeld w0 w' a b where
  bel := h.bel.trans (hB.mono (by have := h.lt; omega))
  lt := Nat.lt_of_lt_of_le h.lt hB.size
  dr := Nat.le_trans h.dr hD
  a0 := (hB.cell (p := ⟨_, _, none⟩) (by have := h.lt; show w0.heap.size < _; omega)).trans h.a0
  a1 := (hB.cell (p := ⟨_, _, none⟩) (by have := h.lt; show w0.heap.size < _; omega)).trans h.a1
  b0 := (hB.cell (p := ⟨_, _, none⟩) h.lt).trans h.b0
  b1 := (hB.cell (p := ⟨_, _, none⟩) h.lt).trans h.b1
theorem CmpHeld.drew (h : CmpHeld w0 w a b) : CmpHeld w0 w.drew a b := h.call (Below.refl w.heap.size w).drew (Nat.le_succ _)
theorem CmpHeld.alloc (h : CmpHeld w0 w a b) (o : Obj) : CmpHeld w0 (w.alloc o) a b := h.call ((Below.refl w.heap.size w).alloc (Nat.le_refl _) o) (Nat.le_refl _)
theorem CmpHeld.start (w : World) (a b : OpR) (e : TypeId) : CmpHeld w ((w.alloc (.cells #[.string a.name, .int .i64 a.typ, .int .i64 a.prec] e)).alloc (.cells #[.string b.name, .int .i64 b.typ, .int .i64 b.prec] e)) a b where
  bel := ((Below.refl _ _).alloc (Nat.le_refl _) _).alloc (by simp) _
  lt := by simp
  dr := Nat.le_refl _
  a0 := (World.grownBy_alloc _ _ none).cell (World.cell?_alloc_new _ _ _ 0) (by simp)
  a1 := (World.grownBy_alloc _ _ none).cell (World.cell?_alloc_new _ _ _ 1) (by simp)
  b0 := by
    rw [show w.heap.size + 1 = (w.alloc (.cells #[.string a.name, .int .i64 a.typ, .int .i64 a.prec] e)).heap.size by simp]
    exact World.cell?_alloc_new _ _ _ 0
  b1 := by
    rw [show w.heap.size + 1 = (w.alloc (.cells #[.string a.name, .int .i64 a.typ, .int .i64 a.prec] e)).heap.size by simp]
    exact World.cell?_alloc_new _ _ _ 1
end
end Hb
namespace Go.Proofs.Yteddbeifnolklaa
open Go.RowKit Hb
set_option maxRecDepth 100000
set_option maxHeartbeats 1600000 in
theorem op_compare_up (a b : OpR) (w : World) : Calls Try.prog 35 #[opV a, opV b] w fun e w' => e = .returned (.int .i64 (cmpOp a b)) ∧ Below w.heap.size w w' ∧ w.drawn ≤ w'.drawn := by
  unfold opV
  have HK := Lib.hid (show cmpOp a b = orI (cmpS a.name b.name) (cmpN (clsOp a.typ) (clsOp b.typ)) from rfl)
  have H1 := CmpHeld.start w a b 34
  go_enter Try.func35, Try.ntmps35
  go_wp2_with fail
  go_region_held3 (fun w' => w'.cell? ⟨w.heap.size, 0, none⟩ = some (.string a.name) ∧ w'.cell? ⟨w.heap.size, 1, none⟩ = some (.int .i64 a.typ) ∧ w'.cell? ⟨w.heap.size + 1, 0, none⟩ = some (.string b.name) ∧ w'.cell? ⟨w.heap.size + 1, 1, none⟩ = some (.int .i64 b.typ) ∧ CmpHeld w w' a b)
    (first | with_reducible exact H1.drew.keep | with_reducible exact CmpHeld.keep (CmpHeld.of (by with_reducible assumption)) | with_reducible exact CmpHeld.keep (CmpHeld.call (by with_reducible assumption) (by with_reducible assumption) (CmpHeld.of (by with_reducible assumption))) | with_reducible exact CmpHeld.keep (CmpHeld.alloc (CmpHeld.of (by with_reducible assumption)) _))
    (first
      | (go_at_call 55; (with_reducible refine (cmp_str a.name b.name _).mono ?_); rintro e w2 ⟨rfl, rfl⟩)
      | (go_at_call 38; first | ((with_reducible refine (op_class_up a.typ _).mono ?_); rintro e w2 ⟨rfl, hB2, hD2⟩) | ((with_reducible refine (op_class_up b.typ _).mono ?_); rintro e w2 ⟨rfl, hB2, hD2⟩))
      | (go_at_call 56; (with_reducible refine (cmp_int (clsOp a.typ) (clsOp b.typ) _).mono ?_); rintro e w2 ⟨rfl, rfl⟩)
      | (go_at_call 54; (with_reducible refine (cmp_or (cmpS a.name b.name) (cmpN (clsOp a.typ) (clsOp b.typ)) _ _ _ rfl).mono ?_); rintro e w2 ⟨rfl, rfl⟩))
  all_goals go_wp2_with fail
  all_goals go_ret
  all_goals exact ⟨ret_int HK.out.symm, CmpHeld.bel (CmpHeld.of (by with_reducible assumption)), CmpHeld.dr (CmpHeld.of (by with_reducible assumption))⟩
theorem op_compare (a b : OpR) (w : World) : Calls Try.prog 35 #[opV a, opV b] w fun e w' => e = .returned (.int .i64 (cmpOp a b)) ∧ Below w.heap.size w w' :=
  (op_compare_up a b w).mono fun _ _ ⟨he, hb, _⟩ => ⟨he, hb⟩
end Go.Proofs.Yteddbeifnolklaa
