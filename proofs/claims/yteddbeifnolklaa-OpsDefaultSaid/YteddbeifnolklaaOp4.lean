/- Operators: a table in memory; before; the two Valid. -/
import Derived.Test.YteddbeifnolklaaOp3
namespace Hb
open Go Go.RowKit
/-- The operators lie in a row. -/
def OpsAt (w : World) (A : Option Addr) (l : List OpR) : Prop :=
  ∀ j (h : j < l.length), ∃ b off, A = some ⟨b, off, none⟩ ∧ b < w.heap.size ∧ w.cell? ⟨b, off + j * 3, none⟩ = some (.string l[j].name) ∧ w.cell? ⟨b, off + j * 3 + 1, none⟩ = some (.int .i64 l[j].typ) ∧ w.cell? ⟨b, off + j * 3 + 2, none⟩ = some (.int .i64 l[j].prec)
theorem OpsAt.nil (w : World) (A : Option Addr) : OpsAt w A [] := fun _ h => absurd h (by simp)
theorem OpsAt.below {w w' : World} {A : Option Addr} {l : List OpR} (h : OpsAt w A l) (hb : Below w.heap.size w w') : OpsAt w' A l := fun j hj => by
  obtain ⟨b, off, e, hlt, c0, c1, c2⟩ := h j hj
  exact ⟨b, off, e, Nat.lt_of_lt_of_le hlt hb.size, (hb.cell (p := ⟨b, _, none⟩) hlt).trans c0, (hb.cell (p := ⟨b, _, none⟩) hlt).trans c1, (hb.cell (p := ⟨b, _, none⟩) hlt).trans c2⟩
end Hb
namespace Go.Proofs.Yteddbeifnolklaa
open Go.RowKit Hb
set_option maxRecDepth 100000
theorem ref_before (a b : OpR) (w : World) : Calls Try.prog 49 #[opV a, opV b] w fun e w' => e = .returned (.bool (befOp a b)) ∧ Below w.heap.size w w' := by
  have H1 := CmpHeld.start w a b 34
  unfold opV
  cases h : (a.name.toList == b.name.toList)
  · have hs := Lib.hid (show befOp a b = Op.bytesLess a.name.toList b.name.toList by unfold befOp; rw [h, if_neg (by simp)])
    have h2 : ¬a.name.toList = b.name.toList := by simpa using h
    go_enter Try.func49, Try.ntmps49
    go_wp2_with fail
    go_ret
    exact ⟨ret_bool hs.out.symm, H1.bel⟩
  · have hs := Lib.hid (show befOp a b = decide (clsOp a.typ < clsOp b.typ) by unfold befOp; rw [h, if_pos rfl])
    have h2 : a.name.toList = b.name.toList := by simpa using h
    go_enter Try.func49, Try.ntmps49
    go_wp2_with fail
    go_quiet ((go_at_call 19; first | with_reducible exact quiet0 ((ref_class a.typ _).mono fun _ _ ⟨he, hw⟩ => ⟨he, hw.symm⟩) | with_reducible exact quiet0 ((ref_class b.typ _).mono fun _ _ ⟨he, hw⟩ => ⟨he, hw.symm⟩)))
    go_wp2_with fail
    go_ret
    exact ⟨ret_bool hs.out.symm, bl_drewN H1.bel _⟩
end Go.Proofs.Yteddbeifnolklaa
