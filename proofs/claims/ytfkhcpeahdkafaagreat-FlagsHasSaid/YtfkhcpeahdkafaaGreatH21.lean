/- Flags: the law FlagsKeeps. Flags: the reference, the small functions. Flags: the reference's Get. -/
import Derived.Test.YtfkhcpeahdkafaaGreatH20
namespace Hb
open Go Go.RowKit
/-- The names of the flags lie in a block. -/
def NmAt (W : World) (g : Nat) : Prop := g < W.heap.size ∧ ∀ j, j < 9 → W.cell? ⟨g, j, none⟩ = some (.string (fN j))
theorem NmAt.below {W W' : World} {g : Nat} (h : NmAt W g) (hB : Below W.heap.size W W') : NmAt W' g := ⟨Nat.lt_of_lt_of_le h.1 hB.size, fun j hj => (hB.cell (p := ⟨g, j, none⟩) h.1).trans (h.2 j hj)⟩
end Hb
namespace Go.Proofs.YtfkhcpeahdkafaaGreat
open Go.RowKit Hb
set_option maxRecDepth 100000
end Go.Proofs.YtfkhcpeahdkafaaGreat
namespace Hb
open Go Go.RowKit
/-- A name is that of a flag, or of none. -/
theorem nm_cases (s : ByteArray) : (∃ k, k < 9 ∧ fIx s = k ∧ s.toList = (fN k).toList) ∨ (fIx s = 9 ∧ ∀ j, j < 9 → ¬ s.toList = (fN j).toList) := by
  by_cases h : fIx s < 9
  · exact .inl ⟨fIx s, h, rfl, fIx_lt h⟩
  · right
    have h2 : ∀ j, j < 9 → ¬ s.toList = (fN j).toList := fun j hj e => h (by
      rw [show s = fN j from ba_ext e, fIx_fN j hj]; exact hj)
    exact ⟨fIx_no (fun j hj e => h2 j hj e.symm), h2⟩
end Hb
namespace Go.Proofs.YtfkhcpeahdkafaaGreat
open Go.RowKit Hb
set_option maxRecDepth 100000
end Go.Proofs.YtfkhcpeahdkafaaGreat
namespace Hb
open Go Go.RowKit
theorem setg_other (X : World) (g : Nat) (a b c d : Value) {k : Nat} (h : k ≠ g) : ((((X.setCell ⟨g, 0, none⟩ a).setCell ⟨g, 1, none⟩ b).setCell ⟨g, 2, none⟩ c).setCell ⟨g, 3, none⟩ d).heap[k]? = X.heap[k]? := by
  rw [heap_setCell_other _ _ _ _ h, heap_setCell_other _ _ _ _ h, heap_setCell_other _ _ _ _ h, heap_setCell_other _ _ _ _ h]
end Hb
namespace Go.Proofs.YtfkhcpeahdkafaaGreat
open Go.RowKit Hb
set_option maxRecDepth 100000
end Go.Proofs.YtfkhcpeahdkafaaGreat
