/- Flags: the law FlagsKeeps. Flags: the reference, the small functions. Flags: the reference's Get. -/
import Derived.Test.YtfkhcpeahdkafaaGreatH17
import Derived.Test.YtfkhcpeahdkafaaGreatH30
namespace Hb
open Go Go.RowKit
def NmAt (W : World) (g : Nat) : Prop := g < W.heap.size ∧ ∀ j, j < 9 → W.cell? ⟨g, j, none⟩ = some (.string (fN j))
theorem NmAt.below {W W' : World} {g : Nat} (h : NmAt W g) (hB : Below W.heap.size W W') : NmAt W' g := ⟨Nat.lt_of_lt_of_le h.1 hB.size, fun j hj => (hB.cell (p := ⟨g, j, none⟩) h.1).trans (h.2 j hj)⟩
end Hb
namespace Go.Proofs.YtfkhcpeahdkafaaGreat
open Go.RowKit Hb
set_option maxRecDepth 100000
end Go.Proofs.YtfkhcpeahdkafaaGreat
namespace Hb
open Go Go.RowKit
end Hb
namespace Go.Proofs.YtfkhcpeahdkafaaGreat
open Go.RowKit Hb
set_option maxRecDepth 100000
end Go.Proofs.YtfkhcpeahdkafaaGreat
namespace Hb
open Go Go.RowKit
end Hb
namespace Go.Proofs.YtfkhcpeahdkafaaGreat
open Go.RowKit Hb
set_option maxRecDepth 100000
end Go.Proofs.YtfkhcpeahdkafaaGreat
