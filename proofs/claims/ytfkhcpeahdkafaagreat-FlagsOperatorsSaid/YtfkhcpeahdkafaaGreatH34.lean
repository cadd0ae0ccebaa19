/- Flags: Has is true of the six predicates alone, and Call refuses the others. -/
import Derived.Test.YtfkhcpeahdkafaaGreatH33
import Derived.Test.YtfkhcpeahdkafaaGreatH30
import Derived.Test.YtfkhcpeahdkafaaGreatH19
import Derived.Test.YtfkhcpeahdkafaaGreatH32
namespace Hb
open Go Go.RowKit
end Hb
namespace Go.Proofs.YtfkhcpeahdkafaaGreat
open Go.RowKit Hb Go.Shelf
set_option maxRecDepth 100000
theorem law_variable (n : Int) (w : World) : Calls Tryz.prog 40 #[.int .i64 n] w fun e w' => e = .returned (.agg #[.int .i64 0, .int .i64 n, .string ⟨#[]⟩, .slice none 0 0]) ∧ Below w.heap.size w w' := by
 have hB := (Below.refl w.heap.size w).alloc (Nat.le_refl _) (.cells #[.int .i64 0, .int .i64 n, .string ⟨#[]⟩, .slice none 0 0] 26)
 go_enter Tryz.func40, Tryz.ntmps40
 go_wp2_with fail
 exact bodyPost_ret (v := .agg #[.int .i64 0, .int .i64 n, .string ⟨#[]⟩, .slice none 0 0]) (by simp [results, Tryz.results40, go_sem]) rfl ⟨rfl, hB⟩
end Go.Proofs.YtfkhcpeahdkafaaGreat
