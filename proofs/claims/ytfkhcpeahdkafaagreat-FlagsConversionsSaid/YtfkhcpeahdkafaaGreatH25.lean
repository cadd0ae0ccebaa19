/- Flags: the law FlagsKeeps. Flags: the reference, the small functions. Flags: the reference's Get. -/
import Derived.Test.YtfkhcpeahdkafaaGreatH17
import Derived.Test.YtfkhcpeahdkafaaGreatH24
namespace Hb
open Go Go.RowKit
def NmAt (W : World) (g : Nat) : Prop := g < W.heap.size ∧ ∀ j, j < 9 → W.cell? ⟨g, j, none⟩ = some (.string (fN j))
theorem NmAt.below {W W' : World} {g : Nat} (h : NmAt W g) (hB : Below W.heap.size W W') : NmAt W' g := ⟨Nat.lt_of_lt_of_le h.1 hB.size, fun j hj => (hB.cell (p := ⟨g, j, none⟩) h.1).trans (h.2 j hj)⟩
end Hb
namespace Go.Proofs.YtfkhcpeahdkafaaGreat
open Go.RowKit Hb
set_option maxRecDepth 100000
end Go.Proofs.YtfkhcpeahdkafaaGreat
namespace Hb
open Go Go.RowKit
end Hb
namespace Go.Proofs.YtfkhcpeahdkafaaGreat
open Go.RowKit Hb
set_option maxRecDepth 100000
theorem r8_valid (f : FlR) (w : World) : Calls Tryz.prog 13 #[.agg #[.int .i64 f.q, .int .i64 f.u, .bool f.c, .bool f.d]] w fun e w' => e = .returned (.bool (flOk f)) ∧ Below w.heap.size w w' := by
 have hB := (Below.refl w.heap.size w).alloc (Nat.le_refl _) (.cells #[.int .i64 f.q, .int .i64 f.u, .bool f.c, .bool f.d] 23)
 have HF : Hid (flOk f = (decide (1 ≤ f.q) && (decide (f.q ≤ 3) && (f.u == 1 || f.u == 2)))) := Lib.hid rfl
 generalize flOk f = r at *
 generalize f.q = q at *
 generalize f.u = u at *
 generalize f.c = c at *
 generalize f.d = d at *
 have d0 : q < 1 ∨ 3 < q ∨ (1 ≤ q ∧ q ≤ 3) := by omega
 have d1 : u < 1 ∨ 2 < u ∨ (1 ≤ u ∧ u ≤ 2) := by omega
 rcases d0 with d0 | d0 | ⟨d0, d0'⟩ <;> rcases d1 with d1 | d1 | ⟨d1, d1'⟩
 all_goals
  go_enter Tryz.func13, Tryz.ntmps13
  go_wp2_with fail
  go_ret
  refine ⟨ret_bool ?_, hB⟩
  rw [HF.out, Bool.eq_iff_iff]
  simp
  omega
end Go.Proofs.YtfkhcpeahdkafaaGreat
namespace Hb
open Go Go.RowKit
end Hb
namespace Go.Proofs.YtfkhcpeahdkafaaGreat
open Go.RowKit Hb
set_option maxRecDepth 100000
end Go.Proofs.YtfkhcpeahdkafaaGreat
