/- Flags: char_conversion and set_prolog_flag with a variable. Flags: unbound of one term; current_char_conversion with two variables and an empty table. -/
import Derived.Test.YtfkhcpeahdkafaaGreatH19
namespace Go.Proofs.YtfkhcpeahdkafaaGreat
open Go.RowKit Hb
set_option maxRecDepth 100000
end Go.Proofs.YtfkhcpeahdkafaaGreat
namespace Hb
open Go Go.RowKit
def rvS (OA : Option Addr) (on oc : Nat) (q u : Int) (c d : Bool) (CA : Option Addr) (cn cc : Nat) (ra : Option Addr) (rn rc : Nat) : RV := ⟨OA, on, oc, q, u, c, d, CA, cn, cc, ra, rn, rc, 0, 0, ⟨#[]⟩, none, 0, 0, 0⟩
end Hb
namespace Go.Proofs.YtfkhcpeahdkafaaGreat
open Go.RowKit Hb
set_option maxRecDepth 100000
theorem f_unb1 (x : Tm) (A : Option Addr) (c : Nat) (W : World) (hA : TmsAt W.heap.size W A x.args) : Calls Tryz.prog 152 #[.slice (some ⟨W.heap.size, 0, none⟩) 1 1] (W.alloc (.cells #[.int .i64 x.kind, .int .i64 x.num, .string x.name, .slice A x.args.length c] 26)) fun e w' => e = .returned (.bool (x.kind == 0)) ∧ Below (W.alloc (.cells #[.int .i64 x.kind, .int .i64 x.num, .string x.name, .slice A x.args.length c] 26)).heap.size (W.alloc (.cells #[.int .i64 x.kind, .int .i64 x.num, .string x.name, .slice A x.args.length c] 26)) w' := by
 have hr := TmsK.rows (K := fun b => b < W.heap.size + 1) (w := W) (rs := [(x, A, c)]) (e := 26) (by omega) (by simp [maxLen]) (fun y hy => by
  have hal := Below.alloc (Below.refl W.heap.size W) (Nat.le_refl _) (.cells (rowsC [(x, A, c)]).toArray 26)
  rw [List.mem_singleton.1 hy]
  exact (hA.keep hal).mono (by omega))
 have := f_unbound _ _ 1 _ (TmsK.at' hr)
 rw [show anyVar (([(x, A, c)] : List TR).map (fun x : TR => x.1)) = (x.kind == 0) by simp [anyVar]] at this
 exact this
end Go.Proofs.YtfkhcpeahdkafaaGreat
