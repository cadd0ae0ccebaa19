/- Flags: the laws' helpers. -/
import Derived.Test.YtfkhcpeahdkafaaGreatH16
import Derived.Test.YtfkhcpeahdkafaaGreatH14
import Derived.Test.YtfkhcpeahdkafaaGreatH17
namespace Hb
open Go Go.RowKit
end Hb
namespace Go.Proofs.YtfkhcpeahdkafaaGreat
open Go.RowKit Hb
set_option maxRecDepth 100000
theorem law_atom (s : ByteArray) (w : World) : Calls Tryz.prog 34 #[.string s] w fun e w' => e = .returned (.agg #[.int .i64 2, .int .i64 0, .string s, .slice none 0 0]) ∧ Below w.heap.size w w' := by
  have hB := (Below.refl w.heap.size w).alloc (Nat.le_refl _) (.cells #[.int .i64 2, .int .i64 0, .string s, .slice none 0 0] 26)
  go_enter Tryz.func34, Tryz.ntmps34
  go_wp2_with fail
  exact bodyPost_ret (v := .agg #[.int .i64 2, .int .i64 0, .string s, .slice none 0 0]) (by simp [results, Tryz.results34, go_sem]) rfl ⟨rfl, hB⟩
theorem law_number (n : Int) (w : World) : Calls Tryz.prog 36 #[.int .i64 n] w fun e w' => e = .returned (.agg #[.int .i64 1, .int .i64 n, .string ⟨#[]⟩, .slice none 0 0]) ∧ Below w.heap.size w w' := by
  have hB := (Below.refl w.heap.size w).alloc (Nat.le_refl _) (.cells #[.int .i64 1, .int .i64 n, .string ⟨#[]⟩, .slice none 0 0] 26)
  go_enter Tryz.func36, Tryz.ntmps36
  go_wp2_with fail
  exact bodyPost_ret (v := .agg #[.int .i64 1, .int .i64 n, .string ⟨#[]⟩, .slice none 0 0]) (by simp [results, Tryz.results36, go_sem]) rfl ⟨rfl, hB⟩
theorem law_goal (s : ByteArray) (A : Option Addr) (n c : Nat) (w : World) : Calls Tryz.prog 35 #[.string s, .slice A n c] w fun e w' => e = .returned (.agg #[.int .i64 3, .int .i64 0, .string s, .slice A n c]) ∧ Below w.heap.size w w' := by
  have hB := (Below.refl w.heap.size w).alloc (Nat.le_refl _) (.cells #[.int .i64 3, .int .i64 0, .string s, .slice A n c] 26)
  go_enter Tryz.func35, Tryz.ntmps35
  go_wp2_with fail
  exact bodyPost_ret (v := .agg #[.int .i64 3, .int .i64 0, .string s, .slice A n c]) (by simp [results, Tryz.results35, go_sem]) rfl ⟨rfl, hB⟩
theorem law_same (t u : Tm) (A B : Option Addr) (c d : Nat) (w : World) (hT : TmsAt w.heap.size w A t.args) (hU : TmsAt w.heap.size w B u.args) :
    Calls Tryz.prog 18 #[tmV t A c, tmV u B d] w fun e w' => e = .returned (.bool (sameT t u)) ∧ Below w.heap.size w w' := by
  have HB := Lib.hid (((Below.refl w.heap.size w).alloc (Nat.le_refl _) (.cells #[.int .i64 t.kind, .int .i64 t.num, .string t.name, .slice A t.args.length c] 26)).alloc (by simp) (.cells #[.int .i64 u.kind, .int .i64 u.num, .string u.name, .slice B u.args.length d] 26))
  have HC := Lib.hid (r3_same t u A B c d _ ((hT.keep HB.out).mono HB.out.size) ((hU.keep HB.out).mono HB.out.size))
  unfold tmV at *
  go_enter Tryz.func18, Tryz.ntmps18
  go_wp2_with fail
  refine HC.out.mono ?_; rintro e w1 ⟨rfl, hB1⟩
  go_wp2_with fail
  go_ret
  exact ⟨rfl, HB.out.trans (hB1.mono HB.out.size)⟩
end Go.Proofs.YtfkhcpeahdkafaaGreat
