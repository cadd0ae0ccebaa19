/- Flags: the laws' helpers. -/
import Derived.Test.YtfkhcpeahdkafaaGreatM16
import Derived.Test.YtfkhcpeahdkafaaGreatM14
import Derived.Test.YtfkhcpeahdkafaaGreatM17
namespace Hb
open Go Go.RowKit
def zeroT (t : Tm) : Bool := t.kind == 0 && (t.num == 0 && (t.name.toList == [] && t.args.length == 0))
end Hb
namespace Go.Proofs.YtfkhcpeahdkafaaGreat
open Go.RowKit Hb
set_option maxRecDepth 100000
theorem law_atom (s : ByteArray) (w : World) : Calls Tryz.prog 34 #[.string s] w fun e w' => e = .returned (.agg #[.int .i64 2, .int .i64 0, .string s, .slice none 0 0]) ∧ Below w.heap.size w w' := by
  have hB := (Below.refl w.heap.size w).alloc (Nat.le_refl _) (.cells #[.int .i64 2, .int .i64 0, .string s, .slice none 0 0] 26)
  go_enter Tryz.func34, Tryz.ntmps34
  go_wp2_with fail
  exact bodyPost_ret (v := .agg #[.int .i64 2, .int .i64 0, .string s, .slice none 0 0]) (by simp [results, Tryz.results34, go_sem]) rfl ⟨rfl, hB⟩
theorem law_number (n : Int) (w : World) : Calls Tryz.prog 36 #[.int .i64 n] w fun e w' => e = .returned (.agg #[.int .i64 1, .int .i64 n, .string ⟨#[]⟩, .slice none 0 0]) ∧ Below w.heap.size w w' := by
  have hB := (Below.refl w.heap.size w).alloc (Nat.le_refl _) (.cells #[.int .i64 1, .int .i64 n, .string ⟨#[]⟩, .slice none 0 0] 26)
  go_enter Tryz.func36, Tryz.ntmps36
  go_wp2_with fail
  exact bodyPost_ret (v := .agg #[.int .i64 1, .int .i64 n, .string ⟨#[]⟩, .slice none 0 0]) (by simp [results, Tryz.results36, go_sem]) rfl ⟨rfl, hB⟩
theorem law_goal (s : ByteArray) (A : Option Addr) (n c : Nat) (w : World) : Calls Tryz.prog 35 #[.string s, .slice A n c] w fun e w' => e = .returned (.agg #[.int .i64 3, .int .i64 0, .string s, .slice A n c]) ∧ Below w.heap.size w w' := by
  have hB := (Below.refl w.heap.size w).alloc (Nat.le_refl _) (.cells #[.int .i64 3, .int .i64 0, .string s, .slice A n c] 26)
  go_enter Tryz.func35, Tryz.ntmps35
  go_wp2_with fail
  exact bodyPost_ret (v := .agg #[.int .i64 3, .int .i64 0, .string s, .slice A n c]) (by simp [results, Tryz.results35, go_sem]) rfl ⟨rfl, hB⟩
theorem law_same (t u : Tm) (A B : Option Addr) (c d : Nat) (w : World) (hT : TmsAt w.heap.size w A t.args) (hU : TmsAt w.heap.size w B u.args) :
    Calls Tryz.prog 18 #[tmV t A c, tmV u B d] w fun e w' => e = .returned (.bool (sameT t u)) ∧ Below w.heap.size w w' := by
  have HB := Lib.hid (((Below.refl w.heap.size w).alloc (Nat.le_refl _) (.cells #[.int .i64 t.kind, .int .i64 t.num, .string t.name, .slice A t.args.length c] 26)).alloc (by simp) (.cells #[.int .i64 u.kind, .int .i64 u.num, .string u.name, .slice B u.args.length d] 26))
  have HC := Lib.hid (r3_same t u A B c d _ ((hT.keep HB.out).mono HB.out.size) ((hU.keep HB.out).mono HB.out.size))
  unfold tmV at *
  go_enter Tryz.func18, Tryz.ntmps18
  go_wp2_with fail
  refine HC.out.mono ?_; rintro e w1 ⟨rfl, hB1⟩
  go_wp2_with fail
  go_ret
  exact ⟨rfl, HB.out.trans (hB1.mono HB.out.size)⟩
theorem law_zero (t : Tm) (A : Option Addr) (cap : Nat) (w : World) : Calls Tryz.prog 19 #[tmV t A cap] w fun e w' => e = .returned (.bool (zeroT t)) ∧ Below w.heap.size w w' := by
  have HR : Hid (zeroT t = (t.kind == 0 && (t.num == 0 && (t.name.toList == [] && t.args.length == 0)))) := Lib.hid rfl
  unfold tmV
  generalize zeroT t = r at *
  generalize t.kind = a0 at *
  generalize t.num = a1 at *
  generalize t.name = a2 at *
  generalize t.args.length = a3 at *
  have hB := (Below.refl w.heap.size w).alloc (Nat.le_refl _) (.cells #[.int .i64 a0, .int .i64 a1, .string a2, .slice A a3 cap] 26)
  by_cases d0 : a0 = 0
  · subst d0
    by_cases d1 : a1 = 0
    · subst d1
      by_cases d2 : a2.toList = []
      · by_cases d3 : a3 = 0
        · subst d3
          go_enter Tryz.func19, Tryz.ntmps19
          go_wp2_with fail
          go_ret
          exact ⟨ret_bool (by rw [HR.out]; simp [*]), hB⟩
        · have h1 : ((a3 : Int) == 0) = (a3 == 0) := by rw [Bool.eq_iff_iff]; simp
          go_enter Tryz.func19, Tryz.ntmps19
          go_wp2_with fail
          go_ret
          exact ⟨ret_bool (by rw [HR.out]; simp [*]), hB⟩
      · go_enter Tryz.func19, Tryz.ntmps19
        go_wp2_with fail
        go_ret
        exact ⟨ret_bool (by rw [HR.out]; simp [*]), hB⟩
    · go_enter Tryz.func19, Tryz.ntmps19
      go_wp2_with fail
      go_ret
      exact ⟨ret_bool (by rw [HR.out]; simp [*]), hB⟩
  · go_enter Tryz.func19, Tryz.ntmps19
    go_wp2_with fail
    go_ret
    exact ⟨ret_bool (by rw [HR.out]; simp [*]), hB⟩
end Go.Proofs.YtfkhcpeahdkafaaGreat
