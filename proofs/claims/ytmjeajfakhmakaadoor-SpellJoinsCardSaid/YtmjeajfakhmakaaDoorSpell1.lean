/- Contracts of spell: alphanumeric, symbol; each of the reference. -/
import Derived.Test.YtmjeajfakhmakaaDoorChars2
import Derived.Test.YtmjeajfakhmakaaDoorSpellS
namespace Go.Proofs.YtmjeajfakhmakaaDoor
open Go.RowKit Hb
set_option maxRecDepth 100000

set_option maxHeartbeats 400000 in
theorem sp_alnum (c : Int) (w : World) (h0 : 0 ≤ c) (h1 : c ≤ 255) :
    Calls Tryd.prog 33 #[.int .u8 c] w fun e w' => e = .returned (.bool (alnum c)) ∧ Below w.heap.size w w' := by
  have HA := Lib.hid (show alnum c = (cls c == 2 || (cls c == 3 || cls c == 4)) from rfl)
  have hw : IntKind.i64.wrap c = c := IntWalk.i64_in _ (by omega)
  rw [HA.out]
  cases d2 : (cls c == 2)
  all_goals cases d3 : (cls c == 3)
  all_goals cases d4 : (cls c == 4)
  all_goals
    go_enter Tryd.func33, Tryd.ntmps33
    go_wp2_with fail
    refine (chars_class _ _).mono ?_; rintro e w1 ⟨rfl, hB1⟩
    go_wp2_with fail
    go_ret
    exact ⟨rfl, hB1⟩

set_option maxHeartbeats 400000 in
theorem sp_symbol (c : Int) (w : World) (h0 : 0 ≤ c) (h1 : c ≤ 255) :
    Calls Tryd.prog 36 #[.int .u8 c] w fun e w' => e = .returned (.bool (isSym c)) ∧ Below w.heap.size w w' := by
  have hw : IntKind.i64.wrap c = c := IntWalk.i64_in _ (by omega)
  go_enter Tryd.func36, Tryd.ntmps36
  go_wp2_with fail
  refine (chars_class _ _).mono ?_; rintro e w1 ⟨rfl, hB1⟩
  go_wp2_with fail
  go_ret
  exact ⟨ret_bool rfl, hB1⟩
end Go.Proofs.YtmjeajfakhmakaaDoor
