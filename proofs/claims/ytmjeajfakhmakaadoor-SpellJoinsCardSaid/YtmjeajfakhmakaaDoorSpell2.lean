/- Contracts of spell: Glue. -/
import Derived.Test.YtmjeajfakhmakaaDoorSpell1
import Derived.Deep.QuietTactic
import Derived.BigQuiet
import Derived.RegionTactic
import Derived.BigRegion
namespace Hb
open Go Go.RowKit
/-- A contract that goes on from a world of the call's own. -/
theorem carry {P : Program} {f : FuncId} {args : Array Value} {w0 w : World} {Q : Ending → Prop} (hB : Below w0.heap.size w0 w)
    (h : Calls P f args w fun e w' => Q e ∧ Below w.heap.size w w') : Calls P f args w fun e w' => Q e ∧ Below w0.heap.size w0 w' :=
  h.mono fun _ _ ⟨he, hb⟩ => ⟨he, hB.trans (hb.mono hB.size)⟩
end Hb
namespace Go.Proofs.YtmjeajfakhmakaaDoor
open Go.RowKit Hb
set_option maxRecDepth 100000

theorem at_last (s : ByteArray) (h : 0 < s.size) : bAt s.data.toList (s.size - 1) = rawAt s.data.toList (s.data.toList.length - 1) := by
  rw [rawAt_in _ _ (by rw [size_data]; omega), size_data]

theorem glue_eq (a b : ByteArray) (ha : 0 < a.size) (hb : 0 < b.size) : glueN a.data.toList b.data.toList = ((alnum (bAt a.data.toList (a.size - 1)) && alnum (bAt b.data.toList 0)) || ((isSym (bAt a.data.toList (a.size - 1)) && isSym (bAt b.data.toList 0)) || ((bAt a.data.toList (a.size - 1) == bAt b.data.toList 0 && cls (bAt a.data.toList (a.size - 1)) == 7) || (decide (a.toList = [48]) && bAt b.data.toList 0 == 39)))) := by
  have h1 : a.data.toList.isEmpty = false := by have := tl_ne2 a ha; rwa [tl_data] at this
  have h2 : b.data.toList.isEmpty = false := by have := tl_ne2 b hb; rwa [tl_data] at this
  unfold glueN
  rw [h1, h2, ← at_last a ha, rawAt_in b.data.toList 0 (by rw [size_data]; exact hb), tl_data]
  have h3 : (a.data.toList == [48]) = decide (a.data.toList = [48]) := by rw [Bool.eq_iff_iff]; simp
  simp only [Bool.not_false, Bool.true_and, h3]
theorem empty_of (s : ByteArray) (h : s.size = 0) : s.toList = [] ∧ s.data.toList = [] := by
  have : s.data.toList = [] := List.eq_nil_of_length_eq_zero (by rw [size_data]; exact h)
  exact ⟨by rw [tl_data]; exact this, this⟩
set_option maxHeartbeats 400000 in
theorem sp_glue_e (a b : ByteArray) (w : World) (h : a.size = 0 ∨ b.size = 0) :
    Calls Tryd.prog 14 #[.string a, .string b] w fun e w' => e = .returned (.bool (glueN a.data.toList b.data.toList)) ∧ Below w.heap.size w w' := by
  have HG := Lib.hid (show glueN a.data.toList b.data.toList = false by
    rcases h with h | h
    · rw [(empty_of a h).2]; rfl
    · unfold glueN; rw [(empty_of b h).2]; simp)
  by_cases ha : a.size = 0
  · have ea := (empty_of a ha).1
    have ea2 : a.toList.isEmpty = true := by rw [ea]; rfl
    clear h ha
    go_enter Tryd.func14, Tryd.ntmps14
    go_wp2_with fail
    go_ret
    exact ⟨ret_bool HG.out.symm, Below.refl _ _⟩
  · have eb := (empty_of b (by omega)).1
    have eb2 : b.toList.isEmpty = true := by rw [eb]; rfl
    have ea := tl_ne a (by omega)
    have ea2 := tl_ne2 a (by omega)
    clear h ha
    go_enter Tryd.func14, Tryd.ntmps14
    go_wp2_with fail
    go_ret
    exact ⟨ret_bool HG.out.symm, Below.refl _ _⟩

set_option maxHeartbeats 400000 in
theorem sp_glue_n (a b : ByteArray) (w : World) (ha : 0 < a.size) (hb : 0 < b.size) (has : a.size ≤ maxLen) :
    Calls Tryd.prog 14 #[.string a, .string b] w fun e w' => e = .returned (.bool (glueN a.data.toList b.data.toList)) ∧ Below w.heap.size w w' := by
  have ea := tl_ne a ha
  have eb := tl_ne b hb
  have ea2 := tl_ne2 a ha
  have eb2 := tl_ne2 b hb
  have hw : IntKind.i64.wrap ((a.size : Int) - 1) = (a.size : Int) - 1 := IntWalk.i64_in _ (by unfold maxLen at has; omega)
  have hi1 : (0 : Int) ≤ (a.size : Int) - 1 := by omega
  have hi2 : (a.size : Int) - 1 < (a.size : Int) := by omega
  have htn : ((a.size : Int) - 1).toNat = a.size - 1 := by omega
  have hba := bAt_mk a (a.size - 1) (by omega)
  have hbb := bAt_mk b 0 hb
  have hx0 := bAt_lo a.data.toList (a.size - 1)
  have hx1 := bAt_hi a.data.toList (a.size - 1)
  have hy0 := bAt_lo b.data.toList 0
  have hy1 := bAt_hi b.data.toList 0
  have HG := Lib.hid (glue_eq a b ha hb)
  generalize bAt a.data.toList (a.size - 1) = x at *
  generalize bAt b.data.toList 0 = y at *
  go_enter Tryd.func14, Tryd.ntmps14
  go_wp2_with fail
  go_quiet (fail)
  go_wp2_with (first
    | (go_at_call 33; refine (carry (w0 := w) (by first | assumption | exact bl_drewN (Below.refl _ _) _) (sp_alnum _ _ (by assumption) (by assumption))).mono ?_; rintro e w1 ⟨rfl, hB1⟩)
    | (go_at_call 36; refine (carry (w0 := w) (by first | assumption | exact bl_drewN (Below.refl _ _) _) (sp_symbol _ _ (by assumption) (by assumption))).mono ?_; rintro e w1 ⟨rfl, hB1⟩)
    | (go_at_call 34; refine (carry (w0 := w) (by first | assumption | exact bl_drewN (Below.refl _ _) _) (chars_class _ _)).mono ?_; rintro e w1 ⟨rfl, hB1⟩))
  all_goals
    go_ret
    exact ⟨ret_bool (by rw [HG.out]; grind), by first | assumption | exact bl_drewN (Below.refl _ _) _⟩

theorem sp_glue (a b : ByteArray) (w : World) (has : a.size ≤ maxLen) :
    Calls Tryd.prog 14 #[.string a, .string b] w fun e w' => e = .returned (.bool (glueN a.data.toList b.data.toList)) ∧ Below w.heap.size w w' := by
  by_cases h : a.size = 0 ∨ b.size = 0
  · exact sp_glue_e a b w h
  · exact sp_glue_n a b w (by omega) (by omega) has
end Go.Proofs.YtmjeajfakhmakaaDoor
