/- What the plain functions answer at the texts of the examples. -/
import Derived.Test.YtmjeajfakhmakaaDoorAll
namespace Go.Proofs.YtmjeajfakhmakaaDoor
open Go.RowKit Hb
set_option maxRecDepth 100000
def tx (k : Int) (t : List UInt8) (n a e : Int) (y : Bool) : NextR := ⟨⟨k, t, n, a, e, 0⟩, y, 0⟩
def awakeToks : List NextR := [tx 1 [102, 111, 111] 0 0 3 false, tx 6 [40] 0 3 4 false, tx 3 [88, 49] 0 4 6 false, tx 6 [44] 0 6 7 false, tx 2 [97, 32, 98] 0 8 13 true, tx 6 [41] 0 13 14 false, tx 1 [58, 45] 0 15 17 true, tx 6 [91] 0 18 19 true, tx 4 [] 97 19 22 false, tx 6 [124] 0 22 23 false, tx 4 [] 31 23 27 false, tx 6 [93] 0 27 28 false, tx 7 [46] 0 28 29 false]
def awakeTxt : ByteArray := ⟨#[102, 111, 111, 40, 88, 49, 44, 32, 39, 97, 32, 98, 39, 41, 32, 58, 45, 32, 91, 48, 39, 97, 124, 48, 120, 49, 70, 93, 46, 32, 37, 32, 101, 110, 100]⟩
theorem ev_awake : allTop awakeTxt.data.toList 0 [] = ⟨awakeToks, 0, 0⟩ := by kernel_rfl
theorem ev_a : nextTop (⟨#[47, 42, 32, 97, 32, 42, 47, 32, 61, 46, 46, 32]⟩ : ByteArray).data.toList 0 [] = tx 1 [61, 46, 46] 0 8 11 true := by kernel_rfl
theorem ev_b : nextTop (⟨#[39, 97, 92, 120, 52, 49, 92, 92, 110, 39]⟩ : ByteArray).data.toList 0 [] = tx 2 [97, 65, 10] 0 0 10 false := by kernel_rfl
theorem ev_c : allTop (⟨#[97, 32, 98]⟩ : ByteArray).data.toList 0 [] = ⟨[], 3, 7⟩ := by kernel_rfl
theorem ev_d : allTop (⟨#[32, 32]⟩ : ByteArray).data.toList 0 [] = ⟨[], 2, 14⟩ := by kernel_rfl
theorem ev_f1 : nextTop (⟨#[37, 32, 97]⟩ : ByteArray).data.toList 0 [] = ⟨errR 14, false, 3⟩ := by kernel_rfl
theorem ev_f2 : nextTop (⟨#[97, 32, 47, 42, 32, 98]⟩ : ByteArray).data.toList 1 [] = ⟨errR 7, false, 2⟩ := by kernel_rfl
theorem ev_f3 : nextTop (⟨#[39, 97]⟩ : ByteArray).data.toList 0 [] = ⟨errR 7, false, 0⟩ := by kernel_rfl
theorem ev_f4 : nextTop (⟨#[48, 39]⟩ : ByteArray).data.toList 0 [] = ⟨errR 7, false, 0⟩ := by kernel_rfl
theorem ev_f5 : nextTop (⟨#[57, 50, 50, 51, 51, 55, 50, 48, 51, 54, 56, 53, 52, 55, 55, 53, 56, 48, 57]⟩ : ByteArray).data.toList 0 [] = ⟨errR 7, false, 0⟩ := by kernel_rfl
end Go.Proofs.YtmjeajfakhmakaaDoor
