/- What the listed variables give a walk: the tables of math/bits and strconv. -/
import Derived.Test.YtmjeajfakhmakaaDoorRows
import Derived.Test.YtmjeajfakhmakaaDoorTie
import Derived.Test.YtmjeajfakhmakaaDoorCards
import Derived.ProofKit
import Derived.LaidMore
import Derived.OpenShut
import Derived.Stop.Joined
import Derived.Stop.LaidErr
import Derived.Lib.LaidTab
import Derived.Lib.ItoaNum
import Derived.Lib.SmallJoins
import Derived.SevenTiedAt
namespace Go.Proofs.YtmjeajfakhmakaaDoor
open Go.ChangeShapes Go.WideShapes Go.ChangeAt Go.RowKit
set_option maxRecDepth 100000

theorem ownDoor : ownKnob Tryd.prog.godebug = none := by kernel_rfl
theorem laidOutDoor : laidOutB Tryd.prog = true := by kernel_rfl
/-- The variables that the rows list. -/
def laid3 : List (String × DataW Unit) := [("math/bits.deBruijn32tab", Rows.laid_math_bits_deBruijn32tab), ("math/bits.deBruijn64tab", Rows.laid_math_bits_deBruijn64tab), ("internal/strconv.uint64pow10", Rows.laid_internal_strconv_uint64pow10)]
theorem door_met (os : Os) (args : Array Value) : laidMetH Tryd.prog laid3 ((World.doorLaid Tryd.prog 400 os).forCall (fun _ _ => 0) ⟨#[], args, []⟩).memory :=
  laidMetH_of_parts3 (fuel := 8) (laidMet_of_run' 8 (by kernel_rfl) (by kernel_rfl)) (by kernel_rfl) (by kernel_rfl)
def tab64 : List Int := [0, 1, 56, 2, 57, 49, 28, 3, 61, 58, 42, 50, 38, 29, 17, 4, 62, 47, 59, 36, 45, 43, 51, 22, 53, 39, 33, 30, 24, 18, 12, 5, 63, 55, 48, 27, 60, 41, 37, 16, 46, 35, 44, 21, 52, 32, 23, 11, 54, 26, 40, 15, 34, 20, 31, 10, 25, 14, 19, 9, 13, 8, 7, 6]
theorem g64 : Tryd.prog.globalNamed "math/bits.deBruijn64tab" = some 3 := by kernel_rfl
theorem g64t : (Tryd.prog.globals[3]?).map (·.type) = some 120 := by kernel_rfl
theorem g10 : Tryd.prog.globalNamed "internal/strconv.uint64pow10" = some 0 := by kernel_rfl
theorem g10t : (Tryd.prog.globals[0]?).map (·.type) = some 107 := by kernel_rfl
theorem c8 : Tryd.prog.cellsOf 5 = 1 := by kernel_rfl
theorem c64a : Tryd.prog.cellsOf 120 = 64 := by kernel_rfl
theorem cu64 : Tryd.prog.cellsOf 94 = 1 := by kernel_rfl
theorem c20a : Tryd.prog.cellsOf 107 = 20 := by kernel_rfl
/-- What a walk may know of the world in which a call begins. -/
structure DoorOk (W : World) : Prop where
  lt : 3 < W.heap.size
  c15 : W.cell? ⟨3, 15, none⟩ = some (.int .u8 4)
  pow : Lib.TabIs Tryd.prog W "internal/strconv.uint64pow10" .u64 Lib.pow10Tab
theorem door_of {W : World} (h : laidMetH Tryd.prog laid3 W) : DoorOk W := by
  rw [MakeChecks.laidMetH_plain _ _ _ (by kernel_rfl)] at h
  have h1 := laidMet.tail h
  have h2 := laidMet.tail h1
  have hT := Lib.tabIs_of_head (k := .u8) (zs := tab64) g64 g64t Tryd.underlying120 Tryd.underlying5 c8 c64a h1
  have hP := Lib.tabIs_of_head (k := .u64) (zs := Lib.pow10Tab) g10 g10t Tryd.underlying107 Tryd.underlying94 cu64 c20a h2
  have hc : W.cell? ⟨3, 15, none⟩ = some (.int .u8 4) := hT.cell g64 15 (by decide)
  exact ⟨World.block_lt_of_cell? W ⟨_, 15, none⟩ hc, hc, hP⟩
theorem DoorOk.below {W W' : World} (h : DoorOk W) (hB : Below W.heap.size W W') : DoorOk W' :=
  ⟨Nat.lt_of_lt_of_le h.lt hB.size, (hB.cell (p := ⟨_, 15, none⟩) h.lt).trans h.c15, Joins.tab_stays g10 h.pow hB (Nat.le_refl _)⟩
end Go.Proofs.YtmjeajfakhmakaaDoor
