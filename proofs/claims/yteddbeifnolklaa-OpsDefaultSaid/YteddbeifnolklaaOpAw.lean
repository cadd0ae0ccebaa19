/- Operators: the laws' awake. -/
import Derived.Test.YteddbeifnolklaaOpG
namespace Hb
open Go Go.RowKit
theorem inf_minus0 : findR defL ⟨#[45]⟩ 2 = some ⟨⟨#[45]⟩, 3, 500⟩ := by kernel_rfl
theorem pre_minus0 : findR defL ⟨#[45]⟩ 1 = some ⟨⟨#[45]⟩, 4, 200⟩ := by kernel_rfl
theorem set_in2 : (setR defL ⟨⟨#[105, 110]⟩, 1, 700⟩).2 = 0 := by kernel_rfl
theorem set_in1 : (setR defL ⟨⟨#[105, 110]⟩, 1, 700⟩).1.length = 42 := by kernel_rfl
end Hb
namespace Go.Proofs.Yteddbeifnolklaa
open Go.RowKit Hb
set_option maxRecDepth 100000
theorem inf_minus (g cap : Nat) (W : World) (h : OpsAt W (some ⟨g, 0, none⟩) defL) : Calls Try.prog 23 #[.slice (some ⟨g, 0, none⟩) 41 cap, .string ⟨#[45]⟩] W fun e w' => e = .returned (.tuple #[.agg #[.string ⟨#[45]⟩, .int .i64 3, .int .i64 500], .bool true]) ∧ Below W.heap.size W w' := by
  have := ops_infix (some ⟨g, 0, none⟩) 41 cap defL ⟨#[45]⟩ W defL_len.symm (by decide) h
  rw [inf_minus0] at this
  exact this
theorem pre_minus (g cap : Nat) (W : World) (h : OpsAt W (some ⟨g, 0, none⟩) defL) : Calls Try.prog 22 #[.slice (some ⟨g, 0, none⟩) 41 cap, .string ⟨#[45]⟩] W fun e w' => e = .returned (.tuple #[.agg #[.string ⟨#[45]⟩, .int .i64 4, .int .i64 200], .bool true]) ∧ Below W.heap.size W w' := by
  have := ops_prefix (some ⟨g, 0, none⟩) 41 cap defL ⟨#[45]⟩ W defL_len.symm (by decide) h
  rw [pre_minus0] at this
  exact this
theorem sides_comma (W : World) : Calls Try.prog 21 #[.agg #[.string ⟨#[44]⟩, .int .i64 2, .int .i64 1000]] W fun e w' => e = .returned (.tuple #[.int .i64 999, .int .i64 1000]) ∧ Below W.heap.size W w' :=
  ops_sides ⟨⟨#[44]⟩, 2, 1000⟩ W (by decide)
theorem set_in (g cap : Nat) (W : World) (h : OpsAt W (some ⟨g, 0, none⟩) defL) : Calls Try.prog 17 #[.slice (some ⟨g, 0, none⟩) 41 cap, .int .i64 700, .int .i64 1, .string ⟨#[105, 110]⟩] W fun e w' => ∃ A' cap', e = .returned (.tuple #[.slice A' 42 cap', .int .i64 0]) ∧ Below W.heap.size W w' := by
  refine (ops_set (some ⟨g, 0, none⟩) 41 cap defL 700 1 ⟨#[105, 110]⟩ W (by decide) ⟨defL_len.symm, h, fun hh => absurd hh (by decide)⟩).mono ?_
  rw [set_in2]
  rintro e w' ⟨A', n', cap', rfl, hB, hT⟩
  have := hT.len
  rw [set_in1] at this
  subst this
  exact ⟨A', cap', rfl, hB⟩
set_option maxHeartbeats 1600000 in
theorem law_awake (w : World) : Calls Try.prog 15 #[] w fun e w' => e = .returned (.bool true) ∧ Below w.heap.size w w' := by
  have HD := Lib.hid (ops_default sort_said w)
  go_enter Try.func15, Try.ntmps15
  go_wp2_with fail
  refine HD.out.mono ?_; rintro e w1 ⟨g, cap, rfl, hB1, hO⟩
  have HO1 := Lib.hid hO
  clear hO
  go_wp2_with fail
  refine (inf_minus g cap w1 HO1.out).mono ?_; rintro e w2 ⟨rfl, hB2⟩
  have hX2 := BoxAt.start w2 ⟨⟨#[45]⟩, 3, 500⟩ 34
  have hB3 := hB2.trans (hX2.bel.mono hB2.size)
  go_wp2_with fail
  refine (pre_minus g cap _ (HO1.out.below hB3)).mono ?_; rintro e w3 ⟨rfl, hB4⟩
  have hY2 := Lib.hid (hX2.call hB4)
  have hX3 := BoxAt.start w3 ⟨⟨#[45]⟩, 4, 200⟩ 34
  have hY3 := Lib.hid (hY2.out.call hX3.bel)
  clear hX2
  have hB5 := Lib.hid (hB2.trans (hY3.out.bel.mono hB2.size))
  go_wp2_with fail
  refine (sides_comma _).mono ?_; rintro e w4 ⟨rfl, hB6⟩
  have hY4 := Lib.hid (hY3.out.call hB6)
  have hX4 := Lib.hid (hX3.call hB6)
  have hB7 := Lib.hid (hB2.trans (hY4.out.bel.mono hB2.size))
  clear hX3
  go_wp2_with fail
  refine (set_in g cap _ (HO1.out.below hB7.out)).mono ?_; rintro e w5 ⟨A', c', rfl, hB8⟩
  have hY5 := hY4.out.call hB8
  have hX5 := hX4.out.call hB8
  have y1 := hY5.c1
  have y2 := hY5.c2
  have x2 := hX5.c2
  have hB9 := hB7.out.trans (hB8.mono hB7.out.size)
  go_wp2_with fail
  go_ret
  exact ⟨rfl, hB1.trans (hB9.mono hB1.size)⟩
end Go.Proofs.Yteddbeifnolklaa
