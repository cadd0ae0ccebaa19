/- Operators: the law OpsExamples. -/
import Derived.Test.YteddbeifnolklaaOpAw
import Derived.Test.YteddbeifnolklaaOpT2
import Derived.Test.YteddbeifnolklaaOpV
namespace Hb
open Go Go.RowKit
def tIn : List OpR := (setR defL ⟨⟨#[105, 110]⟩, 1, 700⟩).1
def tNo : List OpR := (setR defL ⟨⟨#[43]⟩, 3, 0⟩).1
theorem tIn_len : tIn.length = 42 := by kernel_rfl
theorem tNo_len : tNo.length = 40 := by kernel_rfl
end Hb
namespace Go.Proofs.Yteddbeifnolklaa
open Go.RowKit Hb
set_option maxRecDepth 100000
theorem ex_post (g cap : Nat) (W : World) (h : OpsAt W (some ⟨g, 0, none⟩) defL) : Calls Try.prog 24 #[.slice (some ⟨g, 0, none⟩) 41 cap, .string ⟨#[45]⟩] W fun e w' => e = .returned (.tuple #[.agg #[.string ⟨#[]⟩, .int .i64 0, .int .i64 0], .bool false]) ∧ Below W.heap.size W w' := by
  have := ops_postfix (some ⟨g, 0, none⟩) 41 cap defL ⟨#[45]⟩ W defL_len.symm (by decide) h
  rw [show findR defL ⟨#[45]⟩ 3 = none from by kernel_rfl] at this
  exact this
theorem ex_side (W : World) : Calls Try.prog 21 #[.agg #[.string ⟨#[92, 43]⟩, .int .i64 4, .int .i64 900]] W fun e w' => e = .returned (.tuple #[.int .i64 0, .int .i64 900]) ∧ Below W.heap.size W w' :=
  ops_sides ⟨⟨#[92, 43]⟩, 4, 900⟩ W (by decide)
theorem ex_set_in (g cap : Nat) (W : World) (h : OpsAt W (some ⟨g, 0, none⟩) defL) : Calls Try.prog 17 #[.slice (some ⟨g, 0, none⟩) 41 cap, .int .i64 700, .int .i64 1, .string ⟨#[105, 110]⟩] W fun e w' => ∃ A' cap', e = .returned (.tuple #[.slice A' 42 cap', .int .i64 0]) ∧ Below W.heap.size W w' ∧ OpsAt w' A' tIn := by
  refine (ops_set (some ⟨g, 0, none⟩) 41 cap defL 700 1 ⟨#[105, 110]⟩ W (by decide) ⟨defL_len.symm, h, fun hh => absurd hh (by decide)⟩).mono ?_
  rw [set_in2]
  rintro e w' ⟨A', n', cap', rfl, hB, hT⟩
  have := hT.len
  rw [set_in1] at this
  subst this
  exact ⟨A', cap', rfl, hB, hT.ops⟩
theorem ex_inf_in (A : Option Addr) (cap : Nat) (W : World) (h : OpsAt W A tIn) : Calls Try.prog 23 #[.slice A 42 cap, .string ⟨#[105, 110]⟩] W fun e w' => e = .returned (.tuple #[.agg #[.string ⟨#[105, 110]⟩, .int .i64 1, .int .i64 700], .bool true]) ∧ Below W.heap.size W w' := by
  have := ops_infix A 42 cap tIn ⟨#[105, 110]⟩ W tIn_len.symm (by decide) h
  rw [show findR tIn ⟨#[105, 110]⟩ 2 = some ⟨⟨#[105, 110]⟩, 1, 700⟩ from by kernel_rfl] at this
  exact this
theorem ex_set_no (g cap : Nat) (W : World) (h : OpsAt W (some ⟨g, 0, none⟩) defL) : Calls Try.prog 17 #[.slice (some ⟨g, 0, none⟩) 41 cap, .int .i64 0, .int .i64 3, .string ⟨#[43]⟩] W fun e w' => ∃ A' cap', e = .returned (.tuple #[.slice A' 40 cap', .int .i64 0]) ∧ Below W.heap.size W w' ∧ OpsAt w' A' tNo := by
  refine (ops_set (some ⟨g, 0, none⟩) 41 cap defL 0 3 ⟨#[43]⟩ W (by decide) ⟨defL_len.symm, h, fun hh => absurd hh (by decide)⟩).mono ?_
  rw [show (setR defL ⟨⟨#[43]⟩, 3, 0⟩).2 = 0 from by kernel_rfl]
  rintro e w' ⟨A', n', cap', rfl, hB, hT⟩
  have := hT.len
  rw [show (setR defL ⟨⟨#[43]⟩, 3, 0⟩).1.length = 40 from tNo_len] at this
  subst this
  exact ⟨A', cap', rfl, hB, hT.ops⟩
theorem ex_inf_no (A : Option Addr) (cap : Nat) (W : World) (h : OpsAt W A tNo) : Calls Try.prog 23 #[.slice A 40 cap, .string ⟨#[43]⟩] W fun e w' => e = .returned (.tuple #[.agg #[.string ⟨#[]⟩, .int .i64 0, .int .i64 0], .bool false]) ∧ Below W.heap.size W w' := by
  have := ops_infix A 40 cap tNo ⟨#[43]⟩ W tNo_len.symm (by decide) h
  rw [show findR tNo ⟨#[43]⟩ 2 = none from by kernel_rfl] at this
  exact this
theorem ex_pre_no (A : Option Addr) (cap : Nat) (W : World) (h : OpsAt W A tNo) : Calls Try.prog 22 #[.slice A 40 cap, .string ⟨#[43]⟩] W fun e w' => e = .returned (.tuple #[.agg #[.string ⟨#[43]⟩, .int .i64 4, .int .i64 200], .bool true]) ∧ Below W.heap.size W w' := by
  have := ops_prefix A 40 cap tNo ⟨#[43]⟩ W tNo_len.symm (by decide) h
  rw [show findR tNo ⟨#[43]⟩ 1 = some ⟨⟨#[43]⟩, 4, 200⟩ from by kernel_rfl] at this
  exact this
theorem ex_err (g cap : Nat) (W : World) (h : OpsAt W (some ⟨g, 0, none⟩) defL) (p t x : Int) (s : ByteArray) (hx : (setR defL ⟨s, t, p⟩).2 = x) : Calls Try.prog 17 #[.slice (some ⟨g, 0, none⟩) 41 cap, .int .i64 p, .int .i64 t, .string s] W fun e w' => ∃ A' n' cap', e = .returned (.tuple #[.slice A' n' cap', .int .i64 x]) ∧ Below W.heap.size W w' := by
  refine (ops_set (some ⟨g, 0, none⟩) 41 cap defL p t s W (by decide) ⟨defL_len.symm, h, fun hh => absurd hh (by decide)⟩).mono ?_
  rw [hx]
  rintro e w' ⟨A', n', cap', rfl, hB, _⟩
  exact ⟨A', n', cap', rfl, hB⟩
theorem ex_tyn (W : World) : Calls Try.prog 30 #[.int .i64 3] W fun e w' => e = .returned (.tuple #[.string ⟨#[121, 102, 120]⟩, .bool true]) ∧ Below W.heap.size W w' :=
  ops_typeName 3 W
theorem ex_tyo (W : World) : Calls Try.prog 32 #[.string ⟨#[120, 102]⟩] W fun e w' => e = .returned (.tuple #[.int .i64 6, .bool true]) ∧ Below W.heap.size W w' := by
  have := ops_typeOf ⟨#[120, 102]⟩ W
  rw [show tyOf ⟨#[120, 102]⟩ = 6 from by kernel_rfl] at this
  exact this
theorem ex_is (g cap : Nat) (W : World) (h : OpsAt W (some ⟨g, 0, none⟩) defL) : Calls Try.prog 27 #[.slice (some ⟨g, 0, none⟩) 41 cap, .string ⟨#[102, 111, 111]⟩] W fun e w' => e = .returned (.bool false) ∧ Below W.heap.size W w' := by
  have := ops_is (some ⟨g, 0, none⟩) 41 cap defL ⟨#[102, 111, 111]⟩ W defL_len.symm (by decide) h
  rw [show (opsValid defL && defL.any (isNm ⟨#[102, 111, 111]⟩)) = false from by kernel_rfl] at this
  exact this
set_option maxHeartbeats 6400000 in
theorem law_examples7 (w : World) : Calls Try.prog 10 #[] w fun e w' => e = .returned (.bool true) ∧ Below w.heap.size w w' := by
  go_enter Try.func10, Try.ntmps10
  go_wp2_with fail
  refine (law_awake w).mono ?_; rintro e w0 ⟨rfl, hB0⟩
  go_wp2_with fail
  refine (ops_default sort_said w0).mono ?_; rintro e w1 ⟨g, cap, rfl, hB1, hO⟩
  have HO := Lib.hid hO
  clear hO
  have HB01 := Lib.hid (hB0.trans (hB1.mono hB0.size))
  clear hB0 hB1
  go_wp2_with fail
  refine (ex_post g cap w1 HO.out).mono ?_; rintro e w2 ⟨rfl, hB2⟩
  have HB2 := Lib.hid (hB2.trans ((BoxAt.start w2 op0 34).bel.mono hB2.size))
  clear hB2
  go_wp2_with fail
  refine (ex_side _).mono ?_; rintro e w3 ⟨rfl, hB3⟩
  have HB3 := Lib.hid (HB2.out.trans (hB3.mono HB2.out.size))
  clear hB3 HB2
  go_wp2_with fail
  refine (ex_set_in g cap w3 (HO.out.below HB3.out)).mono ?_; rintro e w4 ⟨A4, c4, rfl, hB4, hO4⟩
  have HB4 := Lib.hid (HB3.out.trans (hB4.mono HB3.out.size))
  have HO4 := Lib.hid hO4
  clear hB4 HB3 hO4
  go_wp2_with fail
  refine (ex_inf_in A4 c4 w4 HO4.out).mono ?_; rintro e w5 ⟨rfl, hB5⟩
  have HX5 := Lib.hid (BoxAt.start w5 ⟨⟨#[105, 110]⟩, 1, 700⟩ 34)
  have HB5 := Lib.hid (HB4.out.trans (hB5.mono HB4.out.size))
  clear hB5 HB4
  go_wp2_with fail
  refine (ex_set_no g cap _ (HO.out.below (HB5.out.trans (HX5.out.bel.mono HB5.out.size)))).mono ?_; rintro e w6 ⟨A6, c6, rfl, hB6, hO6⟩
  have HX6 := Lib.hid (HX5.out.call hB6)
  have HO6 := Lib.hid hO6
  clear hB6 HX5 hO6
  go_wp2_with fail
  refine (ex_inf_no A6 c6 w6 HO6.out).mono ?_; rintro e w7 ⟨rfl, hB7⟩
  have hB7' := hB7.trans ((BoxAt.start w7 op0 34).bel.mono hB7.size)
  have HX7 := Lib.hid (HX6.out.call hB7')
  have HO7 := Lib.hid (HO6.out.below hB7')
  clear hB7 hB7' HX6 HO6
  go_wp2_with fail
  refine (ex_pre_no A6 c6 _ HO7.out).mono ?_; rintro e w8 ⟨rfl, hB8⟩
  have HX8 := Lib.hid (HX7.out.call hB8)
  have HY8 := Lib.hid (BoxAt.start w8 ⟨⟨#[43]⟩, 4, 200⟩ 34)
  have HX8' := Lib.hid (HX8.out.call HY8.out.bel)
  clear hB8 HX7 HO7 HX8
  go_wp2_with fail
  refine (ex_err g cap _ (HO.out.below (HB5.out.trans (HX8'.out.bel.mono HB5.out.size))) 200 6 5 ⟨#[105, 115]⟩ (by kernel_rfl)).mono ?_; rintro e w9 ⟨A9, n9, c9, rfl, hB9⟩
  have HX9 := Lib.hid (HX8'.out.call hB9)
  have HY9 := Lib.hid (HY8.out.call hB9)
  clear hB9 HX8' HY8
  go_wp2_with fail
  refine (ex_err g cap _ (HO.out.below (HB5.out.trans (HX9.out.bel.mono HB5.out.size))) 900 2 5 ⟨#[124]⟩ (by kernel_rfl)).mono ?_; rintro e w10 ⟨A10, n10, c10, rfl, hB10⟩
  have HX10 := Lib.hid (HX9.out.call hB10)
  have HY10 := Lib.hid (HY9.out.call hB10)
  clear hB10 HX9 HY9
  go_wp2_with fail
  refine (ex_err g cap _ (HO.out.below (HB5.out.trans (HX10.out.bel.mono HB5.out.size))) 200 4 5 ⟨#[91, 93]⟩ (by kernel_rfl)).mono ?_; rintro e w11 ⟨A11, n11, c11, rfl, hB11⟩
  have HX11 := Lib.hid (HX10.out.call hB11)
  have HY11 := Lib.hid (HY10.out.call hB11)
  clear hB11 HX10 HY10
  go_wp2_with fail
  refine (ex_err g cap _ (HO.out.below (HB5.out.trans (HX11.out.bel.mono HB5.out.size))) 1201 4 1 ⟨#[97]⟩ (by kernel_rfl)).mono ?_; rintro e w12 ⟨A12, n12, c12, rfl, hB12⟩
  have HX12 := Lib.hid (HX11.out.call hB12)
  have HY12 := Lib.hid (HY11.out.call hB12)
  clear hB12 HX11 HY11
  go_wp2_with fail
  refine (ex_tyn w12).mono ?_; rintro e w13 ⟨rfl, hB13⟩
  have HX13 := Lib.hid (HX12.out.call hB13)
  have HY13 := Lib.hid (HY12.out.call hB13)
  clear hB13 HX12 HY12
  go_wp2_with fail
  refine (ex_tyo w13).mono ?_; rintro e w14 ⟨rfl, hB14⟩
  have HX14 := Lib.hid (HX13.out.call hB14)
  have HY14 := Lib.hid (HY13.out.call hB14)
  clear hB14 HX13 HY13
  go_wp2_with fail
  refine (ex_is g cap _ (HO.out.below (HB5.out.trans (HX14.out.bel.mono HB5.out.size)))).mono ?_; rintro e w15 ⟨rfl, hB15⟩
  have HX15 := Lib.hid (HX14.out.call hB15)
  have HY15 := Lib.hid (HY14.out.call hB15)
  clear hB15 HX14 HY14
  have x0 := HX15.out.c0
  have x1 := HX15.out.c1
  have x2 := HX15.out.c2
  have y0 := HY15.out.c0
  have y1 := HY15.out.c1
  have y2 := HY15.out.c2
  go_wp2_with fail
  go_ret
  exact ⟨rfl, HB01.out.trans ((HB5.out.trans (HX15.out.bel.mono HB5.out.size)).mono HB01.out.size)⟩
end Go.Proofs.Yteddbeifnolklaa
