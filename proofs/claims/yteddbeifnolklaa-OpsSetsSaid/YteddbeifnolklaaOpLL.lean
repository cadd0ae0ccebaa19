/- Operators: the reference's Is; the law OpsLookups. -/
import Derived.Test.YteddbeifnolklaaOpRg
import Derived.Test.YteddbeifnolklaaOpLA
import Derived.Test.YteddbeifnolklaaOpV
namespace Hb
open Go Go.RowKit
/-- An operator in a block. -/
structure BoxG (w : World) (g : Nat) (o : OpR) : Prop where
  lt : g < w.heap.size
  c0 : w.cell? ⟨g, 0, none⟩ = some (.string o.name)
  c1 : w.cell? ⟨g, 1, none⟩ = some (.int .i64 o.typ)
  c2 : w.cell? ⟨g, 2, none⟩ = some (.int .i64 o.prec)
theorem BoxG.call {w w' : World} {g : Nat} {o : OpR} (h : BoxG w g o) (hB : Below w.heap.size w w') : BoxG w' g o where
  lt := Nat.lt_of_lt_of_le h.lt hB.size
  c0 := (hB.cell (p := ⟨_, _, none⟩) h.lt).trans h.c0
  c1 := (hB.cell (p := ⟨_, _, none⟩) h.lt).trans h.c1
  c2 := (hB.cell (p := ⟨_, _, none⟩) h.lt).trans h.c2
theorem BoxG.start (w : World) (o : OpR) (e : TypeId) : BoxG (w.alloc (.cells #[.string o.name, .int .i64 o.typ, .int .i64 o.prec] e)) w.heap.size o where
  lt := by simp
  c0 := World.cell?_alloc_new _ _ _ 0
  c1 := World.cell?_alloc_new _ _ _ 1
  c2 := World.cell?_alloc_new _ _ _ 2
theorem opOk_cls {o : OpR} (h : opOk o = true) : clsOp o.typ ≠ 0 := by
  unfold opOk at h
  grind
theorem findR_is {l : List OpR} (hv : opsValid l = true) (name : ByteArray) (c : Int) : (findR l name c).isSome = l.any (isOp name c) := by
  rw [findR_valid hv, Bool.eq_iff_iff, List.find?_isSome, List.any_eq_true]
theorem is_eq (l : List OpR) (name : ByteArray) : ((findR l name 1).isSome || (findR l name 2).isSome || (findR l name 3).isSome) = (opsValid l && l.any (isNm name)) := by
  cases hv : opsValid l
  · unfold findR; rw [hv]; rfl
  · rw [findR_is hv, findR_is hv, findR_is hv, Bool.true_and, Bool.eq_iff_iff]
    simp only [Bool.or_eq_true, List.any_eq_true]
    constructor
    · rintro ((⟨a, ha, h⟩ | ⟨a, ha, h⟩) | ⟨a, ha, h⟩) <;> exact ⟨a, ha, by unfold isOp at h; unfold isNm; rw [Bool.and_eq_true] at h; exact h.1⟩
    · rintro ⟨a, ha, h⟩
      have h0 := (opOk_cls (valid_all hv a ha))
      have h1 := cls_ge a.typ
      have h2 := cls_le a.typ
      unfold isNm at h
      have h3 : clsOp a.typ = 1 ∨ clsOp a.typ = 2 ∨ clsOp a.typ = 3 := by omega
      rcases h3 with h3 | h3 | h3
      · exact .inl (.inl ⟨a, ha, by unfold isOp; rw [h, h3]; rfl⟩)
      · exact .inl (.inr ⟨a, ha, by unfold isOp; rw [h, h3]; rfl⟩)
      · exact .inr ⟨a, ha, by unfold isOp; rw [h, h3]; rfl⟩
end Hb
namespace Go.Proofs.Yteddbeifnolklaa
open Go.RowKit Hb
set_option maxRecDepth 100000
set_option maxHeartbeats 3200000 in
theorem ref_is (A : Option Addr) (n cap : Nat) (l : List OpR) (name : ByteArray) (w : World) (hm : n ≤ 400) (hT : Tab w A n cap l) :
    Calls Try.prog 28 #[.slice A n cap, .string name] w fun e w' => e = .returned (.bool (opsValid l && l.any (isNm name))) ∧ Below w.heap.size w w' := by
  rw [← is_eq]
  have H1 := Lib.hid (fun W (h : Below w.heap.size w W) => ref_find_tab (hT.below h) hm 1 name)
  have H2 := Lib.hid (fun W (h : Below w.heap.size w W) => ref_find_tab (hT.below h) hm 2 name)
  have H3 := Lib.hid (fun W (h : Below w.heap.size w W) => ref_find_tab (hT.below h) hm 3 name)
  clear hT
  generalize (findR l name 1).isSome = p1 at *
  generalize (findR l name 2).isSome = p2 at *
  generalize (findR l name 3).isSome = p3 at *
  generalize (findR l name 1).getD op0 = X1 at *
  generalize (findR l name 2).getD op0 = X2 at *
  generalize (findR l name 3).getD op0 = X3 at *
  cases p1 <;> cases p2
  all_goals
    go_enter Try.func28, Try.ntmps28
    go_wp2_with fail
    refine (H1.out w (Below.refl _ _)).mono ?_; rintro e w1 ⟨rfl, hB1⟩
    have hB1' := hB1.alloc hB1.size (.cells #[.string X1.name, .int .i64 X1.typ, .int .i64 X1.prec] 34)
    go_wp2_with fail
    refine (H2.out _ hB1').mono ?_; rintro e w2 ⟨rfl, hB2⟩
    have hB2a := hB1'.trans (hB2.mono hB1'.size)
    have hB2' := hB2a.alloc hB2a.size (.cells #[.string X2.name, .int .i64 X2.typ, .int .i64 X2.prec] 34)
    go_wp2_with fail
    refine (H3.out _ hB2').mono ?_; rintro e w3 ⟨rfl, hB3⟩
    have hB3a := hB2'.trans (hB3.mono hB2'.size)
    have hB3' := hB3a.alloc hB3a.size (.cells #[.string X3.name, .int .i64 X3.typ, .int .i64 X3.prec] 34)
    go_wp2_with fail
    go_ret
    exact ⟨ret_bool (by simp), hB3'⟩
set_option maxHeartbeats 6400000 in
theorem law_lookups (A : Option Addr) (n cap : Nat) (l : List OpR) (name : ByteArray) (w : World) (hn : n = l.length) (hm : n ≤ maxLen) (hp : OpsAt w A l) (hz : n = 0 → (Value.slice A n cap = .slice none 0 0 ∨ ∃ ad, A = some ad)) :
    Calls Try.prog 8 #[.slice A n cap, .string name] w fun e w' => e = .returned (.bool true) ∧ Below w.heap.size w w' := by
  unfold maxLen at hm
  by_cases h3 : 300 < n
  · have b1 : decide ((300 : Int) < (n : Int)) = true := by simp; omega
    clear hp hn hz
    go_enter Try.func8, Try.ntmps8
    go_wp2_with fail
    refine (law_awake w).mono ?_; rintro e w1 ⟨rfl, hB1⟩
    go_wp2_with fail
    go_ret
    exact ⟨rfl, hB1⟩
  have b1 : decide ((300 : Int) < (n : Int)) = false := by simp; omega
  have hm4 : n ≤ 400 := by omega
  have HCl := Lib.hid (ref_clone7 A n cap l w hn hm4 hp hz)
  have HT : Hid (Tab w A n cap l) := Lib.hid ⟨hn, hp, hz⟩
  clear hp hn hz h3
  have K1 := Lib.hid (fun A' c' W (h : Tab W A' n c' l) => ops_prefix A' n c' l name W h.len hm4 h.ops)
  have K2 := Lib.hid (fun A' c' W (h : Tab W A' n c' l) => ops_infix A' n c' l name W h.len hm4 h.ops)
  have K3 := Lib.hid (fun A' c' W (h : Tab W A' n c' l) => ops_postfix A' n c' l name W h.len hm4 h.ops)
  have F1 := Lib.hid (fun A' c' W (h : Tab W A' n c' l) => ref_find_tab h hm4 1 name)
  have F2 := Lib.hid (fun A' c' W (h : Tab W A' n c' l) => ref_find_tab h hm4 2 name)
  have F3 := Lib.hid (fun A' c' W (h : Tab W A' n c' l) => ref_find_tab h hm4 3 name)
  have V1 := Lib.hid (fun A' c' W (h : Tab W A' n c' l) => ops_valid A' n c' l W h.len hm4 h.ops)
  have V2 := Lib.hid (fun A' c' W (h : Tab W A' n c' l) => ref_valid A' n c' l W h.len hm4 h.ops)
  have I1 := Lib.hid (fun A' c' W (h : Tab W A' n c' l) => ops_is A' n c' l name W h.len hm4 h.ops)
  have I2 := Lib.hid (fun A' c' W (h : Tab W A' n c' l) => ref_is A' n c' l name W hm4 h)
  unfold opV at K1 K2 K3
  generalize (opsValid l && l.any (isNm name)) = pI at *
  generalize (findR l name 1).isSome = p1 at *
  generalize (findR l name 2).isSome = p2 at *
  generalize (findR l name 3).isSome = p3 at *
  generalize (findR l name 1).getD op0 = X1 at *
  generalize (findR l name 2).getD op0 = X2 at *
  generalize (findR l name 3).getD op0 = X3 at *
  generalize opsValid l = pV at *
  go_enter Try.func8, Try.ntmps8
  go_wp2_with fail
  refine HCl.out.mono ?_; rintro e w1 ⟨A1, c1, rfl, hB1, hO1⟩
  have HU1 := Lib.hid (Tab.own hO1)
  have HT1 := Lib.hid (HT.out.below hB1)
  have HB1 := Lib.hid hB1
  clear hO1 hB1 HCl
  go_wp2_with fail
  refine (K1.out A1 c1 w1 HU1.out).mono ?_; rintro e w2 ⟨rfl, hB2⟩
  have HX1 := Lib.hid (BoxG.start w2 X1 34)
  have hC2 := hB2.alloc hB2.size (.cells #[.string X1.name, .int .i64 X1.typ, .int .i64 X1.prec] 34)
  have HU2 := Lib.hid (HU1.out.below hC2)
  have HT2 := Lib.hid (HT1.out.below hC2)
  have HB2 := Lib.hid (HB1.out.trans (hC2.mono HB1.out.size))
  clear hB2 hC2 HU1 HT1 HB1
  go_wp2_with fail
  refine (K2.out A1 c1 _ HU2.out).mono ?_; rintro e w3 ⟨rfl, hB3⟩
  have HX2 := Lib.hid (BoxG.start w3 X2 34)
  have hC3 := hB3.alloc hB3.size (.cells #[.string X2.name, .int .i64 X2.typ, .int .i64 X2.prec] 34)
  have HX13 := Lib.hid (HX1.out.call hC3)
  have HU3 := Lib.hid (HU2.out.below hC3)
  have HT3 := Lib.hid (HT2.out.below hC3)
  have HB3 := Lib.hid (HB2.out.trans (hC3.mono HB2.out.size))
  clear hB3 hC3 HU2 HT2 HB2 HX1
  go_wp2_with fail
  refine (K3.out A1 c1 _ HU3.out).mono ?_; rintro e w4 ⟨rfl, hB4⟩
  have HX3 := Lib.hid (BoxG.start w4 X3 34)
  have hC4 := hB4.alloc hB4.size (.cells #[.string X3.name, .int .i64 X3.typ, .int .i64 X3.prec] 34)
  have HX14 := Lib.hid (HX13.out.call hC4)
  have HX24 := Lib.hid (HX2.out.call hC4)
  have HU4 := Lib.hid (HU3.out.below hC4)
  have HT4 := Lib.hid (HT3.out.below hC4)
  have HB4 := Lib.hid (HB3.out.trans (hC4.mono HB3.out.size))
  clear hB4 hC4 HU3 HT3 HB3 HX13 HX2
  go_wp2_with fail
  refine (F1.out A cap _ HT4.out).mono ?_; rintro e w5 ⟨rfl, hB5⟩
  have HY1 := Lib.hid (BoxG.start w5 X1 34)
  have hC5 := hB5.alloc hB5.size (.cells #[.string X1.name, .int .i64 X1.typ, .int .i64 X1.prec] 34)
  have HX15 := Lib.hid (HX14.out.call hC5)
  have HX25 := Lib.hid (HX24.out.call hC5)
  have HX35 := Lib.hid (HX3.out.call hC5)
  have HU5 := Lib.hid (HU4.out.below hC5)
  have HT5 := Lib.hid (HT4.out.below hC5)
  have HB5 := Lib.hid (HB4.out.trans (hC5.mono HB4.out.size))
  clear hB5 hC5 HU4 HT4 HB4 HX14 HX24 HX3
  go_wp2_with fail
  refine (F2.out A cap _ HT5.out).mono ?_; rintro e w6 ⟨rfl, hB6⟩
  have HY2 := Lib.hid (BoxG.start w6 X2 34)
  have hC6 := hB6.alloc hB6.size (.cells #[.string X2.name, .int .i64 X2.typ, .int .i64 X2.prec] 34)
  have HX16 := Lib.hid (HX15.out.call hC6)
  have HX26 := Lib.hid (HX25.out.call hC6)
  have HX36 := Lib.hid (HX35.out.call hC6)
  have HY16 := Lib.hid (HY1.out.call hC6)
  have HU6 := Lib.hid (HU5.out.below hC6)
  have HT6 := Lib.hid (HT5.out.below hC6)
  have HB6 := Lib.hid (HB5.out.trans (hC6.mono HB5.out.size))
  clear hB6 hC6 HU5 HT5 HB5 HX15 HX25 HX35 HY1
  go_wp2_with fail
  refine (F3.out A cap _ HT6.out).mono ?_; rintro e w7 ⟨rfl, hB7⟩
  have HY3 := Lib.hid (BoxG.start w7 X3 34)
  have hC7 := hB7.alloc hB7.size (.cells #[.string X3.name, .int .i64 X3.typ, .int .i64 X3.prec] 34)
  have HX17 := Lib.hid (HX16.out.call hC7)
  have HX27 := Lib.hid (HX26.out.call hC7)
  have HX37 := Lib.hid (HX36.out.call hC7)
  have HY17 := Lib.hid (HY16.out.call hC7)
  have HY27 := Lib.hid (HY2.out.call hC7)
  have HU7 := Lib.hid (HU6.out.below hC7)
  have HT7 := Lib.hid (HT6.out.below hC7)
  have HB7 := Lib.hid (HB6.out.trans (hC7.mono HB6.out.size))
  clear hB7 hC7 HU6 HT6 HB6 HX16 HX26 HX36 HY16 HY2
  go_wp2_with fail
  refine (V1.out A1 c1 _ HU7.out).mono ?_; rintro e w8 ⟨rfl, hB8⟩
  have HT8 := Lib.hid (HT7.out.below hB8)
  go_wp2_with fail
  refine (V2.out A cap _ HT8.out).mono ?_; rintro e w9 ⟨rfl, hB9⟩
  have hD9 := hB8.trans (hB9.mono hB8.size)
  have HU9 := Lib.hid (HU7.out.below hD9)
  clear HT8 hB8 hB9
  go_wp2_with fail
  refine (I1.out A1 c1 _ HU9.out).mono ?_; rintro e w10 ⟨rfl, hB10⟩
  have hD10 := hD9.trans (hB10.mono hD9.size)
  have HT10 := Lib.hid (HT7.out.below hD10)
  clear hD9 hB10
  go_wp2_with fail
  refine (I2.out A cap _ HT10.out).mono ?_; rintro e w11 ⟨rfl, hB11⟩
  have hD11 := hD10.trans (hB11.mono hD10.size)
  have HU11 := Lib.hid (HU7.out.below hD11)
  have HT11 := Lib.hid (HT7.out.below hD11)
  have HB11 := Lib.hid (HB7.out.trans (hD11.mono HB7.out.size))
  have G1 := HX17.out.call hD11
  have G2 := HX27.out.call hD11
  have G3 := HX37.out.call hD11
  have G4 := HY17.out.call hD11
  have G5 := HY27.out.call hD11
  have G6 := HY3.out.call hD11
  obtain ⟨_, a0, a1, a2⟩ := G1
  obtain ⟨_, b0, b1', b2⟩ := G2
  obtain ⟨_, c0, c1', c2⟩ := G3
  obtain ⟨_, d0, d1, d2⟩ := G4
  obtain ⟨_, e0, e1, e2⟩ := G5
  obtain ⟨_, f0, f1, f2⟩ := G6
  clear hD10 hB11 hD11 HT10 HU9
  go_wp2_with fail
  refine (same_tab HU11.out HT11.out hm4).mono ?_; rintro e w12 ⟨rfl, hB12⟩
  have HB12 := Lib.hid (HB11.out.trans (hB12.mono HB11.out.size))
  clear a0 a1 a2 b0 b1' b2 c0 c1' c2 d0 d1 d2 e0 e1 e2 f0 f1 f2
  go_wp2_with fail
  refine (law_awake _).mono ?_; rintro e w13 ⟨rfl, hB13⟩
  go_wp2_with fail
  go_ret
  exact ⟨rfl, HB12.out.trans (hB13.mono HB12.out.size)⟩
end Go.Proofs.Yteddbeifnolklaa
