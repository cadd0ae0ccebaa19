/- The reference's writer: operator. The reference's writer: Sides, IsCons; what 'into' and 'term' are to give; term. The reference's writer: left. -/
import Derived.Test.YtgapnafkelokaaaGreatDoorM17
import Derived.Test.YtgapnafkelokaaaGreatDoorM16
import Derived.Test.YtgapnafkelokaaaGreatDoorM09
namespace Hb
open Go Go.RowKit
/-- A box of three cells. -/
structure RB3 (w : World) (g : Nat) : Prop where
  lt : g < w.heap.size
  r0 : ∃ u, w.cell? ⟨g, 0, none⟩ = some u
  r1 : ∃ u, w.cell? ⟨g, 1, none⟩ = some u
  r2 : ∃ u, w.cell? ⟨g, 2, none⟩ = some u
  rf : ∀ o, w.frozen? ⟨g, o, none⟩ = false
theorem RB3.call {w w' : World} {g : Nat} (h : RB3 w g) (hB : Below w.heap.size w w') : RB3 w' g :=
  ⟨Nat.lt_of_lt_of_le h.lt hB.size, h.r0.imp fun _ k => (hB.cell (p := ⟨_, _, none⟩) h.lt).trans k, h.r1.imp fun _ k => (hB.cell (p := ⟨_, _, none⟩) h.lt).trans k, h.r2.imp fun _ k => (hB.cell (p := ⟨_, _, none⟩) h.lt).trans k, fun o => (hB.frozen (p := ⟨_, o, none⟩) h.lt).trans (h.rf o)⟩
theorem RB3.start (w : World) (x0 x1 x2 : Value) (e : TypeId) : RB3 (w.alloc (.cells #[x0, x1, x2] e)) w.heap.size :=
  ⟨by simp, ⟨_, World.cell?_alloc_new _ _ _ 0⟩, ⟨_, World.cell?_alloc_new _ _ _ 1⟩, ⟨_, World.cell?_alloc_new _ _ _ 2⟩, fun o => World.frozen?_alloc_new _ _ _ _⟩
theorem put3_below {w0 w : World} (h : Below w0.heap.size w0 w) (g : Nat) (hg : w0.heap.size ≤ g) (x y z : Value) : Below w0.heap.size w0 (((w.setCell ⟨g, 0, none⟩ x).setCell ⟨g, 1, none⟩ y).setCell ⟨g, 2, none⟩ z) :=
  ((h.setCell (p := ⟨_, _, none⟩) hg _).setCell (p := ⟨_, _, none⟩) hg _).setCell (p := ⟨_, _, none⟩) hg _
theorem put3_cells {w : World} {g : Nat} (h : RB3 w g) (x y z : Value) : (((w.setCell ⟨g, 0, none⟩ x).setCell ⟨g, 1, none⟩ y).setCell ⟨g, 2, none⟩ z).cell? ⟨g, 0, none⟩ = some x ∧ (((w.setCell ⟨g, 0, none⟩ x).setCell ⟨g, 1, none⟩ y).setCell ⟨g, 2, none⟩ z).cell? ⟨g, 1, none⟩ = some y ∧ (((w.setCell ⟨g, 0, none⟩ x).setCell ⟨g, 1, none⟩ y).setCell ⟨g, 2, none⟩ z).cell? ⟨g, 2, none⟩ = some z := by
  obtain ⟨u0, r0⟩ := h.r0
  obtain ⟨u1, r1⟩ := h.r1
  obtain ⟨u2, r2⟩ := h.r2
  have n01 : (⟨g, 0, none⟩ : Addr) ≠ ⟨g, 1, none⟩ := by intro e; injection e with _ e; cases e
  have n02 : (⟨g, 0, none⟩ : Addr) ≠ ⟨g, 2, none⟩ := by intro e; injection e with _ e; cases e
  have n12 : (⟨g, 1, none⟩ : Addr) ≠ ⟨g, 2, none⟩ := by intro e; injection e with _ e; cases e
  refine ⟨?_, ?_, ?_⟩
  · rw [World.cell?_setCell_other _ _ _ _ n02.symm, World.cell?_setCell_other _ _ _ _ n01.symm]; exact World.cell?_setCell_same _ _ _ r0
  · rw [World.cell?_setCell_other _ _ _ _ n12.symm]
    exact World.cell?_setCell_same _ _ _ ((World.cell?_setCell_other _ _ _ _ n01).trans r1)
  · exact World.cell?_setCell_same _ _ _ ((World.cell?_setCell_other _ _ _ _ n12).trans ((World.cell?_setCell_other _ _ _ _ n02).trans r2))
theorem put3_far {w : World} {g k : Nat} (hk : k ≠ g) (x y z : Value) (j : Nat) : (((w.setCell ⟨g, 0, none⟩ x).setCell ⟨g, 1, none⟩ y).setCell ⟨g, 2, none⟩ z).cell? ⟨k, j, none⟩ = w.cell? ⟨k, j, none⟩ := by
  have hn : ∀ i, (⟨g, i, none⟩ : Addr) ≠ ⟨k, j, none⟩ := fun i e => hk (by injection e with e; exact e.symm)
  rw [World.cell?_setCell_other _ _ _ _ (hn _), World.cell?_setCell_other _ _ _ _ (hn _), World.cell?_setCell_other _ _ _ _ (hn _)]
theorem put3_frz {w : World} {g : Nat} (p : Addr) (x y z : Value) : (((w.setCell ⟨g, 0, none⟩ x).setCell ⟨g, 1, none⟩ y).setCell ⟨g, 2, none⟩ z).frozen? p = w.frozen? p := by
  rw [World.frozen?_setCell, World.frozen?_setCell, World.frozen?_setCell]
theorem put3_size {w : World} {g : Nat} (x y z : Value) : (((w.setCell ⟨g, 0, none⟩ x).setCell ⟨g, 1, none⟩ y).setCell ⟨g, 2, none⟩ z).heap.size = w.heap.size := by simp
theorem RB3.far {w : World} {g k : Nat} (h : RB3 w k) (hk : k ≠ g) (x y z : Value) : RB3 (((w.setCell ⟨g, 0, none⟩ x).setCell ⟨g, 1, none⟩ y).setCell ⟨g, 2, none⟩ z) k :=
  ⟨by rw [put3_size]; exact h.lt, h.r0.imp fun _ r => (put3_far hk _ _ _ _).trans r, h.r1.imp fun _ r => (put3_far hk _ _ _ _).trans r, h.r2.imp fun _ r => (put3_far hk _ _ _ _).trans r, fun o => (put3_frz _ _ _ _).trans (h.rf o)⟩
/-- The three boxes of 'operator'. -/
structure Ro3 (w0 w : World) (o : WO) (TA : Option Addr) (TN TC : Nat) (t : Tm) (A : Option Addr) (cap : Nat) : Prop where
  f2 : Rf2 w0 w o TA TN TC t A cap
  rb : RB3 w (w0.heap.size + 2)
theorem Ro3.call {w0 w w' : World} {o : WO} {TA : Option Addr} {TN TC : Nat} {t : Tm} {A : Option Addr} {cap : Nat} (h : Ro3 w0 w o TA TN TC t A cap) (hB : Below w.heap.size w w') : Ro3 w0 w' o TA TN TC t A cap := ⟨h.f2.call hB, h.rb.call hB⟩
theorem Ro3.start (w : World) (o : WO) (TA : Option Addr) (TN TC : Nat) (t : Tm) (A : Option Addr) (cap LN : Nat) (e1 e2 e3 : TypeId) (hL : LN = t.args.length) (x0 x1 x2 : Value) :
    Ro3 w (((w.alloc (.cells #[.slice TA TN TC, .bool o.q, .bool o.ig, .bool o.nu] e1)).alloc (.cells #[.int .i64 t.kind, .int .i64 t.num, .string t.name, .slice A LN cap] e2)).alloc (.cells #[x0, x1, x2] e3)) o TA TN TC t A cap := by
  have h2 := Rf2.start w o TA TN TC t A cap LN e1 e2 hL
  have hs : ((w.alloc (.cells #[.slice TA TN TC, .bool o.q, .bool o.ig, .bool o.nu] e1)).alloc (.cells #[.int .i64 t.kind, .int .i64 t.num, .string t.name, .slice A LN cap] e2)).heap.size = w.heap.size + 2 := by simp
  have h3 := RB3.start ((w.alloc (.cells #[.slice TA TN TC, .bool o.q, .bool o.ig, .bool o.nu] e1)).alloc (.cells #[.int .i64 t.kind, .int .i64 t.num, .string t.name, .slice A LN cap] e2)) x0 x1 x2 e3
  rw [hs] at h3
  exact ⟨h2.call ((Below.refl _ _).alloc (Nat.le_refl _) _), h3⟩
theorem cond_in2 {o : WO} {T : List OpR} {t : Tm} (hig : o.ig = false) : condIn o T t = (has T t.name 2 && t.args.length == 2) ∧ condPre o T t = (has T t.name 1 && t.args.length == 1) ∧ condPost o T t = (has T t.name 3 && t.args.length == 1) := by
  unfold condIn condPre condPost; rw [hig]; exact ⟨rfl, rfl, rfl⟩
end Hb
namespace Go.Proofs.YtgapnafkelokaaaGreatDoor
open Go.RowKit Hb
set_option maxRecDepth 100000
/-- Find, in the terms of the writer. -/
theorem r_find {T : List OpR} {TA : Option Addr} {TN TC : Nat} {w : World} (hT : Tab w TA TN TC T) (hm : TN ≤ 400) (c : Int) (name : ByteArray) :
    Calls Tryz.prog 45 #[.slice TA TN TC, .int .i64 c, .string name] w fun e w' => e = .returned (.tuple #[.agg #[.string (gets T name c).name, .int .i64 (gets T name c).typ, .int .i64 (gets T name c).prec], .bool (has T name c)]) ∧ Below w.heap.size w w' := ref_find_tab hT hm c name
set_option maxHeartbeats 6400000 in
theorem r_operator (o : WO) (T : List OpR) (TA : Option Addr) (TN TC : Nat) (t : Tm) (hfit : (t.args.all nodeFit) = true) (A : Option Addr) (cap : Nat) (w : World) (few : TN ≤ 400) (hTab : Tab w TA TN TC T) (hT : TmsAt w.heap.size w A t.args) :
    Calls Tryz.prog 90 #[rwV o TA TN TC, tmV t A cap] w fun e w' => e = .returned (.tuple #[opV (operW o T t).1, .int .i64 (operW o T t).2]) ∧ Below w.heap.size w w' := by
  obtain ⟨LN, HL⟩ : ∃ LN, Hid (LN = t.args.length) := ⟨_, Lib.hid rfl⟩
  have HX := Lib.hid (Ro3.start w o TA TN TC t A cap LN 70 24 80 HL.out (.string ⟨#[]⟩) (.int .i64 0) (.int .i64 0))
  have HBX := HX.out.f2.bel
  have HLOW := Lib.hid (oper_low (o := o) (T := T) (t := t))
  have HIGG := Lib.hid (oper_ig (o := o) (T := T) (t := t))
  have HIS := Lib.hid (oper_is (o := o) (T := T) (t := t))
  have HCD := Lib.hid (cond_in2 (o := o) (T := T) (t := t))
  have HCL : Hid (condList t = (t.name.toList == [46] && t.args.length == 2)) := Lib.hid rfl
  have HCU : Hid ((t.isNm [123, 125] && t.args.length == 1) = (t.name.toList == [123, 125] && t.args.length == 1)) := Lib.hid rfl
  have HNUM := Lib.hid (fun W (h : Below w.heap.size w W) => r_numbered o TA TN TC t hfit A cap W ((hT.keep h).mono h.size))
  have HF := Lib.hid (fun c W (h : Below w.heap.size w W) => r_find (hTab.below h) few c t.name)
  rw [HCU.out] at HIS
  rw [← HL.out] at HCL HIS HCD
  rw [HCL.out] at HIS
  clear hT hfit hTab HCL HCU
  unfold tmV rwV at *
  rw [← HL.out] at HNUM ⊢
  by_cases h3 : t.kind = 3
  · cases hig : o.ig
    · have HOPW := Lib.hid (HIS.out h3 hig)
      obtain ⟨q1, q2, q3⟩ := HCD.out hig
      rw [q1, q2, q3] at HOPW
      rw [hig, h3] at HX HBX HNUM
      rw [h3]
      clear HLOW HIGG HIS HCD q1 q2 q3 h3 hig
      go_enter Tryz.func90, Tryz.ntmps90
      go_wp2_with fail
      refine (HNUM.out _ HBX).mono ?_; rintro e w1 ⟨rfl, hB1⟩
      have hX1 := Lib.hid (HX.out.call hB1)
      have hb1 := HBX.trans (hB1.mono HBX.size)
      clear HX HNUM
      cases c0 : isNum o t
      · rw [c0] at HOPW
        clear c0
        have hcase : ((t.name.toList == [46]) = true ∧ LN = 2) ∨ ((t.name.toList == [123, 125]) = true ∧ LN = 1) ∨ (¬ ((t.name.toList == [46]) = true ∧ LN = 2) ∧ ¬ ((t.name.toList == [123, 125]) = true ∧ LN = 1) ∧ (LN = 1 ∨ LN = 2 ∨ (LN ≠ 1 ∧ LN ≠ 2))) := by
          by_cases a1 : (t.name.toList == [46]) = true <;> by_cases a2 : (t.name.toList == [123, 125]) = true <;> by_cases a3 : LN = 1 <;> by_cases a4 : LN = 2 <;> simp [a1, a2, a3, a4]
        rcases hcase with ⟨n1, l2⟩ | ⟨n1, l1⟩ | ⟨n1, n2, hl⟩
        · have HR := Lib.hid (show operW o T t = (op0, 0) by rw [HOPW.out, n1, l2]; rfl)
          have n1' : t.name.toList = [46] := by simpa using n1
          subst l2
          clear HOPW
          have hrb := hX1.out.rb
          obtain ⟨u0, r0⟩ := hrb.r0
          obtain ⟨u1, r1⟩ := hrb.r1
          obtain ⟨u2, r2⟩ := hrb.r2
          have f0 := hrb.rf 0
          have f1 := hrb.rf 1
          have f2 := hrb.rf 2
          have c0 := hX1.out.f2.wb.c0
          have ct2 := hX1.out.f2.tb.c2
          have ct3 := hX1.out.f2.tb.c3
          rw [← HL.out] at ct3
          go_wp2_with fail
          refine bodyPost_ret (v := .tuple #[opV op0, .int .i64 0]) (by simp [opV, op0, results, Tryz.results90, go_sem, r0, r1, r2]) rfl ⟨by rw [HR.out], ?_⟩
          exact put3_below hb1 _ (by omega) _ _ _
        · have HR := Lib.hid (show operW o T t = (op0, 0) by rw [HOPW.out, n1, l1]; simp)
          have n1' : t.name.toList = [123, 125] := by simpa using n1
          have n2' : (t.name.toList == [46]) = false := by rw [n1']; rfl
          have n3' : ¬ t.name.toList = [46] := by rw [n1']; decide
          subst l1
          clear HOPW
          have hrb := hX1.out.rb
          obtain ⟨u0, r0⟩ := hrb.r0
          obtain ⟨u1, r1⟩ := hrb.r1
          obtain ⟨u2, r2⟩ := hrb.r2
          have f0 := hrb.rf 0
          have f1 := hrb.rf 1
          have f2 := hrb.rf 2
          have c0 := hX1.out.f2.wb.c0
          have ct2 := hX1.out.f2.tb.c2
          have ct3 := hX1.out.f2.tb.c3
          rw [← HL.out] at ct3
          go_wp2_with fail
          refine bodyPost_ret (v := .tuple #[opV op0, .int .i64 0]) (by simp [opV, op0, results, Tryz.results90, go_sem, r0, r1, r2]) rfl ⟨by rw [HR.out], ?_⟩
          exact put3_below hb1 _ (by omega) _ _ _
        · rcases hl with l1 | l2 | ⟨l1, l2⟩
          · have n2' : (t.name.toList == [123, 125]) = false := by simp [l1] at n2; simpa using n2
            have n3' : ¬ t.name.toList = [123, 125] := by simpa using n2'
            subst l1
            have HOPW2 : Hid (operW o T t = if has T t.name 1 = true then (gets T t.name 1, 1) else if has T t.name 3 = true then (gets T t.name 3, 3) else (op0, 0)) := Lib.hid (by rw [HOPW.out, n2']; simp)
            clear HOPW n1 n2
            have HF1 := Lib.hid (HF.out 1)
            have HF3 := Lib.hid (HF.out 3)
            clear HF
            by_cases hn46 : (t.name.toList == [46]) = true
            all_goals
              have hn46' := hn46
              simp at hn46'
              cases c1 : has T t.name 1
              · rw [c1] at HOPW2 HF1
                clear c1
                cases c3 : has T t.name 3
                · rw [c3] at HOPW2 HF3
                  have HR := Lib.hid (show operW o T t = (op0, 0) by rw [HOPW2.out]; rfl)
                  clear c3 HOPW2
                  have c0 := hX1.out.f2.wb.c0
                  have ct2 := hX1.out.f2.tb.c2
                  have ct3 := hX1.out.f2.tb.c3
                  rw [← HL.out] at ct3
                  go_wp2_with fail
                  refine (HF1.out _ hb1).mono ?_; rintro e w2 ⟨rfl, hB2⟩
                  generalize gets T t.name 1 = p at *
                  have hX2 := Lib.hid ((hX1.out.call hB2).call ((Below.refl _ _).alloc (Nat.le_refl _) (.cells #[.string p.name, .int .i64 p.typ, .int .i64 p.prec] 80)))
                  have hg2 : w.heap.size + 2 < w2.heap.size := Nat.lt_of_lt_of_le hX1.out.rb.lt hB2.size
                  have hG2 := RB3.start w2 (.string p.name) (.int .i64 p.typ) (.int .i64 p.prec) 80
                  clear hX1
                  have hb2 := hX2.out.f2.bel
                  have c0' := hX2.out.f2.wb.c0
                  have ct2' := hX2.out.f2.tb.c2
                  go_wp2_with fail
                  refine (HF3.out _ hb2).mono ?_; rintro e w3 ⟨rfl, hB3⟩
                  have hX3 := Lib.hid (hX2.out.call hB3)
                  have hG3 := Lib.hid (hG2.call hB3)
                  have hs3 : w2.heap.size < w3.heap.size := by have := hB3.size; simp at this; omega
                  clear hX2 hG2 c0 ct2 ct3 c0' ct2'
                  have hb3 := hX3.out.f2.bel
                  obtain ⟨u0, r0⟩ := hG3.out.r0
                  obtain ⟨u1, r1⟩ := hG3.out.r1
                  obtain ⟨u2, r2⟩ := hG3.out.r2
                  have f0 := hG3.out.rf 0
                  have f1 := hG3.out.rf 1
                  have f2 := hG3.out.rf 2
                  go_upto_region 15 with fail
                  obtain ⟨q0, q1, q2⟩ := put3_cells hG3.out (.string (gets T t.name 3).name) (.int .i64 (gets T t.name 3).typ) (.int .i64 (gets T t.name 3).prec)
                  have hrb := (hX3.out.rb).far (g := w2.heap.size) (by omega) (.string (gets T t.name 3).name) (.int .i64 (gets T t.name 3).typ) (.int .i64 (gets T t.name 3).prec)
                  have hb4 := put3_below hb3 w2.heap.size (by omega) (.string (gets T t.name 3).name) (.int .i64 (gets T t.name 3).typ) (.int .i64 (gets T t.name 3).prec)
                  generalize gets T t.name 3 = p3 at *
                  generalize (((w3.setCell ⟨w2.heap.size, 0, none⟩ (.string p3.name)).setCell ⟨w2.heap.size, 1, none⟩ (.int .i64 p3.typ)).setCell ⟨w2.heap.size, 2, none⟩ (.int .i64 p3.prec)) = w4 at *
                  clear r0 r1 r2 f0 f1 f2 hX3 hG3 hb3
                  obtain ⟨u0, r0⟩ := hrb.r0
                  obtain ⟨u1, r1⟩ := hrb.r1
                  obtain ⟨u2, r2⟩ := hrb.r2
                  have f0 := hrb.rf 0
                  have f1 := hrb.rf 1
                  have f2 := hrb.rf 2
                  go_wp2_with fail
                  refine bodyPost_ret (v := .tuple #[opV op0, .int .i64 0]) (by simp [opV, op0, results, Tryz.results90, go_sem, r0, r1, r2]) rfl ⟨by rw [HR.out], ?_⟩
                  exact put3_below hb4 _ (by omega) _ _ _
                · rw [c3] at HOPW2 HF3
                  have HR := Lib.hid (show operW o T t = (gets T t.name 3, 3) by rw [HOPW2.out]; rfl)
                  clear c3 HOPW2
                  have c0 := hX1.out.f2.wb.c0
                  have ct2 := hX1.out.f2.tb.c2
                  have ct3 := hX1.out.f2.tb.c3
                  rw [← HL.out] at ct3
                  go_wp2_with fail
                  refine (HF1.out _ hb1).mono ?_; rintro e w2 ⟨rfl, hB2⟩
                  generalize gets T t.name 1 = p at *
                  have hX2 := Lib.hid ((hX1.out.call hB2).call ((Below.refl _ _).alloc (Nat.le_refl _) (.cells #[.string p.name, .int .i64 p.typ, .int .i64 p.prec] 80)))
                  have hg2 : w.heap.size + 2 < w2.heap.size := Nat.lt_of_lt_of_le hX1.out.rb.lt hB2.size
                  have hG2 := RB3.start w2 (.string p.name) (.int .i64 p.typ) (.int .i64 p.prec) 80
                  clear hX1
                  have hb2 := hX2.out.f2.bel
                  have c0' := hX2.out.f2.wb.c0
                  have ct2' := hX2.out.f2.tb.c2
                  go_wp2_with fail
                  refine (HF3.out _ hb2).mono ?_; rintro e w3 ⟨rfl, hB3⟩
                  have hX3 := Lib.hid (hX2.out.call hB3)
                  have hG3 := Lib.hid (hG2.call hB3)
                  have hs3 : w2.heap.size < w3.heap.size := by have := hB3.size; simp at this; omega
                  clear hX2 hG2 c0 ct2 ct3 c0' ct2'
                  have hb3 := hX3.out.f2.bel
                  obtain ⟨u0, r0⟩ := hG3.out.r0
                  obtain ⟨u1, r1⟩ := hG3.out.r1
                  obtain ⟨u2, r2⟩ := hG3.out.r2
                  have f0 := hG3.out.rf 0
                  have f1 := hG3.out.rf 1
                  have f2 := hG3.out.rf 2
                  go_upto_region 15 with fail
                  obtain ⟨q0, q1, q2⟩ := put3_cells hG3.out (.string (gets T t.name 3).name) (.int .i64 (gets T t.name 3).typ) (.int .i64 (gets T t.name 3).prec)
                  have hrb := (hX3.out.rb).far (g := w2.heap.size) (by omega) (.string (gets T t.name 3).name) (.int .i64 (gets T t.name 3).typ) (.int .i64 (gets T t.name 3).prec)
                  have hb4 := put3_below hb3 w2.heap.size (by omega) (.string (gets T t.name 3).name) (.int .i64 (gets T t.name 3).typ) (.int .i64 (gets T t.name 3).prec)
                  generalize gets T t.name 3 = p3 at *
                  generalize (((w3.setCell ⟨w2.heap.size, 0, none⟩ (.string p3.name)).setCell ⟨w2.heap.size, 1, none⟩ (.int .i64 p3.typ)).setCell ⟨w2.heap.size, 2, none⟩ (.int .i64 p3.prec)) = w4 at *
                  clear r0 r1 r2 f0 f1 f2 hX3 hG3 hb3
                  obtain ⟨u0, r0⟩ := hrb.r0
                  obtain ⟨u1, r1⟩ := hrb.r1
                  obtain ⟨u2, r2⟩ := hrb.r2
                  have f0 := hrb.rf 0
                  have f1 := hrb.rf 1
                  have f2 := hrb.rf 2
                  go_wp2_with fail
                  refine bodyPost_ret (v := .tuple #[opV p3, .int .i64 3]) (by simp [opV, results, Tryz.results90, go_sem, r0, r1, r2]) rfl ⟨by rw [HR.out], ?_⟩
                  exact put3_below hb4 _ (by omega) _ _ _
              · rw [c1] at HOPW2 HF1
                have HR := Lib.hid (show operW o T t = (gets T t.name 1, 1) by rw [HOPW2.out]; rfl)
                clear c1 HOPW2
                have c0 := hX1.out.f2.wb.c0
                have ct2 := hX1.out.f2.tb.c2
                have ct3 := hX1.out.f2.tb.c3
                rw [← HL.out] at ct3
                go_wp2_with fail
                refine (HF1.out _ hb1).mono ?_; rintro e w2 ⟨rfl, hB2⟩
                generalize gets T t.name 1 = p at *
                have hX2 := Lib.hid (hX1.out.call hB2)
                have hg2 : w.heap.size + 2 < w2.heap.size := Nat.lt_of_lt_of_le hX1.out.rb.lt hB2.size
                have hb2 := hX2.out.f2.bel
                clear c0 ct2 ct3 hX1
                have hrb := hX2.out.rb
                obtain ⟨u0, r0⟩ := hrb.r0
                obtain ⟨u1, r1⟩ := hrb.r1
                obtain ⟨u2, r2⟩ := hrb.r2
                have f0 := hrb.rf 0
                have f1 := hrb.rf 1
                have f2 := hrb.rf 2
                go_wp2_with fail
                refine bodyPost_ret (v := .tuple #[opV p, .int .i64 1]) (by simp [opV, results, Tryz.results90, go_sem, r0, r1, r2, hg2]) rfl ⟨by rw [HR.out], ?_⟩
                repeat (first | exact hb2 | exact put3_below hb2 _ (by omega) _ _ _ | refine Below.alloc ?_ (by first | exact hb2.size | (simp; omega)) _)
          · have n2' : (t.name.toList == [46]) = false := by simp [l2] at n1; simpa using n1
            have n3' : ¬ t.name.toList = [46] := by simpa using n2'
            subst l2
            have HOPW2 : Hid (operW o T t = if has T t.name 2 = true then (gets T t.name 2, 2) else (op0, 0)) := Lib.hid (by rw [HOPW.out, n2']; simp)
            clear HOPW n1 n2
            have HF2 := Lib.hid (HF.out 2)
            clear HF
            by_cases hn46 : (t.name.toList == [123, 125]) = true
            all_goals
              have hn46' := hn46
              simp at hn46'
              cases c2 : has T t.name 2
              · rw [c2] at HOPW2 HF2
                have HR := Lib.hid (show operW o T t = (op0, 0) by rw [HOPW2.out]; rfl)
                clear c2 HOPW2
                have c0 := hX1.out.f2.wb.c0
                have ct2 := hX1.out.f2.tb.c2
                have ct3 := hX1.out.f2.tb.c3
                rw [← HL.out] at ct3
                go_wp2_with fail
                refine (HF2.out _ hb1).mono ?_; rintro e w2 ⟨rfl, hB2⟩
                generalize gets T t.name 2 = p at *
                have hX2 := Lib.hid (hX1.out.call hB2)
                have hg2 : w.heap.size + 2 < w2.heap.size := Nat.lt_of_lt_of_le hX1.out.rb.lt hB2.size
                have hb2 := hX2.out.f2.bel
                clear c0 ct2 ct3 hX1
                have hrb := hX2.out.rb
                obtain ⟨u0, r0⟩ := hrb.r0
                obtain ⟨u1, r1⟩ := hrb.r1
                obtain ⟨u2, r2⟩ := hrb.r2
                have f0 := hrb.rf 0
                have f1 := hrb.rf 1
                have f2 := hrb.rf 2
                have ct3 := hX2.out.f2.tb.c3
                rw [← HL.out] at ct3
                have ct3' := (hX2.out.call ((Below.refl _ _).alloc (Nat.le_refl _) (.cells #[.string p.name, .int .i64 p.typ, .int .i64 p.prec] 80))).f2.tb.c3
                rw [← HL.out] at ct3'
                go_wp2_with fail
                refine bodyPost_ret (v := .tuple #[opV op0, .int .i64 0]) (by simp [opV, op0, results, Tryz.results90, go_sem, r0, r1, r2, hg2]) rfl ⟨by rw [HR.out], ?_⟩
                repeat (first | exact hb2 | exact put3_below hb2 _ (by omega) _ _ _ | refine Below.alloc ?_ (by first | exact hb2.size | (simp; omega)) _)
              · rw [c2] at HOPW2 HF2
                have HR := Lib.hid (show operW o T t = (gets T t.name 2, 2) by rw [HOPW2.out]; rfl)
                clear c2 HOPW2
                have c0 := hX1.out.f2.wb.c0
                have ct2 := hX1.out.f2.tb.c2
                have ct3 := hX1.out.f2.tb.c3
                rw [← HL.out] at ct3
                go_wp2_with fail
                refine (HF2.out _ hb1).mono ?_; rintro e w2 ⟨rfl, hB2⟩
                generalize gets T t.name 2 = p at *
                have hX2 := Lib.hid (hX1.out.call hB2)
                have hg2 : w.heap.size + 2 < w2.heap.size := Nat.lt_of_lt_of_le hX1.out.rb.lt hB2.size
                have hb2 := hX2.out.f2.bel
                clear c0 ct2 ct3 hX1
                have hrb := hX2.out.rb
                obtain ⟨u0, r0⟩ := hrb.r0
                obtain ⟨u1, r1⟩ := hrb.r1
                obtain ⟨u2, r2⟩ := hrb.r2
                have f0 := hrb.rf 0
                have f1 := hrb.rf 1
                have f2 := hrb.rf 2
                go_wp2_with fail
                refine bodyPost_ret (v := .tuple #[opV p, .int .i64 2]) (by simp [opV, results, Tryz.results90, go_sem, r0, r1, r2, hg2]) rfl ⟨by rw [HR.out], ?_⟩
                repeat (first | exact hb2 | exact put3_below hb2 _ (by omega) _ _ _ | refine Below.alloc ?_ (by first | exact hb2.size | (simp; omega)) _)
          · have HR := Lib.hid (show operW o T t = (op0, 0) by
              rw [HOPW.out]
              have a1 : (LN == 1) = false := by simpa using l1
              have a2 : (LN == 2) = false := by simpa using l2
              rw [a1, a2]; simp)
            have e1 : ((LN : Int) == 1) = false := by simp; omega
            have e2 : ((LN : Int) == 2) = false := by simp; omega
            have e3 : ¬ ((LN : Int) = 1) := by omega
            have e4 : ¬ ((LN : Int) = 2) := by omega
            clear HOPW n1 n2
            by_cases hn46 : (t.name.toList == [46]) = true
            all_goals by_cases hn12 : (t.name.toList == [123, 125]) = true
            all_goals
              have hn46' := hn46
              have hn12' := hn12
              simp at hn46' hn12'
              have hrb := hX1.out.rb
              obtain ⟨u0, r0⟩ := hrb.r0
              obtain ⟨u1, r1⟩ := hrb.r1
              obtain ⟨u2, r2⟩ := hrb.r2
              have f0 := hrb.rf 0
              have f1 := hrb.rf 1
              have f2 := hrb.rf 2
              have c0 := hX1.out.f2.wb.c0
              have ct2 := hX1.out.f2.tb.c2
              have ct3 := hX1.out.f2.tb.c3
              rw [← HL.out] at ct3
              go_wp2_with fail
              refine bodyPost_ret (v := .tuple #[opV op0, .int .i64 0]) (by simp [opV, op0, results, Tryz.results90, go_sem, r0, r1, r2]) rfl ⟨by rw [HR.out], ?_⟩
              exact put3_below hb1 _ (by omega) _ _ _
      · have HR := Lib.hid (show operW o T t = (op0, 0) by rw [HOPW.out, c0]; rfl)
        clear HOPW
        have hrb := hX1.out.rb
        obtain ⟨u0, r0⟩ := hrb.r0
        obtain ⟨u1, r1⟩ := hrb.r1
        obtain ⟨u2, r2⟩ := hrb.r2
        have f0 := hrb.rf 0
        have f1 := hrb.rf 1
        have f2 := hrb.rf 2
        have c0 := hX1.out.f2.wb.c0
        have ct2 := hX1.out.f2.tb.c2
        have ct3 := hX1.out.f2.tb.c3
        rw [← HL.out] at ct3
        go_wp2_with fail
        refine bodyPost_ret (v := .tuple #[opV op0, .int .i64 0]) (by simp [opV, op0, results, Tryz.results90, go_sem, r0, r1, r2]) rfl ⟨by rw [HR.out], ?_⟩
        exact put3_below hb1 _ (by omega) _ _ _
    · have HR := Lib.hid (HIGG.out h3 hig)
      have hX1 := HX
      rw [hig, h3] at hX1
      rw [h3]
      have hb1 := hX1.out.f2.bel
      clear HX HLOW HIGG HIS HCD HNUM HF HBX h3 hig
      go_enter Tryz.func90, Tryz.ntmps90
      go_wp2_with fail
      refine bodyPost_ret (v := .tuple #[opV op0, .int .i64 0]) (by simp [opV, op0, results, Tryz.results90, go_sem]) rfl ⟨by rw [HR.out], ?_⟩
      exact hb1
  · have HR := Lib.hid (HLOW.out h3)
    have k3 : (t.kind == 3) = false := by simpa using h3
    have hX1 := HX
    have hb1 := hX1.out.f2.bel
    clear HX HLOW HIGG HIS HCD HNUM HF HBX
    go_enter Tryz.func90, Tryz.ntmps90
    go_wp2_with fail
    refine bodyPost_ret (v := .tuple #[opV op0, .int .i64 0]) (by simp [opV, op0, results, Tryz.results90, go_sem]) rfl ⟨by rw [HR.out], ?_⟩
    exact hb1
end Go.Proofs.YtgapnafkelokaaaGreatDoor
namespace Hb
open Go Go.RowKit
/-- The row's block is the old one, or a new one. -/
def AtB (w : World) (v v' : Value) : Prop := v'.ownBlock = v.ownBlock ∨ ∃ k, v'.ownBlock = some k ∧ w.heap.size ≤ k
theorem AtB.refl (w : World) (v : Value) : AtB w v v := .inl rfl
theorem AtB.trans {a w : World} {v v1 v2 : Value} (h : AtB a v v1) (k : AtB w v1 v2) (hs : a.heap.size ≤ w.heap.size) : AtB a v v2 := by
  rcases k with k | ⟨g, k, hg⟩
  · rw [AtB, k]; exact h
  · exact .inr ⟨g, k, Nat.le_trans hs hg⟩
theorem AtB.of_new {w : World} {v v' : Value} (h : v'.ownBlock = v.ownBlock ∨ v'.ownBlock = some w.heap.size) : AtB w v v' := h.imp id fun h => ⟨_, h, Nat.le_refl _⟩
theorem grown_on {a w w' : World} {v v1 : Value} (h : a.grownBy w v.ownBlock) (hv : AtB a v v1) (k : w.grownBy w' v1.ownBlock) : a.grownBy w' v.ownBlock := by
  refine ⟨k.os.trans h.os, k.tape.trans h.tape, k.output.trans h.output, Nat.le_trans h.size k.size, fun i hi hne => (k.block i (Nat.lt_of_lt_of_le hi h.size) fun e => ?_).trans (h.block i hi hne)⟩
  rcases hv with hv | ⟨g, hv, hg⟩
  · rw [hv] at e; exact hne e
  · rw [hv] at e; injection e with e; omega
theorem grown_bel {a w w' : World} {row : Option Nat} (h : a.grownBy w row) (k : Below w.heap.size w w') : a.grownBy w' row :=
  ⟨k.os.trans h.os, k.tape.trans h.tape, k.output.trans h.output, Nat.le_trans h.size k.size, fun i hi hne => (k.block i (Nat.lt_of_lt_of_le hi h.size)).trans (h.block i hi hne)⟩
theorem bel_grown {a w w' : World} {row : Option Nat} (h : Below a.heap.size a w) (k : w.grownBy w' row) : a.grownBy w' row :=
  ⟨k.os.trans h.os, k.tape.trans h.tape, k.output.trans h.output, Nat.le_trans h.size k.size, fun i hi hne => (k.block i (Nat.lt_of_lt_of_le hi h.size) hne).trans (h.block i hi)⟩
theorem grown_none {w w' : World} (h : w.grownBy w' none) : Below w.heap.size w w' := ⟨h.os, h.tape, h.output, h.size, fun i hi => h.block i hi (by simp)⟩
theorem grown_self (w : World) (row : Option Nat) : w.grownBy w row := ⟨rfl, rfl, rfl, Nat.le_refl _, fun _ _ _ => rfl⟩
theorem OwnS.raise {e b c : Nat} {w : World} {v : Value} {l : List ByteArray} (h : OwnS e b w v l) (hc : v.ownBlock = none ∨ ∃ k, v.ownBlock = some k ∧ c ≤ k) : OwnS e c w v l := by
  refine ⟨h.1, ?_⟩
  rcases h.2 with hn | ⟨g, cap, cur, hv, hbg, rest⟩
  · exact .inl hn
  · refine .inr ⟨g, cap, cur, hv, ?_, rest⟩
    rcases hc with hc | ⟨k, hk, hck⟩
    · rw [hv] at hc; cases hc
    · rw [hv] at hk; injection hk with hk
      have : g = k := hk
      omega
theorem OwnS.low {e b : Nat} {w : World} {v : Value} {l : List ByteArray} (h : OwnS e b w v l) {k : Nat} (hk : v.ownBlock = some k) : b ≤ k ∧ k < w.heap.size := ⟨(World.ownsRow.lt h k hk).1, (World.ownsRow.lt h k hk).2⟩
theorem sideL_nn (op : OpR) : 0 ≤ sideL op := by unfold sideL; repeat' split
                                                 all_goals omega
theorem sideR_nn (op : OpR) : 0 ≤ sideR op := by unfold sideR; repeat' split
                                                 all_goals omega
end Hb
namespace Go.Proofs.YtgapnafkelokaaaGreatDoor
open Go.RowKit Hb
set_option maxRecDepth 100000
set_option maxHeartbeats 1600000 in
theorem ref_sides (o : OpR) (w : World) (hp : -9223372036854775808 ≤ o.prec ∧ o.prec ≤ 9223372036854775807) : Calls Tryz.prog 139 #[opV o] w fun e w' => e = .returned (.tuple #[.int .i64 (sideL o), .int .i64 (sideR o)]) ∧ Below w.heap.size w w' := by
  unfold opV
  generalize hL : sideL o = x
  generalize hR : sideR o = y
  have HL := Lib.hid hL
  have HR := Lib.hid hR
  clear hL hR
  obtain ⟨name, typ, prec⟩ := o
  have hd : prec < 1 ∨ 1200 < prec ∨ ((1 ≤ prec ∧ prec ≤ 1200) ∧ (typ = 1 ∨ typ = 2 ∨ typ = 3 ∨ typ = 4 ∨ typ = 5 ∨ typ = 6 ∨ typ = 7 ∨ (¬typ = 1 ∧ ¬typ = 2 ∧ ¬typ = 3 ∧ ¬typ = 4 ∧ ¬typ = 5 ∧ ¬typ = 6 ∧ ¬typ = 7))) := by omega
  rcases hd with h | h | ⟨⟨h1, h2⟩, rfl | rfl | rfl | rfl | rfl | rfl | rfl | ⟨n1, n2, n3, n4, n5, n6, n7⟩⟩
  all_goals
    go_enter Tryz.func139, Tryz.ntmps139
    go_wp2_with fail
    refine bodyPost_ret (v := .tuple #[.int .i64 x, .int .i64 y]) ?_ rfl ⟨rfl, by first | exact (Below.refl _ _).alloc (Nat.le_refl _) _ | exact bl_drewN ((Below.refl _ _).alloc (Nat.le_refl _) _) _⟩
    have hl := HL.out
    have hr := HR.out
    unfold sideL at hl
    unfold sideR at hr
    simp [results, Tryz.results139, go_sem]
    grind
set_option maxHeartbeats 1600000 in
theorem ref_isCons (t : Tm) (A : Option Addr) (cap : Nat) (w : World) : Calls Tryz.prog 136 #[tmV t A cap] w fun e w' => e = .returned (.bool t.cons) ∧ Below w.heap.size w w' := by
  obtain ⟨LN, HL⟩ : ∃ LN, Hid (LN = t.args.length) := ⟨_, Lib.hid rfl⟩
  have HC : Hid (t.cons = (t.kind == 3 && (t.name.toList == [46] && LN == 2))) := Lib.hid (by rw [HL.out]; rfl)
  have hB := (Below.refl w.heap.size w).alloc (Nat.le_refl _) (.cells #[.int .i64 t.kind, .int .i64 t.num, .string t.name, .slice A LN cap] 24)
  unfold tmV
  rw [← HL.out]
  generalize t.kind = k at *
  generalize t.cons = q at *
  by_cases h3 : k = 3
  · subst h3
    by_cases hn : t.name.toList = [46]
    · have h1 : (t.name.toList == [46]) = true := by simpa using hn
      by_cases hl : LN = 2
      · subst hl
        have HR := Lib.hid (show q = true by rw [HC.out, h1]; rfl)
        go_enter Tryz.func136, Tryz.ntmps136
        go_wp2_with fail
        go_ret
        exact ⟨ret_bool HR.out.symm, hB⟩
      · have hl2 : (LN == 2) = false := by simpa using hl
        have hl3 : ((LN : Int) == 2) = false := by simp <;> omega
        have hl4 : ¬ ((LN : Int) = 2) := by omega
        have HR := Lib.hid (show q = false by rw [HC.out, h1, hl2]; rfl)
        go_enter Tryz.func136, Tryz.ntmps136
        go_wp2_with fail
        go_ret
        exact ⟨ret_bool (by rw [HR.out]), hB⟩
    · have h1 : (t.name.toList == [46]) = false := by simpa using hn
      have HR := Lib.hid (show q = false by rw [HC.out, h1]; rfl)
      go_enter Tryz.func136, Tryz.ntmps136
      go_wp2_with fail
      go_ret
      exact ⟨ret_bool HR.out.symm, hB⟩
  · have h1 : (k == 3) = false := by simpa using h3
    have HR := Lib.hid (show q = false by rw [HC.out, h1]; rfl)
    go_enter Tryz.func136, Tryz.ntmps136
    go_wp2_with fail
    go_ret
    exact ⟨ret_bool HR.out.symm, hB⟩
section
variable (o : WO) (T : List OpR) (TA : Option Addr) (TN TC : Nat) (w0 : World)
/-- 'into' appends a term's pieces. -/
def IOK (t : Tm) : Prop := ∀ (max : Int) (opd : Bool), 0 ≤ max → ∀ (A : Option Addr) (cap : Nat) (w : World) (v : Value) (xs : List ByteArray), Below w0.heap.size w0 w → TmsAt w0.heap.size w0 A t.args → OwnS 9 w0.heap.size w v xs → xs.length + 9 * t.nodes ≤ 100000 →
  Calls Tryz.prog 59 #[rwV o TA TN TC, v, tmV t A cap, .int .i64 max, .bool opd] w fun e w' => ∃ v', e = .returned v' ∧ OwnS 9 w0.heap.size w' v' (xs ++ pcs o T t max opd) ∧ w.grownBy w' v.ownBlock ∧ AtB w v v'
/-- 'term' gives a term's pieces. -/
def TOK (t : Tm) : Prop := ∀ (max : Int) (opd : Bool), 0 ≤ max → ∀ (A : Option Addr) (cap : Nat) (w : World), Below w0.heap.size w0 w → TmsAt w0.heap.size w0 A t.args →
  Calls Tryz.prog 33 #[rwV o TA TN TC, tmV t A cap, .int .i64 max, .bool opd] w fun e w' => ∃ v', e = .returned v' ∧ Below w.heap.size w w' ∧ OwnS 9 w.heap.size w' v' (pcs o T t max opd)
end
set_option maxHeartbeats 1600000 in
theorem r_term {o : WO} {T : List OpR} {TA : Option Addr} {TN TC : Nat} {w0 : World} {t : Tm} (hn : t.nodes ≤ 5000) (hI : IOK o T TA TN TC w0 t) : TOK o T TA TN TC w0 t := by
  intro max opd hmx A cap w hB hT
  have HX := Lib.hid (Rf2.start w o TA TN TC t A cap t.args.length 70 24 rfl)
  have HBX := HX.out.bel
  have hsz := HBX.size
  have hbx := hB.trans (HBX.mono hB.size)
  have HP := Lib.hid ((hI max opd hmx A cap _ (.slice none 0 0) [] hbx hT (OwnS.nil _ _ _) (by simp; omega)).mono (R' := fun e w' => ∃ v', e = .returned v' ∧ Below _ _ w' ∧ OwnS 9 w.heap.size w' v' (pcs o T t max opd)) fun _ _ ⟨v', he, hO, hg, hat⟩ => ⟨v', he, HBX.trans ((grown_none hg).mono hsz), by
    rw [List.nil_append] at hO
    refine hO.raise ?_
    rcases hat with h | ⟨k, h, hk⟩
    · exact .inl h
    · exact .inr ⟨k, h, Nat.le_trans hsz hk⟩⟩)
  clear hB hT hI HX hmx
  unfold tmV rwV at *
  generalize t.kind = a0 at *
  generalize t.num = a1 at *
  generalize t.name = a2 at *
  generalize t.args.length = a3 at *
  go_enter Tryz.func33, Tryz.ntmps33
  go_wp2_with fail
  refine HP.out.mono ?_; rintro e w1 ⟨v1, rfl, hB1, hO1⟩
  go_wp2_with fail
  go_ret
  exact ⟨v1, rfl, hB1, hO1⟩
end Go.Proofs.YtgapnafkelokaaaGreatDoor
namespace Hb
open Go Go.RowKit
theorem BoxG.at {w w' : World} {o : OpR} {e : TypeId} {g : Nat} (hg : w.heap.size = g) (hw : w' = w.alloc (.cells #[.string o.name, .int .i64 o.typ, .int .i64 o.prec] e)) : BoxG w' g o := by
  subst hg hw; exact BoxG.start w o e
/-- The boxes of left and right. -/
structure Rl3 (w0 w : World) (o : WO) (TA : Option Addr) (TN TC : Nat) (p : OpR) (t : Tm) (A : Option Addr) (cap : Nat) : Prop where
  bel : Below w0.heap.size w0 w
  wb : RwBox w w0.heap.size o TA TN TC
  ob : BoxG w (w0.heap.size + 1) p
  tb : TBx w (w0.heap.size + 1 + 1) t A cap
theorem Rl3.call {w0 w w' : World} {o : WO} {TA : Option Addr} {TN TC : Nat} {p : OpR} {t : Tm} {A : Option Addr} {cap : Nat} (h : Rl3 w0 w o TA TN TC p t A cap) (hB : Below w.heap.size w w') : Rl3 w0 w' o TA TN TC p t A cap :=
  ⟨h.bel.trans (hB.mono h.bel.size), h.wb.call hB, h.ob.call hB, h.tb.call hB⟩
theorem Rl3.start (w : World) (o : WO) (TA : Option Addr) (TN TC : Nat) (p : OpR) (t : Tm) (A : Option Addr) (cap LN : Nat) (e1 e2 e3 : TypeId) (hL : LN = t.args.length) :
    Rl3 w (((w.alloc (.cells #[.slice TA TN TC, .bool o.q, .bool o.ig, .bool o.nu] e1)).alloc (.cells #[.string p.name, .int .i64 p.typ, .int .i64 p.prec] e2)).alloc (.cells #[.int .i64 t.kind, .int .i64 t.num, .string t.name, .slice A LN cap] e3)) o TA TN TC p t A cap := by
  have h1 := RwBox.start w o TA TN TC e1
  have hs1 : (w.alloc (.cells #[.slice TA TN TC, .bool o.q, .bool o.ig, .bool o.nu] e1)).heap.size = w.heap.size + 1 := by simp
  have h2 := BoxG.start (w.alloc (.cells #[.slice TA TN TC, .bool o.q, .bool o.ig, .bool o.nu] e1)) p e2
  rw [hs1] at h2
  have h3 := TBx.start ((w.alloc (.cells #[.slice TA TN TC, .bool o.q, .bool o.ig, .bool o.nu] e1)).alloc (.cells #[.string p.name, .int .i64 p.typ, .int .i64 p.prec] e2)) t A cap LN e3 hL
  rw [show ((w.alloc (.cells #[.slice TA TN TC, .bool o.q, .bool o.ig, .bool o.nu] e1)).alloc (.cells #[.string p.name, .int .i64 p.typ, .int .i64 p.prec] e2)).heap.size = w.heap.size + 1 + 1 by simp] at h3
  have k2 := (Below.refl _ (w.alloc (.cells #[.slice TA TN TC, .bool o.q, .bool o.ig, .bool o.nu] e1))).alloc (Nat.le_refl _) (.cells #[.string p.name, .int .i64 p.typ, .int .i64 p.prec] e2)
  have k3 := (Below.refl _ ((w.alloc (.cells #[.slice TA TN TC, .bool o.q, .bool o.ig, .bool o.nu] e1)).alloc (.cells #[.string p.name, .int .i64 p.typ, .int .i64 p.prec] e2))).alloc (Nat.le_refl _) (.cells #[.int .i64 t.kind, .int .i64 t.num, .string t.name, .slice A LN cap] e3)
  exact ⟨(((Below.refl _ _).alloc (Nat.le_refl _) _).alloc (by simp) _).alloc (by simp; omega) _, (h1.call k2).call k3, h2.call k3, h3⟩
/-- The test of 'left'. -/
def lcond (op p : OpR) : Bool := ((op.typ == 3 || op.typ == 7) && (p.typ == 2 || p.typ == 4)) && p.prec == op.prec
theorem left_refL {o : WO} {T : List OpR} {t : Tm} (hk : K4 t) (op : OpR) (hp : 1 ≤ op.prec ∧ op.prec ≤ 1200) : leftW o T (str o T) t op = brk (pcs o T t (sideL op) true) (lcond op (operW o T t).1) := by
  have h := left_ref (o := o) (T := T) hk op
  rw [h]
  cases hc : lcond op (operW o T t).1
  · rw [if_neg (by unfold lcond at hc; rw [hc]; decide)]; rfl
  · rw [if_pos (by unfold lcond at hc; exact hc)]
    unfold lcond at hc
    have h3 : t.kind = 3 := by
      by_cases h3 : t.kind = 3
      · exact h3
      · rw [oper_low h3] at hc; simp [op0] at hc
    have e : (operW o T t).1 = (str o T t).2 := by rw [str_eq o T hk]; exact oper_str h3
    rw [e] at hc
    simp at hc
    rw [left_in h3 op hp hc.1.1 hc.2]
end Hb
namespace Go.Proofs.YtgapnafkelokaaaGreatDoor
open Go.RowKit Hb
set_option maxRecDepth 100000
set_option maxHeartbeats 6400000 in
theorem r_left {o : WO} {T : List OpR} {TA : Option Addr} {TN TC : Nat} {w0 : World} {t : Tm} (few : TN ≤ 400) (hTab : Tab w0 TA TN TC T) (hok : Tm.All Okf t) (hn : t.nodes ≤ 5000) (hI : TOK o T TA TN TC w0 t) (op : OpR) (hop : 1 ≤ op.prec ∧ op.prec ≤ 1200) (A : Option Addr) (cap : Nat) (w : World) (hB : Below w0.heap.size w0 w) (hT : TmsAt w0.heap.size w0 A t.args) :
    Calls Tryz.prog 138 #[rwV o TA TN TC, opV op, tmV t A cap] w fun e w' => ∃ v', e = .returned v' ∧ Below w.heap.size w w' ∧ OwnS 9 w.heap.size w' v' (leftW o T (str o T) t op) := by
  rw [left_refL (Okf.k4 hok) op hop]
  obtain ⟨LN, HL⟩ : ∃ LN, Hid (LN = t.args.length) := ⟨_, Lib.hid rfl⟩
  have HX := Lib.hid (Rl3.start w o TA TN TC op t A cap LN 70 80 24 HL.out)
  have HBX := HX.out.bel
  have hbx := hB.trans (HBX.mono hB.size)
  have HSD := Lib.hid (fun W => ref_sides op W (by omega))
  have HB0 := Lib.hid (fun W (h : Below w.heap.size w W) => hB.trans (h.mono hB.size))
  have HTR := Lib.hid (fun W (h : Below w.heap.size w W) => hI (sideL op) true (sideL_nn op) A cap W (HB0.out W h) hT)
  have HOPR := Lib.hid (fun W (h : Below w.heap.size w W) => r_operator o T TA TN TC t (List.all_eq_true.2 fun x hx => (hok.sub x hx).here.2) A cap W few (hTab.below (HB0.out W h)) ((hT.keep (HB0.out W h)).mono (HB0.out W h).size))
  have HPL := Lib.hid (pcs_len o T (Okf.k4 hok) (sideL op) true)
  have hpl : (pcs o T t (sideL op) true).length ≤ 50000 := by have := HPL.out; omega
  have HIN := Lib.hid (fun (v : Value) (W W1 : World) (h : OwnS 9 W.heap.size W1 v (pcs o T t (sideL op) true)) => r_inO W1 h (by omega))
  clear hB hT hI hok few hTab HPL HB0
  unfold tmV rwV opV at *
  rw [← HL.out] at HTR HOPR ⊢
  generalize pcs o T t = ps at *
  generalize (operW o T t).1 = p at *
  generalize (operW o T t).2 = cl at *
  generalize sideL op = sl at *
  generalize sideR op = sr at *
  go_enter Tryz.func138, Tryz.ntmps138
  go_wp2_with fail
  refine (HSD.out _).mono ?_; rintro e w1 ⟨rfl, hB1⟩
  have hX1 := Lib.hid (HX.out.call hB1)
  have hb1 := hX1.out.bel
  have x0 := hX1.out.wb.c0
  have x1 := hX1.out.wb.c1
  have x2 := hX1.out.wb.c2
  have x3 := hX1.out.wb.c3
  have y0 := hX1.out.tb.c0
  have y1 := hX1.out.tb.c1
  have y2 := hX1.out.tb.c2
  have y3 := hX1.out.tb.c3
  rw [← HL.out] at y3
  clear HX
  go_wp2_with fail
  refine (HTR.out _ hb1).mono ?_; rintro e w2 ⟨v2, rfl, hB2, hO2⟩
  have HO2 := Lib.hid hO2
  have hX2 := Lib.hid (hX1.out.call hB2)
  have hb2 := hX2.out.bel
  clear x0 x1 x2 x3 y0 y1 y2 y3 hO2
  have x0 := hX2.out.wb.c0
  have x1 := hX2.out.wb.c1
  have x2 := hX2.out.wb.c2
  have x3 := hX2.out.wb.c3
  have y0 := hX2.out.tb.c0
  have y1 := hX2.out.tb.c1
  have y2 := hX2.out.tb.c2
  have y3 := hX2.out.tb.c3
  rw [← HL.out] at y3
  go_wp2_with fail
  refine (HOPR.out _ hb2).mono ?_; rintro e w3 ⟨rfl, hB3⟩
  have hX3 := Lib.hid ((hX2.out.call hB3).call ((Below.refl _ _).alloc (Nat.le_refl _) (.cells #[.string p.name, .int .i64 p.typ, .int .i64 p.prec] 80)))
  have HO3 := Lib.hid ((HO2.out.below hB3).below ((Below.refl _ _).alloc (Nat.le_refl _) (.cells #[.string p.name, .int .i64 p.typ, .int .i64 p.prec] 80)))
  have hb3 := hX3.out.bel
  clear x0 x1 x2 x3 y0 y1 y2 y3 hX1 hX2 HOPR HTR HSD HO2
  have z1 := hX3.out.ob.c1
  have z2 := hX3.out.ob.c2
  clear hX3
  have HC : Hid (lcond op p = (((op.typ == 3 || op.typ == 7) && (p.typ == 2 || p.typ == 4)) && p.prec == op.prec)) := Lib.hid rfl
  have hsz1 := hb1.size
  generalize op.typ = q1 at *
  generalize op.prec = q2 at *
  generalize p.typ = q3 at *
  generalize p.prec = q4 at *
  have d1 : q1 = 3 ∨ q1 = 7 ∨ (¬ q1 = 3 ∧ ¬ q1 = 7) := by omega
  have d2 : q3 = 2 ∨ q3 = 4 ∨ (¬ q3 = 2 ∧ ¬ q3 = 4) := by omega
  have d3 : q4 = q2 ∨ ¬ q4 = q2 := by omega
  rcases d1 with rfl | rfl | ⟨d1, d1'⟩ <;> rcases d2 with rfl | rfl | ⟨d2, d2'⟩ <;> rcases d3 with rfl | d3
  all_goals
    go_wp2_with fail
    first
      | (have hy : lcond op p = true := by rw [HC.out]; simp
         have HY := Lib.hid hy
         clear hy
         refine (HIN.out v2 _ _ HO3.out).mono ?_; rintro e w4 ⟨v4, rfl, hB4, hO4⟩
         have hb4 := hb3.trans (hB4.mono hb3.size)
         have HO4 := Lib.hid (hO4.mono hb3.size)
         go_wp2_with fail
         go_ret
         rw [HY.out]
         exact ⟨v4, rfl, hb4, HO4.out⟩)
      | (have hno : lcond op p = false := by rw [HC.out]; simp [*]
         go_ret
         rw [hno]
         exact ⟨v2, rfl, hb3, HO3.out.mono hsz1⟩)
end Go.Proofs.YtgapnafkelokaaaGreatDoor
