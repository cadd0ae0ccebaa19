/- Flags: the arguments of op/3 with a variable. Flags: op/3 with a variable. -/
import Derived.Test.YtfkhcpeahdkafaaGreatH22
import Derived.Test.YtfkhcpeahdkafaaGreatH09
import Derived.Test.YtfkhcpeahdkafaaGreatH10
namespace Hb
open Go Go.RowKit
def instT : Tm := ballT ⟨#[105, 110, 115, 116, 97, 110, 116, 105, 97, 116, 105, 111, 110, 95, 101, 114, 114, 111, 114]⟩ []
end Hb
namespace Go.Proofs.YtfkhcpeahdkafaaGreat
open Go.RowKit Hb
attribute [local go_sem] Oper.semAt_some
set_option maxRecDepth 100000
set_option maxHeartbeats 3200000 in
theorem f_checkOps_v (p t n : Tm) (PA TA NA : Option Addr) (pc tc nc : Nat) (w : World) (hv : validT n = true) (hP : TmsAt w.heap.size w PA p.args) (hT : TmsAt w.heap.size w TA t.args) (hN : TmsAt w.heap.size w NA n.args) (huv : anyVar [p, t, tailT n] = true) :
    Calls Tryz.prog 145 #[tmV p PA pc, tmV t TA tc, tmV n NA nc] w fun e w' => ∃ A c, e = .returned (.tuple #[.agg #[.int .i64 instT.kind, .int .i64 instT.num, .string instT.name, .slice A instT.args.length c], .bool false]) ∧ Below w.heap.size w w' ∧ NewT w w' A instT.args := by
  have HUV := Lib.hid huv
  have HVN := Lib.hid hv
  have HPA := Lib.hid hP
  have HTA := Lib.hid hT
  have HNA := Lib.hid hN
  clear huv hv hP hT hN
  obtain ⟨pk, pn, ps, pl⟩ := p
  have HBL : Hid (Below w.heap.size w (((((w.alloc (.cells #[.int .i64 pk, .int .i64 pn, .string ps, .slice PA pl.length pc] 26)).alloc (.cells #[.int .i64 t.kind, .int .i64 t.num, .string t.name, .slice TA t.args.length tc] 26)).alloc (.cells #[.int .i64 n.kind, .int .i64 n.num, .string n.name, .slice NA n.args.length nc] 26)).alloc (.cells #[.int .i64 0, .int .i64 0, .string ⟨#[]⟩, .slice none 0 0] 26)).alloc (.cells #[.bool false] 4))) := Lib.hid (((((Below.refl _ w).alloc (Nat.le_refl _) _).alloc (by simp) _).alloc (by simp; omega) _).alloc (by simp; omega) _ |>.alloc (by simp; omega) _)
  have HBK : Hid (Bks (((((w.alloc (.cells #[.int .i64 pk, .int .i64 pn, .string ps, .slice PA pl.length pc] 26)).alloc (.cells #[.int .i64 t.kind, .int .i64 t.num, .string t.name, .slice TA t.args.length tc] 26)).alloc (.cells #[.int .i64 n.kind, .int .i64 n.num, .string n.name, .slice NA n.args.length nc] 26)).alloc (.cells #[.int .i64 0, .int .i64 0, .string ⟨#[]⟩, .slice none 0 0] 26)).alloc (.cells #[.bool false] 4)) (ckB w.heap.size [.int .i64 pk, .int .i64 pn, .string ps, .slice PA pl.length pc] [.int .i64 t.kind, .int .i64 t.num, .string t.name, .slice TA t.args.length tc] [.int .i64 n.kind, .int .i64 n.num, .string n.name, .slice NA n.args.length nc])) := Lib.hid ((((((Bks.nil w).new [.int .i64 pk, .int .i64 pn, .string ps, .slice PA pl.length pc] 26 rfl).new [.int .i64 t.kind, .int .i64 t.num, .string t.name, .slice TA t.args.length tc] 26 (by simp)).new [.int .i64 n.kind, .int .i64 n.num, .string n.name, .slice NA n.args.length nc] 26 (by simp)).new [.int .i64 0, .int .i64 0, .string ⟨#[]⟩, .slice none 0 0] 26 (by simp)).new [.bool false] 4 (by simp))
  have HEL : Hid (∀ (W : World), Below w.heap.size w W → Calls Tryz.prog 184 #[.agg #[.int .i64 n.kind, .int .i64 n.num, .string n.name, .slice NA n.args.length nc]] W fun e w' => ∃ A1 c1 A2 c2, e = .returned (.tuple #[.slice A1 (elemsT n).length c1, tmV (tailT n) A2 c2]) ∧ Below W.heap.size W w' ∧ NewT W w' A1 (elemsT n) ∧ NewT W w' A2 (tailT n).args) := Lib.hid fun W hW => t_elems n NA nc W ((HNA.out.keep hW).mono hW.size) HVN.out
  obtain ⟨ib, HIB⟩ : ∃ ib, Hid (ib = instT) := ⟨_, Lib.hid rfl⟩
  have HINS : Hid (∀ W, Calls Tryz.prog 160 #[] W fun e w' => ∃ A' c', e = .returned (tmV ib A' c') ∧ Below W.heap.size W w' ∧ NewT W w' A' ib.args) := Lib.hid fun W => by rw [HIB.out]; exact b_inst W
  rw [← HIB.out]
  refine (callsIn_wide (n := 8)).1 ?_
  refine callsIn_of_wp_marks Tryz.func145 rfl trivial ?_ rfl
  rw [show tmV (.mk pk pn ps pl) PA pc = .agg #[.int .i64 pk, .int .i64 pn, .string ps, .slice PA pl.length pc] from rfl]
  unfold tmV
  simp only [Tryz.ntmps145, List.size_toArray, List.length_cons, List.length_nil, Nat.reduceAdd, Nat.reduceSub, Array.replicate_succ, Array.replicate_zero, List.push_toArray, List.append_toArray, List.nil_append, List.cons_append]
  gi_wp2
  refine ⟨trivial, (callsIn_wide.2 (HEL.out _ HBL.out)).mono ?_⟩
  rintro e w1 ⟨A1, k1, EA, ec, rfl, hB1, hN1, hN2⟩
  have HBL1 := Lib.hid (HBL.out.trans (hB1.mono HBL.out.size))
  have HBK1 := Lib.hid (HBK.out.call hB1)
  have HR1 := Lib.hid hN1
  have HR2 := Lib.hid hN2
  clear HEL HBK HBL hN1 hN2
  have bp_0 : w1.cell? ⟨w.heap.size, 0, none⟩ = some (.int .i64 pk) := HBK1.out.cell 4 0 rfl rfl
  have bp_1 : w1.cell? ⟨w.heap.size, 1, none⟩ = some (.int .i64 pn) := HBK1.out.cell 4 1 rfl rfl
  have bp_2 : w1.cell? ⟨w.heap.size, 2, none⟩ = some (.string ps) := HBK1.out.cell 4 2 rfl rfl
  have bp_3 : w1.cell? ⟨w.heap.size, 3, none⟩ = some (.slice PA pl.length pc) := HBK1.out.cell 4 3 rfl rfl
  have bt_0 : w1.cell? ⟨w.heap.size + 1, 0, none⟩ = some (.int .i64 t.kind) := HBK1.out.cell 3 0 rfl rfl
  have bt_1 : w1.cell? ⟨w.heap.size + 1, 1, none⟩ = some (.int .i64 t.num) := HBK1.out.cell 3 1 rfl rfl
  have bt_2 : w1.cell? ⟨w.heap.size + 1, 2, none⟩ = some (.string t.name) := HBK1.out.cell 3 2 rfl rfl
  have bt_3 : w1.cell? ⟨w.heap.size + 1, 3, none⟩ = some (.slice TA t.args.length tc) := HBK1.out.cell 3 3 rfl rfl
  have bn_0 : w1.cell? ⟨w.heap.size + 1 + 1, 0, none⟩ = some (.int .i64 n.kind) := HBK1.out.cell 2 0 rfl rfl
  have bn_1 : w1.cell? ⟨w.heap.size + 1 + 1, 1, none⟩ = some (.int .i64 n.num) := HBK1.out.cell 2 1 rfl rfl
  have bn_2 : w1.cell? ⟨w.heap.size + 1 + 1, 2, none⟩ = some (.string n.name) := HBK1.out.cell 2 2 rfl rfl
  have bn_3 : w1.cell? ⟨w.heap.size + 1 + 1, 3, none⟩ = some (.slice NA n.args.length nc) := HBK1.out.cell 2 3 rfl rfl
  have lp := HBK1.out.lt 4 rfl
  have lt := HBK1.out.lt 3 rfl
  have ln := HBK1.out.lt 2 rfl
  obtain ⟨ta, HTE⟩ : ∃ ta, Hid (ta = tailT n) := ⟨_, Lib.hid rfl⟩
  rw [← HTE.out] at HR2 ⊢
  obtain ⟨NL, HNL⟩ : ∃ NL, Hid (NL = (elemsT n).length) := ⟨_, Lib.hid rfl⟩
  rw [← HNL.out]
  unfold tmV
  have HIN := Lib.hid (f_isNil ta EA ec (w1.alloc (.cells #[.int .i64 ta.kind, .int .i64 ta.num, .string ta.name, .slice EA ta.args.length ec] 26)))
  obtain ⟨nl, HNLT⟩ : ∃ nl, Hid (nl = isNilT ta) := ⟨_, Lib.hid rfl⟩
  rw [← HNLT.out] at HIN
  gi_wp2
  refine ⟨trivial, (callsIn_wide.2 HIN.out).mono ?_⟩
  rintro e w2 ⟨rfl, hB2⟩
  have hB12 : Below w1.heap.size w1 w2 := ((Below.refl w1.heap.size w1).alloc (Nat.le_refl _) _).trans (hB2.mono (by simp))
  have HBL2 := Lib.hid (HBL1.out.trans (hB12.mono HBL1.out.size))
  have HBK2 := Lib.hid ((HBK1.out.new [.int .i64 ta.kind, .int .i64 ta.num, .string ta.name, .slice EA ta.args.length ec] 26 rfl).call hB2)
  have HR1b := Lib.hid (HR1.out.keep (fun b hb => hB12.block b hb.2) (fun b hb => Nat.lt_of_lt_of_le hb.2 hB12.size))
  have HR2b := Lib.hid (HR2.out.keep (fun b hb => hB12.block b hb.2) (fun b hb => Nat.lt_of_lt_of_le hb.2 hB12.size))
  have hsz2 := hB2.size
  rw [World.size_alloc] at hsz2
  have cp_0 : w2.cell? ⟨w.heap.size, 0, none⟩ = some (.int .i64 pk) := HBK2.out.cell 5 0 rfl rfl
  have cp_1 : w2.cell? ⟨w.heap.size, 1, none⟩ = some (.int .i64 pn) := HBK2.out.cell 5 1 rfl rfl
  have cp_2 : w2.cell? ⟨w.heap.size, 2, none⟩ = some (.string ps) := HBK2.out.cell 5 2 rfl rfl
  have cp_3 : w2.cell? ⟨w.heap.size, 3, none⟩ = some (.slice PA pl.length pc) := HBK2.out.cell 5 3 rfl rfl
  have ct_0 : w2.cell? ⟨w.heap.size + 1, 0, none⟩ = some (.int .i64 t.kind) := HBK2.out.cell 4 0 rfl rfl
  have ct_1 : w2.cell? ⟨w.heap.size + 1, 1, none⟩ = some (.int .i64 t.num) := HBK2.out.cell 4 1 rfl rfl
  have ct_2 : w2.cell? ⟨w.heap.size + 1, 2, none⟩ = some (.string t.name) := HBK2.out.cell 4 2 rfl rfl
  have ct_3 : w2.cell? ⟨w.heap.size + 1, 3, none⟩ = some (.slice TA t.args.length tc) := HBK2.out.cell 4 3 rfl rfl
  have cn_0 : w2.cell? ⟨w.heap.size + 1 + 1, 0, none⟩ = some (.int .i64 n.kind) := HBK2.out.cell 3 0 rfl rfl
  have cn_1 : w2.cell? ⟨w.heap.size + 1 + 1, 1, none⟩ = some (.int .i64 n.num) := HBK2.out.cell 3 1 rfl rfl
  have cn_2 : w2.cell? ⟨w.heap.size + 1 + 1, 2, none⟩ = some (.string n.name) := HBK2.out.cell 3 2 rfl rfl
  have cn_3 : w2.cell? ⟨w.heap.size + 1 + 1, 3, none⟩ = some (.slice NA n.args.length nc) := HBK2.out.cell 3 3 rfl rfl
  have cx_0 : w2.cell? ⟨w1.heap.size, 0, none⟩ = some (.int .i64 ta.kind) := HBK2.out.cell 0 0 rfl rfl
  have cx_1 : w2.cell? ⟨w1.heap.size, 1, none⟩ = some (.int .i64 ta.num) := HBK2.out.cell 0 1 rfl rfl
  have cx_2 : w2.cell? ⟨w1.heap.size, 2, none⟩ = some (.string ta.name) := HBK2.out.cell 0 2 rfl rfl
  have cx_3 : w2.cell? ⟨w1.heap.size, 3, none⟩ = some (.slice EA ta.args.length ec) := HBK2.out.cell 0 3 rfl rfl
  have HUB : Hid (Calls Tryz.prog 152 #[.slice (some ⟨w2.heap.size, 0, none⟩) 3 3] (w2.alloc (.cells #[.int .i64 pk, .int .i64 pn, .string ps, .slice PA pl.length pc, .int .i64 t.kind, .int .i64 t.num, .string t.name, .slice TA t.args.length tc, .int .i64 ta.kind, .int .i64 ta.num, .string ta.name, .slice EA ta.args.length ec] 26)) fun e w' => e = .returned (.bool true) ∧ Below (w2.alloc (.cells #[.int .i64 pk, .int .i64 pn, .string ps, .slice PA pl.length pc, .int .i64 t.kind, .int .i64 t.num, .string t.name, .slice TA t.args.length tc, .int .i64 ta.kind, .int .i64 ta.num, .string ta.name, .slice EA ta.args.length ec] 26)).heap.size (w2.alloc (.cells #[.int .i64 pk, .int .i64 pn, .string ps, .slice PA pl.length pc, .int .i64 t.kind, .int .i64 t.num, .string t.name, .slice TA t.args.length tc, .int .i64 ta.kind, .int .i64 ta.num, .string ta.name, .slice EA ta.args.length ec] 26)) w') := Lib.hid (by
    have hr := TmsK.rows (K := fun b => b < w2.heap.size + 1) (w := w2) (rs := [(.mk pk pn ps pl, PA, pc), (t, TA, tc), (ta, EA, ec)]) (e := 26) (by omega) (by simp [maxLen]) (fun x hx => by
      have hal := Below.alloc (Below.refl w2.heap.size w2) (Nat.le_refl _) (.cells (rowsC [(Tm.mk pk pn ps pl, PA, pc), (t, TA, tc), (ta, EA, ec)]).toArray 26)
      simp only [List.mem_cons, List.mem_nil_iff, or_false] at hx
      rcases hx with rfl | rfl | rfl
      · exact ((HPA.out.keep HBL2.out).mono HBL2.out.size |>.keep hal).mono (by omega)
      · exact ((HTA.out.keep HBL2.out).mono HBL2.out.size |>.keep hal).mono (by omega)
      · exact (TmsAt.keep (B := w2.heap.size) HR2b.out hal).mono (by omega))
    have := f_unbound _ _ 3 _ (TmsK.at' hr)
    have hv := HUV.out
    rw [← HTE.out] at hv
    rw [show ([(Tm.mk pk pn ps pl, PA, pc), (t, TA, tc), (ta, EA, ec)] : List TR).map (fun x : TR => x.1) = [Tm.mk pk pn ps pl, t, ta] from rfl, hv] at this
    exact this)
  clear hB2 hB12
  gi_wp2
  refine ⟨trivial, (callsIn_wide.2 HUB.out).mono ?_⟩
  rintro e w3 ⟨rfl, hB3⟩
  have hB23 : Below w2.heap.size w2 w3 := ((Below.refl w2.heap.size w2).alloc (Nat.le_refl _) _).trans (hB3.mono (by simp))
  have HBL3 := Lib.hid (HBL2.out.trans (hB23.mono HBL2.out.size))
  have HBK3 := Lib.hid (HBK2.out.call hB23)
  have HR3 := Lib.hid (HR1b.out.keep (fun b hb => hB23.block b hb) (fun b hb => Nat.lt_of_lt_of_le hb hB23.size))
  clear hB3 hB23 HUB HBK2 HBL2 HBK1 HBL1 HR1 HR2 HR1b HR2b cp_0 cp_1 cp_2 cp_3 ct_0 ct_1 ct_2 ct_3 cn_0 cn_1 cn_2 cn_3 cx_0 cx_1 cx_2 cx_3 bp_0 bp_1 bp_2 bp_3 bt_0 bt_1 bt_2 bt_3 bn_0 bn_1 bn_2 bn_3
  have dp_0 : w3.cell? ⟨w.heap.size, 0, none⟩ = some (.int .i64 pk) := HBK3.out.cell 5 0 rfl rfl
  have dp_1 : w3.cell? ⟨w.heap.size, 1, none⟩ = some (.int .i64 pn) := HBK3.out.cell 5 1 rfl rfl
  have dp_2 : w3.cell? ⟨w.heap.size, 2, none⟩ = some (.string ps) := HBK3.out.cell 5 2 rfl rfl
  have dp_3 : w3.cell? ⟨w.heap.size, 3, none⟩ = some (.slice PA pl.length pc) := HBK3.out.cell 5 3 rfl rfl
  have dt_0 : w3.cell? ⟨w.heap.size + 1, 0, none⟩ = some (.int .i64 t.kind) := HBK3.out.cell 4 0 rfl rfl
  have dt_1 : w3.cell? ⟨w.heap.size + 1, 1, none⟩ = some (.int .i64 t.num) := HBK3.out.cell 4 1 rfl rfl
  have dt_2 : w3.cell? ⟨w.heap.size + 1, 2, none⟩ = some (.string t.name) := HBK3.out.cell 4 2 rfl rfl
  have dt_3 : w3.cell? ⟨w.heap.size + 1, 3, none⟩ = some (.slice TA t.args.length tc) := HBK3.out.cell 4 3 rfl rfl
  have dn_0 : w3.cell? ⟨w.heap.size + 1 + 1, 0, none⟩ = some (.int .i64 n.kind) := HBK3.out.cell 3 0 rfl rfl
  have dn_1 : w3.cell? ⟨w.heap.size + 1 + 1, 1, none⟩ = some (.int .i64 n.num) := HBK3.out.cell 3 1 rfl rfl
  have dn_2 : w3.cell? ⟨w.heap.size + 1 + 1, 2, none⟩ = some (.string n.name) := HBK3.out.cell 3 2 rfl rfl
  have dn_3 : w3.cell? ⟨w.heap.size + 1 + 1, 3, none⟩ = some (.slice NA n.args.length nc) := HBK3.out.cell 3 3 rfl rfl
  gi_wp2
  refine ⟨trivial, (callsIn_wide.2 (HINS.out _)).mono ?_⟩
  rintro e w4 ⟨IA, ic, rfl, hB4, hN4⟩
  have HBL4 := Lib.hid (HBL3.out.trans (hB4.mono HBL3.out.size))
  have HBK4 := Lib.hid (HBK3.out.call hB4)
  have HN4 := Lib.hid hN4
  have HL3 : Hid (w.heap.size + 1 + 1 + 1 + 1 < w3.heap.size) := Lib.hid (HBK3.out.lt 1 rfl)
  clear hB4 hN4 HBL3 HBK3 HINS HIB dp_0 dp_1 dp_2 dp_3 dt_0 dt_1 dt_2 dt_3 dn_0 dn_1 dn_2 dn_3
  unfold tmV
  have e3_0 : w4.cell? ⟨w.heap.size + 1 + 1 + 1, 0, none⟩ = some (.int .i64 0) := HBK4.out.cell 2 0 rfl rfl
  have e3_1 : w4.cell? ⟨w.heap.size + 1 + 1 + 1, 1, none⟩ = some (.int .i64 0) := HBK4.out.cell 2 1 rfl rfl
  have e3_2 : w4.cell? ⟨w.heap.size + 1 + 1 + 1, 2, none⟩ = some (.string ⟨#[]⟩) := HBK4.out.cell 2 2 rfl rfl
  have e3_3 : w4.cell? ⟨w.heap.size + 1 + 1 + 1, 3, none⟩ = some (.slice none 0 0) := HBK4.out.cell 2 3 rfl rfl
  have e4_0 : w4.cell? ⟨w.heap.size + 1 + 1 + 1 + 1, 0, none⟩ = some (.bool false) := HBK4.out.cell 1 0 rfl rfl
  have e3f0 : w4.frozen? ⟨w.heap.size + 1 + 1 + 1, 0, none⟩ = false := HBK4.out.fz 2 0 rfl
  have e3f1 : w4.frozen? ⟨w.heap.size + 1 + 1 + 1, 1, none⟩ = false := HBK4.out.fz 2 1 rfl
  have e3f2 : w4.frozen? ⟨w.heap.size + 1 + 1 + 1, 2, none⟩ = false := HBK4.out.fz 2 2 rfl
  have e3f3 : w4.frozen? ⟨w.heap.size + 1 + 1 + 1, 3, none⟩ = false := HBK4.out.fz 2 3 rfl
  have e4f0 : w4.frozen? ⟨w.heap.size + 1 + 1 + 1 + 1, 0, none⟩ = false := HBK4.out.fz 1 0 rfl
  have e3l : w.heap.size + 1 + 1 + 1 < w4.heap.size := HBK4.out.lt 2 rfl
  have e4l : w.heap.size + 1 + 1 + 1 + 1 < w4.heap.size := HBK4.out.lt 1 rfl
  have HBKZ : Hid (Bks ((((((w4.setCell ⟨w.heap.size + 1 + 1 + 1, 0, none⟩ (.int .i64 ib.kind)).setCell ⟨w.heap.size + 1 + 1 + 1, 1, none⟩ (.int .i64 ib.num)).setCell ⟨w.heap.size + 1 + 1 + 1, 2, none⟩ (.string ib.name)).setCell ⟨w.heap.size + 1 + 1 + 1, 3, none⟩ (.slice IA ib.args.length ic)).setCell ⟨w.heap.size + 1 + 1 + 1 + 1, 0, none⟩ (.bool false))) [(w1.heap.size, [.int .i64 ta.kind, .int .i64 ta.num, .string ta.name, .slice EA ta.args.length ec]), (w.heap.size + 1 + 1 + 1 + 1, [.bool false]), (w.heap.size + 1 + 1 + 1, [.int .i64 ib.kind, .int .i64 ib.num, .string ib.name, .slice IA ib.args.length ic]), (w.heap.size + 1 + 1, [.int .i64 n.kind, .int .i64 n.num, .string n.name, .slice NA n.args.length nc]), (w.heap.size + 1, [.int .i64 t.kind, .int .i64 t.num, .string t.name, .slice TA t.args.length tc]), (w.heap.size, [.int .i64 pk, .int .i64 pn, .string ps, .slice PA pl.length pc])]) := Lib.hid ((HBK4.out.set4 2 rfl (.int .i64 ib.kind) (.int .i64 ib.num) (.string ib.name) (.slice IA ib.args.length ic)).set 1 0 rfl (.bool false))
  have HBLZ : Hid (Below w.heap.size w ((((((w4.setCell ⟨w.heap.size + 1 + 1 + 1, 0, none⟩ (.int .i64 ib.kind)).setCell ⟨w.heap.size + 1 + 1 + 1, 1, none⟩ (.int .i64 ib.num)).setCell ⟨w.heap.size + 1 + 1 + 1, 2, none⟩ (.string ib.name)).setCell ⟨w.heap.size + 1 + 1 + 1, 3, none⟩ (.slice IA ib.args.length ic)).setCell ⟨w.heap.size + 1 + 1 + 1 + 1, 0, none⟩ (.bool false)))) := Lib.hid (((((HBL4.out.setCell (p := ⟨w.heap.size + 1 + 1 + 1, _, none⟩) (show w.heap.size ≤ w.heap.size + 1 + 1 + 1 by omega) _).setCell (p := ⟨w.heap.size + 1 + 1 + 1, _, none⟩) (show w.heap.size ≤ w.heap.size + 1 + 1 + 1 by omega) _).setCell (p := ⟨w.heap.size + 1 + 1 + 1, _, none⟩) (show w.heap.size ≤ w.heap.size + 1 + 1 + 1 by omega) _).setCell (p := ⟨w.heap.size + 1 + 1 + 1, _, none⟩) (show w.heap.size ≤ w.heap.size + 1 + 1 + 1 by omega) _).setCell (p := ⟨w.heap.size + 1 + 1 + 1 + 1, _, none⟩) (show w.heap.size ≤ w.heap.size + 1 + 1 + 1 + 1 by omega) _)
  have hkk : ∀ k, k ≠ w.heap.size + 1 + 1 + 1 → k ≠ w.heap.size + 1 + 1 + 1 + 1 → ((((((w4.setCell ⟨w.heap.size + 1 + 1 + 1, 0, none⟩ (.int .i64 ib.kind)).setCell ⟨w.heap.size + 1 + 1 + 1, 1, none⟩ (.int .i64 ib.num)).setCell ⟨w.heap.size + 1 + 1 + 1, 2, none⟩ (.string ib.name)).setCell ⟨w.heap.size + 1 + 1 + 1, 3, none⟩ (.slice IA ib.args.length ic)).setCell ⟨w.heap.size + 1 + 1 + 1 + 1, 0, none⟩ (.bool false))).heap[k]? = w4.heap[k]? := fun k h3 h4 => by
    rw [heap_setCell_other _ _ _ _ h4, heap_setCell_other _ _ _ _ h3, heap_setCell_other _ _ _ _ h3, heap_setCell_other _ _ _ _ h3, heap_setCell_other _ _ _ _ h3]
  have hNZ : NewT w ((((((w4.setCell ⟨w.heap.size + 1 + 1 + 1, 0, none⟩ (.int .i64 ib.kind)).setCell ⟨w.heap.size + 1 + 1 + 1, 1, none⟩ (.int .i64 ib.num)).setCell ⟨w.heap.size + 1 + 1 + 1, 2, none⟩ (.string ib.name)).setCell ⟨w.heap.size + 1 + 1 + 1, 3, none⟩ (.slice IA ib.args.length ic)).setCell ⟨w.heap.size + 1 + 1 + 1 + 1, 0, none⟩ (.bool false))) IA ib.args := HN4.out.keep (fun b hb => hkk b (by have := HL3.out; omega) (by have := HL3.out; omega)) (fun b hb => ⟨by have := HL3.out; omega, by simpa using hb.2⟩)
  obtain ⟨wz, HWZ⟩ : ∃ wz, Hid (wz = (((((w4.setCell ⟨w.heap.size + 1 + 1 + 1, 0, none⟩ (.int .i64 ib.kind)).setCell ⟨w.heap.size + 1 + 1 + 1, 1, none⟩ (.int .i64 ib.num)).setCell ⟨w.heap.size + 1 + 1 + 1, 2, none⟩ (.string ib.name)).setCell ⟨w.heap.size + 1 + 1 + 1, 3, none⟩ (.slice IA ib.args.length ic)).setCell ⟨w.heap.size + 1 + 1 + 1 + 1, 0, none⟩ (.bool false))) := ⟨_, Lib.hid rfl⟩
  rw [← HWZ.out] at HBKZ HBLZ hNZ
  have HNZ := Lib.hid hNZ
  clear hNZ hkk
  gi_wp2
  rw [← HWZ.out]
  have m3_0 : wz.cell? ⟨w.heap.size + 1 + 1 + 1, 0, none⟩ = some (.int .i64 ib.kind) := HBKZ.out.cell 2 0 rfl rfl
  have m3_1 : wz.cell? ⟨w.heap.size + 1 + 1 + 1, 1, none⟩ = some (.int .i64 ib.num) := HBKZ.out.cell 2 1 rfl rfl
  have m3_2 : wz.cell? ⟨w.heap.size + 1 + 1 + 1, 2, none⟩ = some (.string ib.name) := HBKZ.out.cell 2 2 rfl rfl
  have m3_3 : wz.cell? ⟨w.heap.size + 1 + 1 + 1, 3, none⟩ = some (.slice IA ib.args.length ic) := HBKZ.out.cell 2 3 rfl rfl
  have m4_0 : wz.cell? ⟨w.heap.size + 1 + 1 + 1 + 1, 0, none⟩ = some (.bool false) := HBKZ.out.cell 1 0 rfl rfl
  exact ⟨.tuple #[.agg #[.int .i64 ib.kind, .int .i64 ib.num, .string ib.name, .slice IA ib.args.length ic], .bool false], by simp [results, Tryz.results145, go_sem, m3_0, m3_1, m3_2, m3_3, m4_0], IA, ic, rfl, HBLZ.out, HNZ.out⟩
end Go.Proofs.YtfkhcpeahdkafaaGreat
namespace Go.Proofs.YtfkhcpeahdkafaaGreat
open Go.RowKit Hb Go.Shelf
attribute [local go_sem] Oper.semAt_some
set_option maxRecDepth 100000
set_option maxHeartbeats 3200000 in
theorem f_setOps_v (OA : Option Addr) (on oc : Nat) (q u : Int) (c d : Bool) (CA : Option Addr) (cn cc : Nat) (gk gn : Int) (gs : ByteArray) (AA : Option Addr) (ac : Nat) (p t n : Tm) (w : World)
    (hA : TmsAt w.heap.size w AA [p, t, n]) (hv : validT n = true) (huv : anyVar [p, t, tailT n] = true) :
    Calls Tryz.prog 113 #[.agg #[.slice OA on oc, .int .i64 q, .int .i64 u, .bool c, .bool d, .slice CA cn cc], .slice AA 3 ac, .agg #[.int .i64 gk, .int .i64 gn, .string gs, .slice AA 3 ac]] w fun e w' => ∃ A c, e = .returned (rvB instT.kind instT.num instT.name A instT.args.length c 8).val ∧ Below w.heap.size w w' ∧ NewT w w' A instT.args := by
  have HAA := Lib.hid hA
  have HVN := Lib.hid hv
  have HUV := Lib.hid huv
  obtain ⟨b, off, PA, pc, e1, hb, p0, p1, p2, p3, hPA⟩ := hA.get 0 (show 0 < 3 by omega)
  obtain ⟨_, _, TA, tc, e2, _, t0, t1, t2, t3, hTA⟩ := hA.get 1 (show 1 < 3 by omega)
  obtain ⟨_, _, NA, nc, e3, _, n0, n1, n2, n3, hNA⟩ := hA.get 2 (show 2 < 3 by omega)
  subst e1
  cases e2
  cases e3
  simp only [List.getElem_cons_zero, List.getElem_cons_succ, Nat.zero_mul, Nat.add_zero, Nat.one_mul, Nat.reduceMul] at p0 p1 p2 p3 t0 t1 t2 t3 n0 n1 n2 n3 hPA hTA hNA
  have HPA := Lib.hid hPA
  have HTA := Lib.hid hTA
  have HNA := Lib.hid hNA
  have HBL0 : Hid (Below w.heap.size w (((((((w.alloc (.cells #[.slice OA on oc, .int .i64 q, .int .i64 u, .bool c, .bool d, .slice CA cn cc] 43)).alloc (.cells #[.int .i64 gk, .int .i64 gn, .string gs, .slice (some ⟨b, off, none⟩) 3 ac] 26)).alloc (.cells #[.slice none 0 0, .int .i64 0, .int .i64 0, .bool false, .bool false, .slice none 0 0] 43)).alloc (.cells #[.slice none 0 0] 24)).alloc (.cells #[.int .i64 0, .int .i64 0, .string ⟨#[]⟩, .slice none 0 0] 26)).alloc (.cells #[.int .i64 0] 31)))) := Lib.hid (((((((Below.refl _ w).alloc (Nat.le_refl _) _).alloc (by simp) _).alloc (by simp; omega) _).alloc (by simp; omega) _).alloc (by simp; omega) _).alloc (by simp; omega) _)
  have HBK0 : Hid (Bks (((((((w.alloc (.cells #[.slice OA on oc, .int .i64 q, .int .i64 u, .bool c, .bool d, .slice CA cn cc] 43)).alloc (.cells #[.int .i64 gk, .int .i64 gn, .string gs, .slice (some ⟨b, off, none⟩) 3 ac] 26)).alloc (.cells #[.slice none 0 0, .int .i64 0, .int .i64 0, .bool false, .bool false, .slice none 0 0] 43)).alloc (.cells #[.slice none 0 0] 24)).alloc (.cells #[.int .i64 0, .int .i64 0, .string ⟨#[]⟩, .slice none 0 0] 26)).alloc (.cells #[.int .i64 0] 31))) [(w.heap.size + 1 + 1 + 1 + 1 + 1, [.int .i64 0]), (w.heap.size + 1 + 1 + 1 + 1, [.int .i64 0, .int .i64 0, .string ⟨#[]⟩, .slice none 0 0]), (w.heap.size + 1 + 1 + 1, [.slice none 0 0]), (w.heap.size + 1 + 1, [.slice none 0 0, .int .i64 0, .int .i64 0, .bool false, .bool false, .slice none 0 0]), (w.heap.size + 1, [.int .i64 gk, .int .i64 gn, .string gs, .slice (some ⟨b, off, none⟩) 3 ac]), (w.heap.size, [.slice OA on oc, .int .i64 q, .int .i64 u, .bool c, .bool d, .slice CA cn cc])]) := Lib.hid (((((((Bks.nil w).new [.slice OA on oc, .int .i64 q, .int .i64 u, .bool c, .bool d, .slice CA cn cc] 43 rfl).new [.int .i64 gk, .int .i64 gn, .string gs, .slice (some ⟨b, off, none⟩) 3 ac] 26 (by simp)).new [.slice none 0 0, .int .i64 0, .int .i64 0, .bool false, .bool false, .slice none 0 0] 43 (by simp)).new [.slice none 0 0] 24 (by simp)).new [.int .i64 0, .int .i64 0, .string ⟨#[]⟩, .slice none 0 0] 26 (by simp)).new [.int .i64 0] 31 (by simp))
  clear hA hv huv hPA hTA hNA
  obtain ⟨ib, HIB⟩ : ∃ ib, Hid (ib = instT) := ⟨_, Lib.hid rfl⟩
  rw [← HIB.out]
  have HCK : Hid (∀ X, Below w.heap.size w X → Calls Tryz.prog 145 #[tmV p PA pc, tmV t TA tc, tmV n NA nc] X fun e w' => ∃ A c, e = .returned (.tuple #[.agg #[.int .i64 ib.kind, .int .i64 ib.num, .string ib.name, .slice A ib.args.length c], .bool false]) ∧ Below X.heap.size X w' ∧ NewT X w' A ib.args) := Lib.hid fun X hX => by
    rw [HIB.out]
    exact f_checkOps_v p t n PA TA NA pc tc nc X HVN.out ((HPA.out.keep hX).mono hX.size) ((HTA.out.keep hX).mono hX.size) ((HNA.out.keep hX).mono hX.size) HUV.out
  unfold rvB RV.val
  dsimp only
  refine (callsIn_wide (n := 12)).1 ?_
  refine callsIn_of_wp_marks Tryz.func113 rfl trivial ?_ rfl
  simp only [Tryz.ntmps113, List.size_toArray, List.length_cons, List.length_nil, Nat.reduceAdd, Nat.reduceSub, Array.replicate_succ, Array.replicate_zero, List.push_toArray, List.append_toArray, List.nil_append, List.cons_append]
  gi_wp2
  obtain ⟨W0, HW0⟩ : ∃ W0, Hid (W0 = ((((((w.alloc (.cells #[.slice OA on oc, .int .i64 q, .int .i64 u, .bool c, .bool d, .slice CA cn cc] 43)).alloc (.cells #[.int .i64 gk, .int .i64 gn, .string gs, .slice (some ⟨b, off, none⟩) 3 ac] 26)).alloc (.cells #[.slice none 0 0, .int .i64 0, .int .i64 0, .bool false, .bool false, .slice none 0 0] 43)).alloc (.cells #[.slice none 0 0] 24)).alloc (.cells #[.int .i64 0, .int .i64 0, .string ⟨#[]⟩, .slice none 0 0] 26)).alloc (.cells #[.int .i64 0] 31))) := ⟨_, Lib.hid rfl⟩
  rw [← HW0.out] at HBL0 HBK0 ⊢
  have p0 := (HBL0.out.cell (p := ⟨b, _, none⟩) hb).trans p0
  have p1 := (HBL0.out.cell (p := ⟨b, _, none⟩) hb).trans p1
  have p2 := (HBL0.out.cell (p := ⟨b, _, none⟩) hb).trans p2
  have p3 := (HBL0.out.cell (p := ⟨b, _, none⟩) hb).trans p3
  have t0 := (HBL0.out.cell (p := ⟨b, _, none⟩) hb).trans t0
  have t1 := (HBL0.out.cell (p := ⟨b, _, none⟩) hb).trans t1
  have t2 := (HBL0.out.cell (p := ⟨b, _, none⟩) hb).trans t2
  have t3 := (HBL0.out.cell (p := ⟨b, _, none⟩) hb).trans t3
  have n0 := (HBL0.out.cell (p := ⟨b, _, none⟩) hb).trans n0
  have n1 := (HBL0.out.cell (p := ⟨b, _, none⟩) hb).trans n1
  have n2 := (HBL0.out.cell (p := ⟨b, _, none⟩) hb).trans n2
  have n3 := (HBL0.out.cell (p := ⟨b, _, none⟩) hb).trans n3
  have hb0 : b < W0.heap.size := Nat.lt_of_lt_of_le hb HBL0.out.size
  have lw0 : w.heap.size < W0.heap.size := HBK0.out.lt 5 rfl
  clear HW0
  rename_i K0 hK0
  refine wpIn_wide.2 (wp_region_any (by kernel_rfl) ?_)
  refine wpAny_inv (fun S a X => ∃ e0 e1 e2, SuI W0 (suT (.agg #[.slice OA on oc, .int .i64 q, .int .i64 u, .bool c, .bool d, .slice CA cn cc]) (.slice (some ⟨b, off, none⟩) 3 ac) (.agg #[.int .i64 gk, .int .i64 gn, .string gs, .slice (some ⟨b, off, none⟩) 3 ac]) (.agg #[.int .i64 p.kind, .int .i64 p.num, .string p.name, .slice PA p.args.length pc]) (.agg #[.int .i64 t.kind, .int .i64 t.num, .string t.name, .slice TA t.args.length tc]) (.agg #[.int .i64 n.kind, .int .i64 n.num, .string n.name, .slice NA n.args.length nc]) w.heap.size b off (off + 4) (off + 8)) [.int .i64 0, .int .i64 0, .string ⟨#[]⟩, .slice none 0 0] [.int .i64 p.kind, .int .i64 p.num, .string p.name, .slice PA p.args.length pc] [.int .i64 t.kind, .int .i64 t.num, .string t.name, .slice TA t.args.length tc] [.int .i64 n.kind, .int .i64 n.num, .string n.name, .slice NA n.args.length nc] S a X e0 e1 e2) (by kernel_rfl) ?step ?fin 15 (fun _ => false) _ _ (by decide) ⟨0, 0, 0, rfl, (Below.refl _ W0).drew, fun h => (by cases h), fun h => (by cases h), fun h => (by cases h), fun h => (by cases h), fun h => (by cases h), fun h => (by cases h), fun h => (by cases h), fun h => (by cases h), fun h => (by cases h)⟩
  case step =>
    rintro S j o a X ho hs hp ⟨e0, e1, e2, rfl, hB, h0, h1, h2, i0, i1, i2, n01, n02, n12⟩
    have hlt := (Array.getElem?_eq_some_iff.1 ho).1
    rcases (show j = 0 ∨ j = 1 ∨ j = 2 ∨ j = 3 ∨ j = 4 ∨ j = 5 ∨ j = 6 ∨ j = 7 ∨ j = 8 ∨ j = 9 ∨ j = 10 ∨ j = 11 ∨ j = 12 ∨ j = 13 ∨ j = 14 by
      have hlt : j < 15 := hlt
      omega) with rfl | rfl | rfl | rfl | rfl | rfl | rfl | rfl | rfl | rfl | rfl | rfl | rfl | rfl | rfl
    · injection ho with ho
      subst ho
      rw [if_pos (show Region.wanted _ _ = true from rfl)]
      refine wp_val (v := .slice (some ⟨b, off, none⟩) 3 ac) (w' := X) ?_ ⟨e0, e1, e2, rfl, hB, h0, h1, h2, i0, i1, i2, n01, n02, n12⟩
      simp [execOp, go_sem, Act.eval, suT]
    · injection ho with ho
      subst ho
      rw [if_pos (show Region.wanted _ _ = true from rfl)]
      have s0 : S 0 = true := hp ⟨0, .data⟩ (by simp) rfl
      refine wp_val (v := .pointer (some ⟨b, off, none⟩)) (w' := X) ?_ ⟨e0, e1, e2, rfl, hB, h0, h1, h2, i0, i1, i2, n01, n02, n12⟩
      simp [execOp, go_sem, Act.eval, suT, s0]
    · injection ho with ho
      subst ho
      rw [if_pos (show Region.wanted _ _ = true from rfl)]
      have s0 : S 1 = true := hp ⟨1, .data⟩ (by simp) rfl
      have c0 : X.cell? ⟨b, off, none⟩ = some (.int .i64 p.kind) := (hB.cell (p := ⟨b, _, none⟩) hb0).trans p0
      have c1 : X.cell? ⟨b, off + 1, none⟩ = some (.int .i64 p.num) := (hB.cell (p := ⟨b, _, none⟩) hb0).trans p1
      have c2 : X.cell? ⟨b, off + 2, none⟩ = some (.string p.name) := (hB.cell (p := ⟨b, _, none⟩) hb0).trans p2
      have c3 : X.cell? ⟨b, off + 3, none⟩ = some (.slice PA p.args.length pc) := (hB.cell (p := ⟨b, _, none⟩) hb0).trans p3
      refine wp_val (v := .agg #[.int .i64 p.kind, .int .i64 p.num, .string p.name, .slice PA p.args.length pc]) (w' := X) ?_ ⟨e0, e1, e2, rfl, hB, h0, h1, h2, i0, i1, i2, n01, n02, n12⟩
      simp [execOp, go_sem, Act.eval, suT, s0, c0, c1, c2, c3]
    · injection ho with ho
      subst ho
      rw [if_pos (show Region.wanted _ _ = true from rfl)]
      refine wp_val (v := .slice (some ⟨b, off, none⟩) 3 ac) (w' := X) ?_ ⟨e0, e1, e2, rfl, hB, h0, h1, h2, i0, i1, i2, n01, n02, n12⟩
      simp [execOp, go_sem, Act.eval, suT]
    · injection ho with ho
      subst ho
      rw [if_pos (show Region.wanted _ _ = true from rfl)]
      have s0 : S 3 = true := hp ⟨3, .data⟩ (by simp) rfl
      refine wp_val (v := .pointer (some ⟨b, off + 4, none⟩)) (w' := X) ?_ ⟨e0, e1, e2, rfl, hB, h0, h1, h2, i0, i1, i2, n01, n02, n12⟩
      simp [execOp, go_sem, Act.eval, suT, s0]
    · injection ho with ho
      subst ho
      rw [if_pos (show Region.wanted _ _ = true from rfl)]
      have s0 : S 4 = true := hp ⟨4, .data⟩ (by simp) rfl
      have c0 : X.cell? ⟨b, off + 4, none⟩ = some (.int .i64 t.kind) := (hB.cell (p := ⟨b, _, none⟩) hb0).trans t0
      have c1 : X.cell? ⟨b, off + 4 + 1, none⟩ = some (.int .i64 t.num) := (hB.cell (p := ⟨b, _, none⟩) hb0).trans t1
      have c2 : X.cell? ⟨b, off + 4 + 2, none⟩ = some (.string t.name) := (hB.cell (p := ⟨b, _, none⟩) hb0).trans t2
      have c3 : X.cell? ⟨b, off + 4 + 3, none⟩ = some (.slice TA t.args.length tc) := (hB.cell (p := ⟨b, _, none⟩) hb0).trans t3
      refine wp_val (v := .agg #[.int .i64 t.kind, .int .i64 t.num, .string t.name, .slice TA t.args.length tc]) (w' := X) ?_ ⟨e0, e1, e2, rfl, hB, h0, h1, h2, i0, i1, i2, n01, n02, n12⟩
      simp [execOp, go_sem, Act.eval, suT, s0, c0, c1, c2, c3]
    · injection ho with ho
      subst ho
      rw [if_pos (show Region.wanted _ _ = true from rfl)]
      refine wp_val (v := .slice (some ⟨b, off, none⟩) 3 ac) (w' := X) ?_ ⟨e0, e1, e2, rfl, hB, h0, h1, h2, i0, i1, i2, n01, n02, n12⟩
      simp [execOp, go_sem, Act.eval, suT]
    · injection ho with ho
      subst ho
      rw [if_pos (show Region.wanted _ _ = true from rfl)]
      have s0 : S 6 = true := hp ⟨6, .data⟩ (by simp) rfl
      refine wp_val (v := .pointer (some ⟨b, off + 8, none⟩)) (w' := X) ?_ ⟨e0, e1, e2, rfl, hB, h0, h1, h2, i0, i1, i2, n01, n02, n12⟩
      simp [execOp, go_sem, Act.eval, suT, s0]
    · injection ho with ho
      subst ho
      rw [if_pos (show Region.wanted _ _ = true from rfl)]
      have s0 : S 7 = true := hp ⟨7, .data⟩ (by simp) rfl
      have c0 : X.cell? ⟨b, off + 8, none⟩ = some (.int .i64 n.kind) := (hB.cell (p := ⟨b, _, none⟩) hb0).trans n0
      have c1 : X.cell? ⟨b, off + 8 + 1, none⟩ = some (.int .i64 n.num) := (hB.cell (p := ⟨b, _, none⟩) hb0).trans n1
      have c2 : X.cell? ⟨b, off + 8 + 2, none⟩ = some (.string n.name) := (hB.cell (p := ⟨b, _, none⟩) hb0).trans n2
      have c3 : X.cell? ⟨b, off + 8 + 3, none⟩ = some (.slice NA n.args.length nc) := (hB.cell (p := ⟨b, _, none⟩) hb0).trans n3
      refine wp_val (v := .agg #[.int .i64 n.kind, .int .i64 n.num, .string n.name, .slice NA n.args.length nc]) (w' := X) ?_ ⟨e0, e1, e2, rfl, hB, h0, h1, h2, i0, i1, i2, n01, n02, n12⟩
      simp [execOp, go_sem, Act.eval, suT, s0, c0, c1, c2, c3]
    · injection ho with ho
      subst ho
      rw [if_pos (show Region.wanted _ _ = true from rfl)]
      refine wp_val (v := .pointer (some ⟨X.heap.size, 0, none⟩)) (w' := X.alloc (.cells #[.int .i64 0, .int .i64 0, .string ⟨#[]⟩, .slice none 0 0] 26)) ?_ ⟨X.heap.size, e1, e2, rfl, hB.alloc hB.size _, (fun _ => ⟨hB.size, by rw [if_neg (show ¬ updF S 9 12 = true from fun h => absurd (i0 h) (by rw [hs]; simp))]; exact Bk.new X [.int .i64 0, .int .i64 0, .string ⟨#[]⟩, .slice none 0 0] 26⟩), (fun h => ⟨(h1 h).1, (h1 h).2.al _⟩), (fun h => ⟨(h2 h).1, (h2 h).2.al _⟩), (fun _ => rfl), i1, i2, (fun _ h => (Nat.ne_of_lt (h1 h).2.lt).symm), (fun _ h => (Nat.ne_of_lt (h2 h).2.lt).symm), n12⟩
      simp [execOp, go_sem]
    · injection ho with ho
      subst ho
      rw [if_pos (show Region.wanted _ _ = true from rfl)]
      refine wp_val (v := .pointer (some ⟨X.heap.size, 0, none⟩)) (w' := X.alloc (.cells #[.int .i64 0, .int .i64 0, .string ⟨#[]⟩, .slice none 0 0] 26)) ?_ ⟨e0, X.heap.size, e2, rfl, hB.alloc hB.size _, (fun h => ⟨(h0 h).1, (h0 h).2.al _⟩), (fun _ => ⟨hB.size, by rw [if_neg (show ¬ updF S 10 13 = true from fun h => absurd (i1 h) (by rw [hs]; simp))]; exact Bk.new X [.int .i64 0, .int .i64 0, .string ⟨#[]⟩, .slice none 0 0] 26⟩), (fun h => ⟨(h2 h).1, (h2 h).2.al _⟩), i0, (fun _ => rfl), i2, (fun h _ => Nat.ne_of_lt (h0 h).2.lt), n02, (fun _ h => (Nat.ne_of_lt (h2 h).2.lt).symm)⟩
      simp [execOp, go_sem]
    · injection ho with ho
      subst ho
      rw [if_pos (show Region.wanted _ _ = true from rfl)]
      refine wp_val (v := .pointer (some ⟨X.heap.size, 0, none⟩)) (w' := X.alloc (.cells #[.int .i64 0, .int .i64 0, .string ⟨#[]⟩, .slice none 0 0] 26)) ?_ ⟨e0, e1, X.heap.size, rfl, hB.alloc hB.size _, (fun h => ⟨(h0 h).1, (h0 h).2.al _⟩), (fun h => ⟨(h1 h).1, (h1 h).2.al _⟩), (fun _ => ⟨hB.size, by rw [if_neg (show ¬ updF S 11 14 = true from fun h => absurd (i2 h) (by rw [hs]; simp))]; exact Bk.new X [.int .i64 0, .int .i64 0, .string ⟨#[]⟩, .slice none 0 0] 26⟩), i0, i1, (fun _ => rfl), n01, (fun h _ => Nat.ne_of_lt (h0 h).2.lt), (fun h _ => Nat.ne_of_lt (h1 h).2.lt)⟩
      simp [execOp, go_sem]
    · injection ho with ho
      subst ho
      rw [if_pos (show Region.wanted _ _ = true from rfl)]
      have s9 : S 9 = true := hp ⟨9, .data⟩ (by simp) rfl
      have s2 : S 2 = true := hp ⟨2, .data⟩ (by simp) rfl
      have hk := (h0 s9).2
      rw [if_neg (by rw [hs]; simp)] at hk
      have z0 := hk.c 0 (.int .i64 0) rfl
      have f0 := hk.f 0
      have z1 := hk.c 1 (.int .i64 0) rfl
      have f1 := hk.f 1
      have z2 := hk.c 2 (.string ⟨#[]⟩) rfl
      have f2 := hk.f 2
      have z3 := hk.c 3 (.slice none 0 0) rfl
      have f3 := hk.f 3
      refine wp_skp (w' := ((((X.setCell ⟨e0, 0, none⟩ (.int .i64 p.kind)).setCell ⟨e0, 1, none⟩ (.int .i64 p.num)).setCell ⟨e0, 2, none⟩ (.string p.name)).setCell ⟨e0, 3, none⟩ (.slice PA p.args.length pc))) ?_ ⟨e0, e1, e2, rfl, ((((hB.setCell (p := ⟨_, _, none⟩) (h0 s9).1 _).setCell (p := ⟨_, _, none⟩) (h0 s9).1 _).setCell (p := ⟨_, _, none⟩) (h0 s9).1 _).setCell (p := ⟨_, _, none⟩) (h0 s9).1 _), (fun h => ⟨(h0 s9).1, by rw [if_pos (show updF S 12 12 = true from rfl)]; exact ((((hk.set 0 (.int .i64 p.kind)).set 1 (.int .i64 p.num)).set 2 (.string p.name)).set 3 (.slice PA p.args.length pc))⟩), (fun h => ⟨(h1 h).1, (((((h1 h).2.other ((n01 s9 h).symm) 0 _).other ((n01 s9 h).symm) 1 _).other ((n01 s9 h).symm) 2 _).other ((n01 s9 h).symm) 3 _)⟩), (fun h => ⟨(h2 h).1, (((((h2 h).2.other ((n02 s9 h).symm) 0 _).other ((n02 s9 h).symm) 1 _).other ((n02 s9 h).symm) 2 _).other ((n02 s9 h).symm) 3 _)⟩), (fun _ => s9), i1, i2, n01, n02, n12⟩
      simp [execOp, go_sem, Act.eval, suT, s9, s2, z0, z1, z2, z3, f0, f1, f2, f3]
    · injection ho with ho
      subst ho
      rw [if_pos (show Region.wanted _ _ = true from rfl)]
      have s9 : S 10 = true := hp ⟨10, .data⟩ (by simp) rfl
      have s2 : S 5 = true := hp ⟨5, .data⟩ (by simp) rfl
      have hk := (h1 s9).2
      rw [if_neg (by rw [hs]; simp)] at hk
      have z0 := hk.c 0 (.int .i64 0) rfl
      have f0 := hk.f 0
      have z1 := hk.c 1 (.int .i64 0) rfl
      have f1 := hk.f 1
      have z2 := hk.c 2 (.string ⟨#[]⟩) rfl
      have f2 := hk.f 2
      have z3 := hk.c 3 (.slice none 0 0) rfl
      have f3 := hk.f 3
      refine wp_skp (w' := ((((X.setCell ⟨e1, 0, none⟩ (.int .i64 t.kind)).setCell ⟨e1, 1, none⟩ (.int .i64 t.num)).setCell ⟨e1, 2, none⟩ (.string t.name)).setCell ⟨e1, 3, none⟩ (.slice TA t.args.length tc))) ?_ ⟨e0, e1, e2, rfl, ((((hB.setCell (p := ⟨_, _, none⟩) (h1 s9).1 _).setCell (p := ⟨_, _, none⟩) (h1 s9).1 _).setCell (p := ⟨_, _, none⟩) (h1 s9).1 _).setCell (p := ⟨_, _, none⟩) (h1 s9).1 _), (fun h => ⟨(h0 h).1, (((((h0 h).2.other (n01 h s9) 0 _).other (n01 h s9) 1 _).other (n01 h s9) 2 _).other (n01 h s9) 3 _)⟩), (fun h => ⟨(h1 s9).1, by rw [if_pos (show updF S 13 13 = true from rfl)]; exact ((((hk.set 0 (.int .i64 t.kind)).set 1 (.int .i64 t.num)).set 2 (.string t.name)).set 3 (.slice TA t.args.length tc))⟩), (fun h => ⟨(h2 h).1, (((((h2 h).2.other ((n12 s9 h).symm) 0 _).other ((n12 s9 h).symm) 1 _).other ((n12 s9 h).symm) 2 _).other ((n12 s9 h).symm) 3 _)⟩), i0, (fun _ => s9), i2, n01, n02, n12⟩
      simp [execOp, go_sem, Act.eval, suT, s9, s2, z0, z1, z2, z3, f0, f1, f2, f3]
    · injection ho with ho
      subst ho
      rw [if_pos (show Region.wanted _ _ = true from rfl)]
      have s9 : S 11 = true := hp ⟨11, .data⟩ (by simp) rfl
      have s2 : S 8 = true := hp ⟨8, .data⟩ (by simp) rfl
      have hk := (h2 s9).2
      rw [if_neg (by rw [hs]; simp)] at hk
      have z0 := hk.c 0 (.int .i64 0) rfl
      have f0 := hk.f 0
      have z1 := hk.c 1 (.int .i64 0) rfl
      have f1 := hk.f 1
      have z2 := hk.c 2 (.string ⟨#[]⟩) rfl
      have f2 := hk.f 2
      have z3 := hk.c 3 (.slice none 0 0) rfl
      have f3 := hk.f 3
      refine wp_skp (w' := ((((X.setCell ⟨e2, 0, none⟩ (.int .i64 n.kind)).setCell ⟨e2, 1, none⟩ (.int .i64 n.num)).setCell ⟨e2, 2, none⟩ (.string n.name)).setCell ⟨e2, 3, none⟩ (.slice NA n.args.length nc))) ?_ ⟨e0, e1, e2, rfl, ((((hB.setCell (p := ⟨_, _, none⟩) (h2 s9).1 _).setCell (p := ⟨_, _, none⟩) (h2 s9).1 _).setCell (p := ⟨_, _, none⟩) (h2 s9).1 _).setCell (p := ⟨_, _, none⟩) (h2 s9).1 _), (fun h => ⟨(h0 h).1, (((((h0 h).2.other (n02 h s9) 0 _).other (n02 h s9) 1 _).other (n02 h s9) 2 _).other (n02 h s9) 3 _)⟩), (fun h => ⟨(h1 h).1, (((((h1 h).2.other (n12 h s9) 0 _).other (n12 h s9) 1 _).other (n12 h s9) 2 _).other (n12 h s9) 3 _)⟩), (fun h => ⟨(h2 s9).1, by rw [if_pos (show updF S 14 14 = true from rfl)]; exact ((((hk.set 0 (.int .i64 n.kind)).set 1 (.int .i64 n.num)).set 2 (.string n.name)).set 3 (.slice NA n.args.length nc))⟩), i0, i1, (fun _ => s9), n01, n02, n12⟩
      simp [execOp, go_sem, Act.eval, suT, s9, s2, z0, z1, z2, z3, f0, f1, f2, f3]
  case fin =>
    rintro S a X hall ⟨e0, e1, e2, rfl, hB, h0, h1, h2, -, -, -, n01, n02, n12⟩
    have s0 : S 0 = true := hall 0 (show 0 < 15 by omega)
    have s1 : S 1 = true := hall 1 (show 1 < 15 by omega)
    have s2 : S 2 = true := hall 2 (show 2 < 15 by omega)
    have s3 : S 3 = true := hall 3 (show 3 < 15 by omega)
    have s4 : S 4 = true := hall 4 (show 4 < 15 by omega)
    have s5 : S 5 = true := hall 5 (show 5 < 15 by omega)
    have s6 : S 6 = true := hall 6 (show 6 < 15 by omega)
    have s7 : S 7 = true := hall 7 (show 7 < 15 by omega)
    have s8 : S 8 = true := hall 8 (show 8 < 15 by omega)
    have s9 : S 9 = true := hall 9 (show 9 < 15 by omega)
    have s10 : S 10 = true := hall 10 (show 10 < 15 by omega)
    have s11 : S 11 = true := hall 11 (show 11 < 15 by omega)
    have s12 : S 12 = true := hall 12 (show 12 < 15 by omega)
    have s13 : S 13 = true := hall 13 (show 13 < 15 by omega)
    have s14 : S 14 = true := hall 14 (show 14 < 15 by omega)
    have HE0 := (h0 s9).2
    have HE1 := (h1 s10).2
    have HE2 := (h2 s11).2
    rw [if_pos s12] at HE0
    rw [if_pos s13] at HE1
    rw [if_pos s14] at HE2
    have HE0 := Lib.hid HE0
    have HE1 := Lib.hid HE1
    have HE2 := Lib.hid HE2
    have le0 := (h0 s9).1
    have le1 := (h1 s10).1
    have le2 := (h2 s11).1
    have HBLX := Lib.hid (HBL0.out.trans (hB.mono HBL0.out.size))
    have HBKX := Lib.hid (HBK0.out.keep fun x hx => hB.block x.1 (HBK0.out.bk x hx).lt)
    refine hK0 _ _ ?_
    simp only [suT, s0, s1, s2, s3, s4, s5, s6, s7, s8, s9, s10, s11, if_true]
    clear hall h0 h1 h2 hB HBL0 HBK0 hK0 s0 s1 s2 s3 s4 s5 s6 s7 s8 s9 s10 s11 s12 s13 s14 p0 p1 p2 p3 t0 t1 t2 t3 n0 n1 n2 n3
    have x0 : X.cell? ⟨e0, 0, none⟩ = some (.int .i64 p.kind) := HE0.out.c 0 _ rfl
    have x1 : X.cell? ⟨e0, 1, none⟩ = some (.int .i64 p.num) := HE0.out.c 1 _ rfl
    have x2 : X.cell? ⟨e0, 2, none⟩ = some (.string p.name) := HE0.out.c 2 _ rfl
    have x3 : X.cell? ⟨e0, 3, none⟩ = some (.slice PA p.args.length pc) := HE0.out.c 3 _ rfl
    have y0 : X.cell? ⟨e1, 0, none⟩ = some (.int .i64 t.kind) := HE1.out.c 0 _ rfl
    have y1 : X.cell? ⟨e1, 1, none⟩ = some (.int .i64 t.num) := HE1.out.c 1 _ rfl
    have y2 : X.cell? ⟨e1, 2, none⟩ = some (.string t.name) := HE1.out.c 2 _ rfl
    have y3 : X.cell? ⟨e1, 3, none⟩ = some (.slice TA t.args.length tc) := HE1.out.c 3 _ rfl
    have z0 : X.cell? ⟨e2, 0, none⟩ = some (.int .i64 n.kind) := HE2.out.c 0 _ rfl
    have z1 : X.cell? ⟨e2, 1, none⟩ = some (.int .i64 n.num) := HE2.out.c 1 _ rfl
    have z2 : X.cell? ⟨e2, 2, none⟩ = some (.string n.name) := HE2.out.c 2 _ rfl
    have z3 : X.cell? ⟨e2, 3, none⟩ = some (.slice NA n.args.length nc) := HE2.out.c 3 _ rfl
    gi_wp2
    refine ⟨trivial, (callsIn_wide.2 (HCK.out X HBLX.out)).mono ?_⟩
    rintro e w2 ⟨IA, ic, rfl, hB2, hN2⟩
    have HBL2 := Lib.hid (HBLX.out.trans (hB2.mono HBLX.out.size))
    have HBK2 := Lib.hid (HBKX.out.call hB2)
    have HN2 := Lib.hid hN2
    have HLX : Hid (w.heap.size + 1 + 1 + 1 + 1 + 1 < X.heap.size) := Lib.hid (HBKX.out.lt 0 rfl)
    have HRS := Lib.hid (f_raise ib IA ic (w2.alloc (.cells #[.int .i64 ib.kind, .int .i64 ib.num, .string ib.name, .slice IA ib.args.length ic] 26)))
    unfold rvB RV.val tmV at HRS
    dsimp only at HRS
    clear hB2 hN2 HBLX HBKX HE0 HE1 HE2 HCK HIB x0 x1 x2 x3 y0 y1 y2 y3 z0 z1 z2 z3
    gi_wp2
    refine ⟨trivial, (callsIn_wide.2 HRS.out).mono ?_⟩
    rintro e w3 ⟨rfl, hB3⟩
    have hB23 : Below w2.heap.size w2 w3 := ((Below.refl w2.heap.size w2).alloc (Nat.le_refl _) _).trans (hB3.mono (by simp))
    have HBL3 := Lib.hid (HBL2.out.trans (hB23.mono HBL2.out.size))
    have HBK3 := Lib.hid (HBK2.out.call hB23)
    have HN3 : Hid (TmsK (fun k => X.heap.size ≤ k ∧ k < w3.heap.size) w3 IA ib.args) := Lib.hid (HN2.out.keep (fun b hb => hB23.block b hb.2) (fun b hb => ⟨hb.1, Nat.lt_of_lt_of_le hb.2 hB23.size⟩))
    have HLW : Hid (w.heap.size ≤ X.heap.size) := Lib.hid (by have := HLX.out; omega)
    clear hB3 hB23 HBL2 HBK2 HN2 HRS
    have e2_0 : w3.cell? ⟨w.heap.size + 1 + 1, 0, none⟩ = some (.slice none 0 0) := HBK3.out.cell 3 0 rfl rfl
    have e2_1 : w3.cell? ⟨w.heap.size + 1 + 1, 1, none⟩ = some (.int .i64 0) := HBK3.out.cell 3 1 rfl rfl
    have e2_2 : w3.cell? ⟨w.heap.size + 1 + 1, 2, none⟩ = some (.int .i64 0) := HBK3.out.cell 3 2 rfl rfl
    have e2_3 : w3.cell? ⟨w.heap.size + 1 + 1, 3, none⟩ = some (.bool false) := HBK3.out.cell 3 3 rfl rfl
    have e2_4 : w3.cell? ⟨w.heap.size + 1 + 1, 4, none⟩ = some (.bool false) := HBK3.out.cell 3 4 rfl rfl
    have e2_5 : w3.cell? ⟨w.heap.size + 1 + 1, 5, none⟩ = some (.slice none 0 0) := HBK3.out.cell 3 5 rfl rfl
    have e3_0 : w3.cell? ⟨w.heap.size + 1 + 1 + 1, 0, none⟩ = some (.slice none 0 0) := HBK3.out.cell 2 0 rfl rfl
    have e4_0 : w3.cell? ⟨w.heap.size + 1 + 1 + 1 + 1, 0, none⟩ = some (.int .i64 0) := HBK3.out.cell 1 0 rfl rfl
    have e4_1 : w3.cell? ⟨w.heap.size + 1 + 1 + 1 + 1, 1, none⟩ = some (.int .i64 0) := HBK3.out.cell 1 1 rfl rfl
    have e4_2 : w3.cell? ⟨w.heap.size + 1 + 1 + 1 + 1, 2, none⟩ = some (.string ⟨#[]⟩) := HBK3.out.cell 1 2 rfl rfl
    have e4_3 : w3.cell? ⟨w.heap.size + 1 + 1 + 1 + 1, 3, none⟩ = some (.slice none 0 0) := HBK3.out.cell 1 3 rfl rfl
    have e5_0 : w3.cell? ⟨w.heap.size + 1 + 1 + 1 + 1 + 1, 0, none⟩ = some (.int .i64 0) := HBK3.out.cell 0 0 rfl rfl
    have e2f0 : w3.frozen? ⟨w.heap.size + 1 + 1, 0, none⟩ = false := HBK3.out.fz 3 0 rfl
    have e2f1 : w3.frozen? ⟨w.heap.size + 1 + 1, 1, none⟩ = false := HBK3.out.fz 3 1 rfl
    have e2f2 : w3.frozen? ⟨w.heap.size + 1 + 1, 2, none⟩ = false := HBK3.out.fz 3 2 rfl
    have e2f3 : w3.frozen? ⟨w.heap.size + 1 + 1, 3, none⟩ = false := HBK3.out.fz 3 3 rfl
    have e2f4 : w3.frozen? ⟨w.heap.size + 1 + 1, 4, none⟩ = false := HBK3.out.fz 3 4 rfl
    have e2f5 : w3.frozen? ⟨w.heap.size + 1 + 1, 5, none⟩ = false := HBK3.out.fz 3 5 rfl
    have e3f0 : w3.frozen? ⟨w.heap.size + 1 + 1 + 1, 0, none⟩ = false := HBK3.out.fz 2 0 rfl
    have e4f0 : w3.frozen? ⟨w.heap.size + 1 + 1 + 1 + 1, 0, none⟩ = false := HBK3.out.fz 1 0 rfl
    have e4f1 : w3.frozen? ⟨w.heap.size + 1 + 1 + 1 + 1, 1, none⟩ = false := HBK3.out.fz 1 1 rfl
    have e4f2 : w3.frozen? ⟨w.heap.size + 1 + 1 + 1 + 1, 2, none⟩ = false := HBK3.out.fz 1 2 rfl
    have e4f3 : w3.frozen? ⟨w.heap.size + 1 + 1 + 1 + 1, 3, none⟩ = false := HBK3.out.fz 1 3 rfl
    have e5f0 : w3.frozen? ⟨w.heap.size + 1 + 1 + 1 + 1 + 1, 0, none⟩ = false := HBK3.out.fz 0 0 rfl
    have e2l : w.heap.size + 1 + 1 < w3.heap.size := HBK3.out.lt 3 rfl
    have e3l : w.heap.size + 1 + 1 + 1 < w3.heap.size := HBK3.out.lt 2 rfl
    have e4l : w.heap.size + 1 + 1 + 1 + 1 < w3.heap.size := HBK3.out.lt 1 rfl
    have e5l : w.heap.size + 1 + 1 + 1 + 1 + 1 < w3.heap.size := HBK3.out.lt 0 rfl
    have HBKZ : Hid (Bks (((((((((((((w3.setCell ⟨w.heap.size + 1 + 1, 0, none⟩ (.slice none 0 0)).setCell ⟨w.heap.size + 1 + 1, 1, none⟩ (.int .i64 0)).setCell ⟨w.heap.size + 1 + 1, 2, none⟩ (.int .i64 0)).setCell ⟨w.heap.size + 1 + 1, 3, none⟩ (.bool false)).setCell ⟨w.heap.size + 1 + 1, 4, none⟩ (.bool false)).setCell ⟨w.heap.size + 1 + 1, 5, none⟩ (.slice none 0 0)).setCell ⟨w.heap.size + 1 + 1 + 1, 0, none⟩ (.slice none 0 0)).setCell ⟨w.heap.size + 1 + 1 + 1 + 1, 0, none⟩ (.int .i64 ib.kind)).setCell ⟨w.heap.size + 1 + 1 + 1 + 1, 1, none⟩ (.int .i64 ib.num)).setCell ⟨w.heap.size + 1 + 1 + 1 + 1, 2, none⟩ (.string ib.name)).setCell ⟨w.heap.size + 1 + 1 + 1 + 1, 3, none⟩ (.slice IA ib.args.length ic)).setCell ⟨w.heap.size + 1 + 1 + 1 + 1 + 1, 0, none⟩ (.int .i64 8))) [(w.heap.size + 1 + 1 + 1 + 1 + 1, [.int .i64 8]), (w.heap.size + 1 + 1 + 1 + 1, [.int .i64 ib.kind, .int .i64 ib.num, .string ib.name, .slice IA ib.args.length ic]), (w.heap.size + 1 + 1 + 1, [.slice none 0 0]), (w.heap.size + 1 + 1, [.slice none 0 0, .int .i64 0, .int .i64 0, .bool false, .bool false, .slice none 0 0]), (w.heap.size + 1, [.int .i64 gk, .int .i64 gn, .string gs, .slice (some ⟨b, off, none⟩) 3 ac]), (w.heap.size, [.slice OA on oc, .int .i64 q, .int .i64 u, .bool c, .bool d, .slice CA cn cc])]) := Lib.hid ((((HBK3.out.set6 3 rfl (.slice none 0 0) (.int .i64 0) (.int .i64 0) (.bool false) (.bool false) (.slice none 0 0)).set 2 0 rfl (.slice none 0 0)).set4 1 rfl (.int .i64 ib.kind) (.int .i64 ib.num) (.string ib.name) (.slice IA ib.args.length ic)).set 0 0 rfl (.int .i64 8))
    have HBLZ : Hid (Below w.heap.size w (((((((((((((w3.setCell ⟨w.heap.size + 1 + 1, 0, none⟩ (.slice none 0 0)).setCell ⟨w.heap.size + 1 + 1, 1, none⟩ (.int .i64 0)).setCell ⟨w.heap.size + 1 + 1, 2, none⟩ (.int .i64 0)).setCell ⟨w.heap.size + 1 + 1, 3, none⟩ (.bool false)).setCell ⟨w.heap.size + 1 + 1, 4, none⟩ (.bool false)).setCell ⟨w.heap.size + 1 + 1, 5, none⟩ (.slice none 0 0)).setCell ⟨w.heap.size + 1 + 1 + 1, 0, none⟩ (.slice none 0 0)).setCell ⟨w.heap.size + 1 + 1 + 1 + 1, 0, none⟩ (.int .i64 ib.kind)).setCell ⟨w.heap.size + 1 + 1 + 1 + 1, 1, none⟩ (.int .i64 ib.num)).setCell ⟨w.heap.size + 1 + 1 + 1 + 1, 2, none⟩ (.string ib.name)).setCell ⟨w.heap.size + 1 + 1 + 1 + 1, 3, none⟩ (.slice IA ib.args.length ic)).setCell ⟨w.heap.size + 1 + 1 + 1 + 1 + 1, 0, none⟩ (.int .i64 8)))) := Lib.hid ((((((((((((HBL3.out.setCell (p := ⟨w.heap.size + 1 + 1, _, none⟩) (show w.heap.size ≤ w.heap.size + 1 + 1 by omega) _).setCell (p := ⟨w.heap.size + 1 + 1, _, none⟩) (show w.heap.size ≤ w.heap.size + 1 + 1 by omega) _).setCell (p := ⟨w.heap.size + 1 + 1, _, none⟩) (show w.heap.size ≤ w.heap.size + 1 + 1 by omega) _).setCell (p := ⟨w.heap.size + 1 + 1, _, none⟩) (show w.heap.size ≤ w.heap.size + 1 + 1 by omega) _).setCell (p := ⟨w.heap.size + 1 + 1, _, none⟩) (show w.heap.size ≤ w.heap.size + 1 + 1 by omega) _).setCell (p := ⟨w.heap.size + 1 + 1, _, none⟩) (show w.heap.size ≤ w.heap.size + 1 + 1 by omega) _).setCell (p := ⟨w.heap.size + 1 + 1 + 1, _, none⟩) (show w.heap.size ≤ w.heap.size + 1 + 1 + 1 by omega) _).setCell (p := ⟨w.heap.size + 1 + 1 + 1 + 1, _, none⟩) (show w.heap.size ≤ w.heap.size + 1 + 1 + 1 + 1 by omega) _).setCell (p := ⟨w.heap.size + 1 + 1 + 1 + 1, _, none⟩) (show w.heap.size ≤ w.heap.size + 1 + 1 + 1 + 1 by omega) _).setCell (p := ⟨w.heap.size + 1 + 1 + 1 + 1, _, none⟩) (show w.heap.size ≤ w.heap.size + 1 + 1 + 1 + 1 by omega) _).setCell (p := ⟨w.heap.size + 1 + 1 + 1 + 1, _, none⟩) (show w.heap.size ≤ w.heap.size + 1 + 1 + 1 + 1 by omega) _).setCell (p := ⟨w.heap.size + 1 + 1 + 1 + 1 + 1, _, none⟩) (show w.heap.size ≤ w.heap.size + 1 + 1 + 1 + 1 + 1 by omega) _)
    have hkk : ∀ k, k ≠ w.heap.size + 1 + 1 → k ≠ w.heap.size + 1 + 1 + 1 → k ≠ w.heap.size + 1 + 1 + 1 + 1 → k ≠ w.heap.size + 1 + 1 + 1 + 1 + 1 → (((((((((((((w3.setCell ⟨w.heap.size + 1 + 1, 0, none⟩ (.slice none 0 0)).setCell ⟨w.heap.size + 1 + 1, 1, none⟩ (.int .i64 0)).setCell ⟨w.heap.size + 1 + 1, 2, none⟩ (.int .i64 0)).setCell ⟨w.heap.size + 1 + 1, 3, none⟩ (.bool false)).setCell ⟨w.heap.size + 1 + 1, 4, none⟩ (.bool false)).setCell ⟨w.heap.size + 1 + 1, 5, none⟩ (.slice none 0 0)).setCell ⟨w.heap.size + 1 + 1 + 1, 0, none⟩ (.slice none 0 0)).setCell ⟨w.heap.size + 1 + 1 + 1 + 1, 0, none⟩ (.int .i64 ib.kind)).setCell ⟨w.heap.size + 1 + 1 + 1 + 1, 1, none⟩ (.int .i64 ib.num)).setCell ⟨w.heap.size + 1 + 1 + 1 + 1, 2, none⟩ (.string ib.name)).setCell ⟨w.heap.size + 1 + 1 + 1 + 1, 3, none⟩ (.slice IA ib.args.length ic)).setCell ⟨w.heap.size + 1 + 1 + 1 + 1 + 1, 0, none⟩ (.int .i64 8))).heap[k]? = w3.heap[k]? := fun k h2 h3 h4 h5 => by
      rw [heap_setCell_other _ _ _ _ h5, heap_setCell_other _ _ _ _ h4, heap_setCell_other _ _ _ _ h4, heap_setCell_other _ _ _ _ h4, heap_setCell_other _ _ _ _ h4, heap_setCell_other _ _ _ _ h3, heap_setCell_other _ _ _ _ h2, heap_setCell_other _ _ _ _ h2, heap_setCell_other _ _ _ _ h2, heap_setCell_other _ _ _ _ h2, heap_setCell_other _ _ _ _ h2, heap_setCell_other _ _ _ _ h2]
    have hNZ : NewT w (((((((((((((w3.setCell ⟨w.heap.size + 1 + 1, 0, none⟩ (.slice none 0 0)).setCell ⟨w.heap.size + 1 + 1, 1, none⟩ (.int .i64 0)).setCell ⟨w.heap.size + 1 + 1, 2, none⟩ (.int .i64 0)).setCell ⟨w.heap.size + 1 + 1, 3, none⟩ (.bool false)).setCell ⟨w.heap.size + 1 + 1, 4, none⟩ (.bool false)).setCell ⟨w.heap.size + 1 + 1, 5, none⟩ (.slice none 0 0)).setCell ⟨w.heap.size + 1 + 1 + 1, 0, none⟩ (.slice none 0 0)).setCell ⟨w.heap.size + 1 + 1 + 1 + 1, 0, none⟩ (.int .i64 ib.kind)).setCell ⟨w.heap.size + 1 + 1 + 1 + 1, 1, none⟩ (.int .i64 ib.num)).setCell ⟨w.heap.size + 1 + 1 + 1 + 1, 2, none⟩ (.string ib.name)).setCell ⟨w.heap.size + 1 + 1 + 1 + 1, 3, none⟩ (.slice IA ib.args.length ic)).setCell ⟨w.heap.size + 1 + 1 + 1 + 1 + 1, 0, none⟩ (.int .i64 8))) IA ib.args := HN3.out.keep (fun b hb => hkk b (by have := HLX.out; omega) (by have := HLX.out; omega) (by have := HLX.out; omega) (by have := HLX.out; omega)) (fun b hb => ⟨by have := HLX.out; omega, by simpa using hb.2⟩)
    obtain ⟨wz, HWZ⟩ : ∃ wz, Hid (wz = ((((((((((((w3.setCell ⟨w.heap.size + 1 + 1, 0, none⟩ (.slice none 0 0)).setCell ⟨w.heap.size + 1 + 1, 1, none⟩ (.int .i64 0)).setCell ⟨w.heap.size + 1 + 1, 2, none⟩ (.int .i64 0)).setCell ⟨w.heap.size + 1 + 1, 3, none⟩ (.bool false)).setCell ⟨w.heap.size + 1 + 1, 4, none⟩ (.bool false)).setCell ⟨w.heap.size + 1 + 1, 5, none⟩ (.slice none 0 0)).setCell ⟨w.heap.size + 1 + 1 + 1, 0, none⟩ (.slice none 0 0)).setCell ⟨w.heap.size + 1 + 1 + 1 + 1, 0, none⟩ (.int .i64 ib.kind)).setCell ⟨w.heap.size + 1 + 1 + 1 + 1, 1, none⟩ (.int .i64 ib.num)).setCell ⟨w.heap.size + 1 + 1 + 1 + 1, 2, none⟩ (.string ib.name)).setCell ⟨w.heap.size + 1 + 1 + 1 + 1, 3, none⟩ (.slice IA ib.args.length ic)).setCell ⟨w.heap.size + 1 + 1 + 1 + 1 + 1, 0, none⟩ (.int .i64 8))) := ⟨_, Lib.hid rfl⟩
    rw [← HWZ.out] at HBKZ HBLZ hNZ
    have HNZ := Lib.hid hNZ
    clear hNZ hkk
    gi_wp2
    rw [← HWZ.out]
    have m2_0 : wz.cell? ⟨w.heap.size + 1 + 1, 0, none⟩ = some (.slice none 0 0) := HBKZ.out.cell 3 0 rfl rfl
    have m2_1 : wz.cell? ⟨w.heap.size + 1 + 1, 1, none⟩ = some (.int .i64 0) := HBKZ.out.cell 3 1 rfl rfl
    have m2_2 : wz.cell? ⟨w.heap.size + 1 + 1, 2, none⟩ = some (.int .i64 0) := HBKZ.out.cell 3 2 rfl rfl
    have m2_3 : wz.cell? ⟨w.heap.size + 1 + 1, 3, none⟩ = some (.bool false) := HBKZ.out.cell 3 3 rfl rfl
    have m2_4 : wz.cell? ⟨w.heap.size + 1 + 1, 4, none⟩ = some (.bool false) := HBKZ.out.cell 3 4 rfl rfl
    have m2_5 : wz.cell? ⟨w.heap.size + 1 + 1, 5, none⟩ = some (.slice none 0 0) := HBKZ.out.cell 3 5 rfl rfl
    have m3_0 : wz.cell? ⟨w.heap.size + 1 + 1 + 1, 0, none⟩ = some (.slice none 0 0) := HBKZ.out.cell 2 0 rfl rfl
    have m4_0 : wz.cell? ⟨w.heap.size + 1 + 1 + 1 + 1, 0, none⟩ = some (.int .i64 ib.kind) := HBKZ.out.cell 1 0 rfl rfl
    have m4_1 : wz.cell? ⟨w.heap.size + 1 + 1 + 1 + 1, 1, none⟩ = some (.int .i64 ib.num) := HBKZ.out.cell 1 1 rfl rfl
    have m4_2 : wz.cell? ⟨w.heap.size + 1 + 1 + 1 + 1, 2, none⟩ = some (.string ib.name) := HBKZ.out.cell 1 2 rfl rfl
    have m4_3 : wz.cell? ⟨w.heap.size + 1 + 1 + 1 + 1, 3, none⟩ = some (.slice IA ib.args.length ic) := HBKZ.out.cell 1 3 rfl rfl
    have m5_0 : wz.cell? ⟨w.heap.size + 1 + 1 + 1 + 1 + 1, 0, none⟩ = some (.int .i64 8) := HBKZ.out.cell 0 0 rfl rfl
    exact ⟨.tuple #[.agg #[.slice none 0 0, .int .i64 0, .int .i64 0, .bool false, .bool false, .slice none 0 0], .slice none 0 0, .agg #[.int .i64 ib.kind, .int .i64 ib.num, .string ib.name, .slice IA ib.args.length ic], .int .i64 8], by simp [results, Tryz.results113, go_sem, m2_0, m2_1, m2_2, m2_3, m2_4, m2_5, m3_0, m4_0, m4_1, m4_2, m4_3, m5_0], IA, ic, rfl, HBLZ.out, HNZ.out⟩
end Go.Proofs.YtfkhcpeahdkafaaGreat
