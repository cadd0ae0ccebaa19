/- Flags: char_conversion and set_prolog_flag with a variable. Flags: unbound of one term; current_char_conversion with two variables and an empty table. -/
import Derived.Test.YtfkhcpeahdkafaaGreatH23
namespace Go.Proofs.YtfkhcpeahdkafaaGreat
open Go.RowKit Hb
set_option maxRecDepth 100000
set_option maxHeartbeats 1600000 in
theorem f_setConv_v (OA : Option Addr) (on oc : Nat) (q u : Int) (c d : Bool) (CA : Option Addr) (cn cc : Nat) (gk gn : Int) (gs : ByteArray) (AA : Option Addr) (ac : Nat) (l : List Tm) (w : World) (hA : TmsAt w.heap.size w AA l) (huv : anyVar l = true) :
    Calls Tryz.prog 115 #[.agg #[.slice OA on oc, .int .i64 q, .int .i64 u, .bool c, .bool d, .slice CA cn cc], .slice AA l.length ac, .agg #[.int .i64 gk, .int .i64 gn, .string gs, .slice AA l.length ac]] w fun e w' => ∃ A c, e = .returned (rvB instT.kind instT.num instT.name A instT.args.length c 8).val ∧ Below w.heap.size w w' ∧ NewT w w' A instT.args := by
  obtain ⟨ib, HIB⟩ : ∃ ib, Hid (ib = instT) := ⟨_, Lib.hid rfl⟩
  have HINS : Hid (∀ W, Calls Tryz.prog 160 #[] W fun e w' => ∃ A' c', e = .returned (tmV ib A' c') ∧ Below W.heap.size W w' ∧ NewT W w' A' ib.args) := Lib.hid fun W => by rw [HIB.out]; exact b_inst W
  rw [← HIB.out]
  unfold rvB RV.val
  dsimp only
  obtain ⟨LN, HLN⟩ : ∃ LN, Hid (LN = l.length) := ⟨_, Lib.hid rfl⟩
  have HUB : Hid (∀ W, Below w.heap.size w W → Calls Tryz.prog 152 #[.slice AA LN ac] W fun e w' => e = .returned (.bool true) ∧ Below W.heap.size W w') := Lib.hid fun W hW => by
    have := f_unbound l AA ac W ((hA.keep hW).mono hW.size)
    rwa [huv, ← HLN.out] at this
  rw [← HLN.out]
  clear hA huv HIB HLN
  have HBL0 : Hid (Below w.heap.size w (((((w.alloc (.cells #[.slice OA on oc, .int .i64 q, .int .i64 u, .bool c, .bool d, .slice CA cn cc] 43)).alloc (.cells #[.int .i64 gk, .int .i64 gn, .string gs, .slice AA LN ac] 26)).alloc (.cells #[.slice none 0 0, .int .i64 0, .int .i64 0, .bool false, .bool false, .slice none 0 0] 43)).alloc (.cells #[.int .i64 0, .int .i64 0, .string ⟨#[]⟩, .slice none 0 0] 26)))) := Lib.hid (((((Below.refl _ w).alloc (Nat.le_refl _) _).alloc (by simp) _).alloc (by simp; omega) _).alloc (by simp; omega) _)
  have HBK0 : Hid (Bks (((((w.alloc (.cells #[.slice OA on oc, .int .i64 q, .int .i64 u, .bool c, .bool d, .slice CA cn cc] 43)).alloc (.cells #[.int .i64 gk, .int .i64 gn, .string gs, .slice AA LN ac] 26)).alloc (.cells #[.slice none 0 0, .int .i64 0, .int .i64 0, .bool false, .bool false, .slice none 0 0] 43)).alloc (.cells #[.int .i64 0, .int .i64 0, .string ⟨#[]⟩, .slice none 0 0] 26))) [(w.heap.size + 1 + 1 + 1, [.int .i64 0, .int .i64 0, .string ⟨#[]⟩, .slice none 0 0]), (w.heap.size + 1 + 1, [.slice none 0 0, .int .i64 0, .int .i64 0, .bool false, .bool false, .slice none 0 0]), (w.heap.size + 1, [.int .i64 gk, .int .i64 gn, .string gs, .slice AA LN ac]), (w.heap.size, [.slice OA on oc, .int .i64 q, .int .i64 u, .bool c, .bool d, .slice CA cn cc])]) := Lib.hid (((((Bks.nil w).new [.slice OA on oc, .int .i64 q, .int .i64 u, .bool c, .bool d, .slice CA cn cc] 43 rfl).new [.int .i64 gk, .int .i64 gn, .string gs, .slice AA LN ac] 26 (by simp)).new [.slice none 0 0, .int .i64 0, .int .i64 0, .bool false, .bool false, .slice none 0 0] 43 (by simp)).new [.int .i64 0, .int .i64 0, .string ⟨#[]⟩, .slice none 0 0] 26 (by simp))
  go_enter Tryz.func115, Tryz.ntmps115
  go_wp2_with fail
  refine (HUB.out _ HBL0.out).mono ?_; rintro e w1 ⟨rfl, hB1⟩
  have HBL1 := Lib.hid (HBL0.out.trans (hB1.mono HBL0.out.size))
  have HBK1 := Lib.hid (HBK0.out.call hB1)
  clear hB1 HBL0 HBK0 HUB
  go_wp2_with fail
  refine (HINS.out _).mono ?_; rintro e w4 ⟨IA, ic, rfl, hB4, hN4⟩
  have HBL4 := Lib.hid (HBL1.out.trans (hB4.mono HBL1.out.size))
  have HBK4 := Lib.hid (HBK1.out.call hB4)
  have HL3 : Hid (w.heap.size + 1 + 1 + 1 < w1.heap.size) := Lib.hid (HBK1.out.lt 0 rfl)
  have HRS := Lib.hid (f_raise ib IA ic w4)
  have HN4 := Lib.hid hN4
  unfold rvB RV.val tmV at HRS
  dsimp only at HRS
  clear hB4 hN4 HINS
  unfold tmV
  go_wp2_with fail
  refine HRS.out.mono ?_; rintro e w5 ⟨rfl, hB5⟩
  have HBL5 := Lib.hid (HBL4.out.trans (hB5.mono HBL4.out.size))
  have HBK5 := Lib.hid (HBK4.out.call hB5)
  have HN5 : Hid (TmsK (fun k => w1.heap.size ≤ k ∧ k < w5.heap.size) w5 IA ib.args) := Lib.hid (HN4.out.keep (fun b hb => hB5.block b hb.2) (fun b hb => ⟨hb.1, Nat.lt_of_lt_of_le hb.2 hB5.size⟩))
  clear hB5 HBL4 HBK4 HN4 HRS
  have e2_0 : w5.cell? ⟨w.heap.size + 1 + 1, 0, none⟩ = some (.slice none 0 0) := HBK5.out.cell 1 0 rfl rfl
  have e2_1 : w5.cell? ⟨w.heap.size + 1 + 1, 1, none⟩ = some (.int .i64 0) := HBK5.out.cell 1 1 rfl rfl
  have e2_2 : w5.cell? ⟨w.heap.size + 1 + 1, 2, none⟩ = some (.int .i64 0) := HBK5.out.cell 1 2 rfl rfl
  have e2_3 : w5.cell? ⟨w.heap.size + 1 + 1, 3, none⟩ = some (.bool false) := HBK5.out.cell 1 3 rfl rfl
  have e2_4 : w5.cell? ⟨w.heap.size + 1 + 1, 4, none⟩ = some (.bool false) := HBK5.out.cell 1 4 rfl rfl
  have e2_5 : w5.cell? ⟨w.heap.size + 1 + 1, 5, none⟩ = some (.slice none 0 0) := HBK5.out.cell 1 5 rfl rfl
  have e3_0 : w5.cell? ⟨w.heap.size + 1 + 1 + 1, 0, none⟩ = some (.int .i64 0) := HBK5.out.cell 0 0 rfl rfl
  have e3_1 : w5.cell? ⟨w.heap.size + 1 + 1 + 1, 1, none⟩ = some (.int .i64 0) := HBK5.out.cell 0 1 rfl rfl
  have e3_2 : w5.cell? ⟨w.heap.size + 1 + 1 + 1, 2, none⟩ = some (.string ⟨#[]⟩) := HBK5.out.cell 0 2 rfl rfl
  have e3_3 : w5.cell? ⟨w.heap.size + 1 + 1 + 1, 3, none⟩ = some (.slice none 0 0) := HBK5.out.cell 0 3 rfl rfl
  have e2f0 : w5.frozen? ⟨w.heap.size + 1 + 1, 0, none⟩ = false := HBK5.out.fz 1 0 rfl
  have e2f1 : w5.frozen? ⟨w.heap.size + 1 + 1, 1, none⟩ = false := HBK5.out.fz 1 1 rfl
  have e2f2 : w5.frozen? ⟨w.heap.size + 1 + 1, 2, none⟩ = false := HBK5.out.fz 1 2 rfl
  have e2f3 : w5.frozen? ⟨w.heap.size + 1 + 1, 3, none⟩ = false := HBK5.out.fz 1 3 rfl
  have e2f4 : w5.frozen? ⟨w.heap.size + 1 + 1, 4, none⟩ = false := HBK5.out.fz 1 4 rfl
  have e2f5 : w5.frozen? ⟨w.heap.size + 1 + 1, 5, none⟩ = false := HBK5.out.fz 1 5 rfl
  have e3f0 : w5.frozen? ⟨w.heap.size + 1 + 1 + 1, 0, none⟩ = false := HBK5.out.fz 0 0 rfl
  have e3f1 : w5.frozen? ⟨w.heap.size + 1 + 1 + 1, 1, none⟩ = false := HBK5.out.fz 0 1 rfl
  have e3f2 : w5.frozen? ⟨w.heap.size + 1 + 1 + 1, 2, none⟩ = false := HBK5.out.fz 0 2 rfl
  have e3f3 : w5.frozen? ⟨w.heap.size + 1 + 1 + 1, 3, none⟩ = false := HBK5.out.fz 0 3 rfl
  have e2l : w.heap.size + 1 + 1 < w5.heap.size := HBK5.out.lt 1 rfl
  have e3l : w.heap.size + 1 + 1 + 1 < w5.heap.size := HBK5.out.lt 0 rfl
  have HBKZ : Hid (Bks (((((((((((w5.setCell ⟨w.heap.size + 1 + 1, 0, none⟩ (.slice none 0 0)).setCell ⟨w.heap.size + 1 + 1, 1, none⟩ (.int .i64 0)).setCell ⟨w.heap.size + 1 + 1, 2, none⟩ (.int .i64 0)).setCell ⟨w.heap.size + 1 + 1, 3, none⟩ (.bool false)).setCell ⟨w.heap.size + 1 + 1, 4, none⟩ (.bool false)).setCell ⟨w.heap.size + 1 + 1, 5, none⟩ (.slice none 0 0)).setCell ⟨w.heap.size + 1 + 1 + 1, 0, none⟩ (.int .i64 ib.kind)).setCell ⟨w.heap.size + 1 + 1 + 1, 1, none⟩ (.int .i64 ib.num)).setCell ⟨w.heap.size + 1 + 1 + 1, 2, none⟩ (.string ib.name)).setCell ⟨w.heap.size + 1 + 1 + 1, 3, none⟩ (.slice IA ib.args.length ic))) [(w.heap.size + 1 + 1 + 1, [.int .i64 ib.kind, .int .i64 ib.num, .string ib.name, .slice IA ib.args.length ic]), (w.heap.size + 1 + 1, [.slice none 0 0, .int .i64 0, .int .i64 0, .bool false, .bool false, .slice none 0 0]), (w.heap.size + 1, [.int .i64 gk, .int .i64 gn, .string gs, .slice AA LN ac]), (w.heap.size, [.slice OA on oc, .int .i64 q, .int .i64 u, .bool c, .bool d, .slice CA cn cc])]) := Lib.hid ((HBK5.out.set6 1 rfl (.slice none 0 0) (.int .i64 0) (.int .i64 0) (.bool false) (.bool false) (.slice none 0 0)).set4 0 rfl (.int .i64 ib.kind) (.int .i64 ib.num) (.string ib.name) (.slice IA ib.args.length ic))
  have HBLZ : Hid (Below w.heap.size w (((((((((((w5.setCell ⟨w.heap.size + 1 + 1, 0, none⟩ (.slice none 0 0)).setCell ⟨w.heap.size + 1 + 1, 1, none⟩ (.int .i64 0)).setCell ⟨w.heap.size + 1 + 1, 2, none⟩ (.int .i64 0)).setCell ⟨w.heap.size + 1 + 1, 3, none⟩ (.bool false)).setCell ⟨w.heap.size + 1 + 1, 4, none⟩ (.bool false)).setCell ⟨w.heap.size + 1 + 1, 5, none⟩ (.slice none 0 0)).setCell ⟨w.heap.size + 1 + 1 + 1, 0, none⟩ (.int .i64 ib.kind)).setCell ⟨w.heap.size + 1 + 1 + 1, 1, none⟩ (.int .i64 ib.num)).setCell ⟨w.heap.size + 1 + 1 + 1, 2, none⟩ (.string ib.name)).setCell ⟨w.heap.size + 1 + 1 + 1, 3, none⟩ (.slice IA ib.args.length ic)))) := Lib.hid ((((((((((HBL5.out.setCell (p := ⟨w.heap.size + 1 + 1, _, none⟩) (show w.heap.size ≤ w.heap.size + 1 + 1 by omega) _).setCell (p := ⟨w.heap.size + 1 + 1, _, none⟩) (show w.heap.size ≤ w.heap.size + 1 + 1 by omega) _).setCell (p := ⟨w.heap.size + 1 + 1, _, none⟩) (show w.heap.size ≤ w.heap.size + 1 + 1 by omega) _).setCell (p := ⟨w.heap.size + 1 + 1, _, none⟩) (show w.heap.size ≤ w.heap.size + 1 + 1 by omega) _).setCell (p := ⟨w.heap.size + 1 + 1, _, none⟩) (show w.heap.size ≤ w.heap.size + 1 + 1 by omega) _).setCell (p := ⟨w.heap.size + 1 + 1, _, none⟩) (show w.heap.size ≤ w.heap.size + 1 + 1 by omega) _).setCell (p := ⟨w.heap.size + 1 + 1 + 1, _, none⟩) (show w.heap.size ≤ w.heap.size + 1 + 1 + 1 by omega) _).setCell (p := ⟨w.heap.size + 1 + 1 + 1, _, none⟩) (show w.heap.size ≤ w.heap.size + 1 + 1 + 1 by omega) _).setCell (p := ⟨w.heap.size + 1 + 1 + 1, _, none⟩) (show w.heap.size ≤ w.heap.size + 1 + 1 + 1 by omega) _).setCell (p := ⟨w.heap.size + 1 + 1 + 1, _, none⟩) (show w.heap.size ≤ w.heap.size + 1 + 1 + 1 by omega) _)
  have hkk : ∀ k, k ≠ w.heap.size + 1 + 1 → k ≠ w.heap.size + 1 + 1 + 1 → (((((((((((w5.setCell ⟨w.heap.size + 1 + 1, 0, none⟩ (.slice none 0 0)).setCell ⟨w.heap.size + 1 + 1, 1, none⟩ (.int .i64 0)).setCell ⟨w.heap.size + 1 + 1, 2, none⟩ (.int .i64 0)).setCell ⟨w.heap.size + 1 + 1, 3, none⟩ (.bool false)).setCell ⟨w.heap.size + 1 + 1, 4, none⟩ (.bool false)).setCell ⟨w.heap.size + 1 + 1, 5, none⟩ (.slice none 0 0)).setCell ⟨w.heap.size + 1 + 1 + 1, 0, none⟩ (.int .i64 ib.kind)).setCell ⟨w.heap.size + 1 + 1 + 1, 1, none⟩ (.int .i64 ib.num)).setCell ⟨w.heap.size + 1 + 1 + 1, 2, none⟩ (.string ib.name)).setCell ⟨w.heap.size + 1 + 1 + 1, 3, none⟩ (.slice IA ib.args.length ic))).heap[k]? = w5.heap[k]? := fun k h2 h3 => by
    rw [heap_setCell_other _ _ _ _ h3, heap_setCell_other _ _ _ _ h3, heap_setCell_other _ _ _ _ h3, heap_setCell_other _ _ _ _ h3, heap_setCell_other _ _ _ _ h2, heap_setCell_other _ _ _ _ h2, heap_setCell_other _ _ _ _ h2, heap_setCell_other _ _ _ _ h2, heap_setCell_other _ _ _ _ h2, heap_setCell_other _ _ _ _ h2]
  have hNZ : NewT w (((((((((((w5.setCell ⟨w.heap.size + 1 + 1, 0, none⟩ (.slice none 0 0)).setCell ⟨w.heap.size + 1 + 1, 1, none⟩ (.int .i64 0)).setCell ⟨w.heap.size + 1 + 1, 2, none⟩ (.int .i64 0)).setCell ⟨w.heap.size + 1 + 1, 3, none⟩ (.bool false)).setCell ⟨w.heap.size + 1 + 1, 4, none⟩ (.bool false)).setCell ⟨w.heap.size + 1 + 1, 5, none⟩ (.slice none 0 0)).setCell ⟨w.heap.size + 1 + 1 + 1, 0, none⟩ (.int .i64 ib.kind)).setCell ⟨w.heap.size + 1 + 1 + 1, 1, none⟩ (.int .i64 ib.num)).setCell ⟨w.heap.size + 1 + 1 + 1, 2, none⟩ (.string ib.name)).setCell ⟨w.heap.size + 1 + 1 + 1, 3, none⟩ (.slice IA ib.args.length ic))) IA ib.args := HN5.out.keep (fun b hb => hkk b (by have := HL3.out; omega) (by have := HL3.out; omega)) (fun b hb => ⟨by have := HL3.out; omega, by simpa using hb.2⟩)
  obtain ⟨wz, HWZ⟩ : ∃ wz, Hid (wz = ((((((((((w5.setCell ⟨w.heap.size + 1 + 1, 0, none⟩ (.slice none 0 0)).setCell ⟨w.heap.size + 1 + 1, 1, none⟩ (.int .i64 0)).setCell ⟨w.heap.size + 1 + 1, 2, none⟩ (.int .i64 0)).setCell ⟨w.heap.size + 1 + 1, 3, none⟩ (.bool false)).setCell ⟨w.heap.size + 1 + 1, 4, none⟩ (.bool false)).setCell ⟨w.heap.size + 1 + 1, 5, none⟩ (.slice none 0 0)).setCell ⟨w.heap.size + 1 + 1 + 1, 0, none⟩ (.int .i64 ib.kind)).setCell ⟨w.heap.size + 1 + 1 + 1, 1, none⟩ (.int .i64 ib.num)).setCell ⟨w.heap.size + 1 + 1 + 1, 2, none⟩ (.string ib.name)).setCell ⟨w.heap.size + 1 + 1 + 1, 3, none⟩ (.slice IA ib.args.length ic))) := ⟨_, Lib.hid rfl⟩
  rw [← HWZ.out] at HBKZ HBLZ hNZ
  have HNZ := Lib.hid hNZ
  clear hNZ hkk
  go_wp2_with fail
  rw [← HWZ.out]
  have m2_0 : wz.cell? ⟨w.heap.size + 1 + 1, 0, none⟩ = some (.slice none 0 0) := HBKZ.out.cell 1 0 rfl rfl
  have m2_1 : wz.cell? ⟨w.heap.size + 1 + 1, 1, none⟩ = some (.int .i64 0) := HBKZ.out.cell 1 1 rfl rfl
  have m2_2 : wz.cell? ⟨w.heap.size + 1 + 1, 2, none⟩ = some (.int .i64 0) := HBKZ.out.cell 1 2 rfl rfl
  have m2_3 : wz.cell? ⟨w.heap.size + 1 + 1, 3, none⟩ = some (.bool false) := HBKZ.out.cell 1 3 rfl rfl
  have m2_4 : wz.cell? ⟨w.heap.size + 1 + 1, 4, none⟩ = some (.bool false) := HBKZ.out.cell 1 4 rfl rfl
  have m2_5 : wz.cell? ⟨w.heap.size + 1 + 1, 5, none⟩ = some (.slice none 0 0) := HBKZ.out.cell 1 5 rfl rfl
  have m3_0 : wz.cell? ⟨w.heap.size + 1 + 1 + 1, 0, none⟩ = some (.int .i64 ib.kind) := HBKZ.out.cell 0 0 rfl rfl
  have m3_1 : wz.cell? ⟨w.heap.size + 1 + 1 + 1, 1, none⟩ = some (.int .i64 ib.num) := HBKZ.out.cell 0 1 rfl rfl
  have m3_2 : wz.cell? ⟨w.heap.size + 1 + 1 + 1, 2, none⟩ = some (.string ib.name) := HBKZ.out.cell 0 2 rfl rfl
  have m3_3 : wz.cell? ⟨w.heap.size + 1 + 1 + 1, 3, none⟩ = some (.slice IA ib.args.length ic) := HBKZ.out.cell 0 3 rfl rfl
  exact bodyPost_ret (v := .tuple #[.agg #[.slice none 0 0, .int .i64 0, .int .i64 0, .bool false, .bool false, .slice none 0 0], .slice none 0 0, .agg #[.int .i64 ib.kind, .int .i64 ib.num, .string ib.name, .slice IA ib.args.length ic], .int .i64 8]) (by simp [results, Tryz.results115, go_sem, m2_0, m2_1, m2_2, m2_3, m2_4, m2_5, m3_0, m3_1, m3_2, m3_3]) rfl ⟨IA, ic, rfl, HBLZ.out, HNZ.out⟩
set_option maxHeartbeats 3200000 in
theorem f_setFlag_v (OA : Option Addr) (on oc : Nat) (q u : Int) (c d : Bool) (CA : Option Addr) (cn cc : Nat) (gk gn : Int) (gs : ByteArray) (AA : Option Addr) (ac : Nat) (p t : Tm) (w : World) (hA : TmsAt w.heap.size w AA [p, t]) (huv : anyVar [p, t] = true) :
    Calls Tryz.prog 117 #[.agg #[.slice OA on oc, .int .i64 q, .int .i64 u, .bool c, .bool d, .slice CA cn cc], .slice AA 2 ac, .agg #[.int .i64 gk, .int .i64 gn, .string gs, .slice AA 2 ac]] w fun e w' => ∃ A c, e = .returned (rvB instT.kind instT.num instT.name A instT.args.length c 8).val ∧ Below w.heap.size w w' ∧ NewT w w' A instT.args := by
  obtain ⟨ib, HIB⟩ : ∃ ib, Hid (ib = instT) := ⟨_, Lib.hid rfl⟩
  have HINS : Hid (∀ W, Calls Tryz.prog 160 #[] W fun e w' => ∃ A' c', e = .returned (tmV ib A' c') ∧ Below W.heap.size W w' ∧ NewT W w' A' ib.args) := Lib.hid fun W => by rw [HIB.out]; exact b_inst W
  rw [← HIB.out]
  unfold rvB RV.val
  dsimp only
  obtain ⟨b, off, PA, pc, e1, hb, p0, p1, p2, p3, hPA⟩ := hA.get 0 (show 0 < 2 by omega)
  obtain ⟨_, _, TA, tc, e2, _, t0, t1, t2, t3, hTA⟩ := hA.get 1 (show 1 < 2 by omega)
  subst e1
  cases e2
  simp only [List.getElem_cons_zero, List.getElem_cons_succ, Nat.zero_mul, Nat.add_zero, Nat.one_mul] at p0 p1 p2 p3 t0 t1 t2 t3 hPA hTA
  have HPA := Lib.hid hPA
  have HTA := Lib.hid hTA
  have HUV := Lib.hid huv
  have hBL0 : Below w.heap.size w (((((w.alloc (.cells #[.slice OA on oc, .int .i64 q, .int .i64 u, .bool c, .bool d, .slice CA cn cc] 43)).alloc (.cells #[.int .i64 gk, .int .i64 gn, .string gs, .slice (some ⟨b, off, none⟩) 2 ac] 26)).alloc (.cells #[.slice none 0 0, .int .i64 0, .int .i64 0, .bool false, .bool false, .slice none 0 0] 43)).alloc (.cells #[.int .i64 0, .int .i64 0, .string ⟨#[]⟩, .slice none 0 0] 26))) := (((((Below.refl _ w).alloc (Nat.le_refl _) _).alloc (by simp) _).alloc (by simp; omega) _).alloc (by simp; omega) _)
  have hBK0 : Bks (((((w.alloc (.cells #[.slice OA on oc, .int .i64 q, .int .i64 u, .bool c, .bool d, .slice CA cn cc] 43)).alloc (.cells #[.int .i64 gk, .int .i64 gn, .string gs, .slice (some ⟨b, off, none⟩) 2 ac] 26)).alloc (.cells #[.slice none 0 0, .int .i64 0, .int .i64 0, .bool false, .bool false, .slice none 0 0] 43)).alloc (.cells #[.int .i64 0, .int .i64 0, .string ⟨#[]⟩, .slice none 0 0] 26))) [(w.heap.size + 1 + 1 + 1, [.int .i64 0, .int .i64 0, .string ⟨#[]⟩, .slice none 0 0]), (w.heap.size + 1 + 1, [.slice none 0 0, .int .i64 0, .int .i64 0, .bool false, .bool false, .slice none 0 0]), (w.heap.size + 1, [.int .i64 gk, .int .i64 gn, .string gs, .slice (some ⟨b, off, none⟩) 2 ac]), (w.heap.size, [.slice OA on oc, .int .i64 q, .int .i64 u, .bool c, .bool d, .slice CA cn cc])] := (((((Bks.nil w).new [.slice OA on oc, .int .i64 q, .int .i64 u, .bool c, .bool d, .slice CA cn cc] 43 rfl).new [.int .i64 gk, .int .i64 gn, .string gs, .slice (some ⟨b, off, none⟩) 2 ac] 26 (by simp)).new [.slice none 0 0, .int .i64 0, .int .i64 0, .bool false, .bool false, .slice none 0 0] 43 (by simp)).new [.int .i64 0, .int .i64 0, .string ⟨#[]⟩, .slice none 0 0] 26 (by simp))
  clear hA huv HIB hPA hTA
  go_enter Tryz.func117, Tryz.ntmps117
  go_wp2_with fail
  obtain ⟨W0, HW0⟩ : ∃ W0, Hid (W0 = ((((w.alloc (.cells #[.slice OA on oc, .int .i64 q, .int .i64 u, .bool c, .bool d, .slice CA cn cc] 43)).alloc (.cells #[.int .i64 gk, .int .i64 gn, .string gs, .slice (some ⟨b, off, none⟩) 2 ac] 26)).alloc (.cells #[.slice none 0 0, .int .i64 0, .int .i64 0, .bool false, .bool false, .slice none 0 0] 43)).alloc (.cells #[.int .i64 0, .int .i64 0, .string ⟨#[]⟩, .slice none 0 0] 26))) := ⟨_, Lib.hid rfl⟩
  rw [← HW0.out] at hBL0 hBK0 ⊢
  have HBL0 := Lib.hid hBL0
  have HBK0 := Lib.hid hBK0
  have p0 := (HBL0.out.cell (p := ⟨b, _, none⟩) hb).trans p0
  have p1 := (HBL0.out.cell (p := ⟨b, _, none⟩) hb).trans p1
  have p2 := (HBL0.out.cell (p := ⟨b, _, none⟩) hb).trans p2
  have p3 := (HBL0.out.cell (p := ⟨b, _, none⟩) hb).trans p3
  have t0 := (HBL0.out.cell (p := ⟨b, _, none⟩) hb).trans t0
  have t1 := (HBL0.out.cell (p := ⟨b, _, none⟩) hb).trans t1
  have t2 := (HBL0.out.cell (p := ⟨b, _, none⟩) hb).trans t2
  have t3 := (HBL0.out.cell (p := ⟨b, _, none⟩) hb).trans t3
  have hb0 : b < W0.heap.size := Nat.lt_of_lt_of_le hb HBL0.out.size
  clear HW0 hBL0 hBK0
  have hlz : w.heap.size + 1 + 1 + 1 < W0.heap.size := HBK0.out.lt 0 rfl
  have hs1 : ∀ a b : List Value, ((W0.alloc (.cells a.toArray 26)).alloc (.cells b.toArray 26)).heap.size = W0.heap.size + 1 + 1 := fun a b => by simp
  go_wp2_with go_region
  · have hBX : Below W0.heap.size W0 ((W0.alloc (.cells #[.int .i64 p.kind, .int .i64 p.num, .string p.name, .slice PA p.args.length pc] 26)).alloc (.cells #[.int .i64 t.kind, .int .i64 t.num, .string t.name, .slice TA t.args.length tc] 26)) := ((Below.refl _ _).alloc (Nat.le_refl _) _).alloc (by simp) _
    obtain ⟨X, HX⟩ : ∃ X, Hid (X = ((W0.alloc (.cells #[.int .i64 p.kind, .int .i64 p.num, .string p.name, .slice PA p.args.length pc] 26)).alloc (.cells #[.int .i64 t.kind, .int .i64 t.num, .string t.name, .slice TA t.args.length tc] 26))) := ⟨_, Lib.hid rfl⟩
    have hXs : X.heap.size = W0.heap.size + 1 + 1 := by rw [HX.out]; exact hs1 _ _
    rw [← HX.out] at hBX ⊢
    have HBLX := Lib.hid (HBL0.out.trans (hBX.mono HBL0.out.size))
    have HBKX := Lib.hid (HBK0.out.call hBX)
    have HUB : Hid (Calls Tryz.prog 152 #[.slice (some ⟨W0.heap.size + 1 + 1, 0, none⟩) 2 2] (X.alloc (.cells #[.int .i64 p.kind, .int .i64 p.num, .string p.name, .slice PA p.args.length pc, .int .i64 t.kind, .int .i64 t.num, .string t.name, .slice TA t.args.length tc] 26)).drew fun e w' => e = .returned (.bool true) ∧ Below (X.alloc (.cells #[.int .i64 p.kind, .int .i64 p.num, .string p.name, .slice PA p.args.length pc, .int .i64 t.kind, .int .i64 t.num, .string t.name, .slice TA t.args.length tc] 26)).drew.heap.size (X.alloc (.cells #[.int .i64 p.kind, .int .i64 p.num, .string p.name, .slice PA p.args.length pc, .int .i64 t.kind, .int .i64 t.num, .string t.name, .slice TA t.args.length tc] 26)).drew w') := Lib.hid (by
      have hr := TmsK.rows (K := fun b => b < X.heap.size + 1) (w := X) (rs := [(p, PA, pc), (t, TA, tc)]) (e := 26) (by omega) (by simp [maxLen]) (fun x hx => by
        have hal := Below.alloc (Below.refl X.heap.size X) (Nat.le_refl _) (.cells (rowsC [(p, PA, pc), (t, TA, tc)]).toArray 26)
        simp only [List.mem_cons, List.mem_nil_iff, or_false] at hx
        rcases hx with rfl | rfl
        · exact ((HPA.out.keep HBLX.out).mono HBLX.out.size |>.keep hal).mono (by omega)
        · exact ((HTA.out.keep HBLX.out).mono HBLX.out.size |>.keep hal).mono (by omega))
      have hr2 : TmsAt (X.alloc (.cells #[.int .i64 p.kind, .int .i64 p.num, .string p.name, .slice PA p.args.length pc, .int .i64 t.kind, .int .i64 t.num, .string t.name, .slice TA t.args.length tc] 26)).drew.heap.size (X.alloc (.cells #[.int .i64 p.kind, .int .i64 p.num, .string p.name, .slice PA p.args.length pc, .int .i64 t.kind, .int .i64 t.num, .string t.name, .slice TA t.args.length tc] 26)).drew (some ⟨X.heap.size, 0, none⟩) [p, t] := TmsK.keep (TmsK.at' hr) (fun _ _ => rfl) (fun _ h => h)
      have := f_unbound _ _ 2 _ hr2
      rw [HUV.out, hXs] at this
      exact this)
    have hBX2 : Below X.heap.size X (X.alloc (.cells #[.int .i64 p.kind, .int .i64 p.num, .string p.name, .slice PA p.args.length pc, .int .i64 t.kind, .int .i64 t.num, .string t.name, .slice TA t.args.length tc] 26)).drew := ((Below.refl _ _).alloc (Nat.le_refl _) _).drew
    refine HUB.out.mono ?_; rintro e w1 ⟨rfl, hB1⟩
    have hB01 := hBX2.trans (hB1.mono hBX2.size)
    have HBL1 := Lib.hid (HBLX.out.trans (hB01.mono HBLX.out.size))
    have HBK1 := Lib.hid (HBKX.out.call hB01)
    clear hB1 HBL0 HBK0 HUB hB01 hBX2 hBX HBLX HBKX
    go_wp2_with fail
    refine (HINS.out _).mono ?_; rintro e w4 ⟨IA, ic, rfl, hB4, hN4⟩
    have HBL4 := Lib.hid (HBL1.out.trans (hB4.mono HBL1.out.size))
    have HBK4 := Lib.hid (HBK1.out.call hB4)
    have HL3 : Hid (w.heap.size + 1 + 1 + 1 < w1.heap.size) := Lib.hid (HBK1.out.lt 0 rfl)
    have HRS := Lib.hid (f_raise ib IA ic w4)
    have HN4 := Lib.hid hN4
    unfold rvB RV.val tmV at HRS
    dsimp only at HRS
    clear hB4 hN4 HINS
    unfold tmV
    go_wp2_with fail
    refine HRS.out.mono ?_; rintro e w5 ⟨rfl, hB5⟩
    have HBL5 := Lib.hid (HBL4.out.trans (hB5.mono HBL4.out.size))
    have HBK5 := Lib.hid (HBK4.out.call hB5)
    have HN5 : Hid (TmsK (fun k => w1.heap.size ≤ k ∧ k < w5.heap.size) w5 IA ib.args) := Lib.hid (HN4.out.keep (fun b hb => hB5.block b hb.2) (fun b hb => ⟨hb.1, Nat.lt_of_lt_of_le hb.2 hB5.size⟩))
    clear hB5 HBL4 HBK4 HN4 HRS
    have e2_0 : w5.cell? ⟨w.heap.size + 1 + 1, 0, none⟩ = some (.slice none 0 0) := HBK5.out.cell 1 0 rfl rfl
    have e2_1 : w5.cell? ⟨w.heap.size + 1 + 1, 1, none⟩ = some (.int .i64 0) := HBK5.out.cell 1 1 rfl rfl
    have e2_2 : w5.cell? ⟨w.heap.size + 1 + 1, 2, none⟩ = some (.int .i64 0) := HBK5.out.cell 1 2 rfl rfl
    have e2_3 : w5.cell? ⟨w.heap.size + 1 + 1, 3, none⟩ = some (.bool false) := HBK5.out.cell 1 3 rfl rfl
    have e2_4 : w5.cell? ⟨w.heap.size + 1 + 1, 4, none⟩ = some (.bool false) := HBK5.out.cell 1 4 rfl rfl
    have e2_5 : w5.cell? ⟨w.heap.size + 1 + 1, 5, none⟩ = some (.slice none 0 0) := HBK5.out.cell 1 5 rfl rfl
    have e3_0 : w5.cell? ⟨w.heap.size + 1 + 1 + 1, 0, none⟩ = some (.int .i64 0) := HBK5.out.cell 0 0 rfl rfl
    have e3_1 : w5.cell? ⟨w.heap.size + 1 + 1 + 1, 1, none⟩ = some (.int .i64 0) := HBK5.out.cell 0 1 rfl rfl
    have e3_2 : w5.cell? ⟨w.heap.size + 1 + 1 + 1, 2, none⟩ = some (.string ⟨#[]⟩) := HBK5.out.cell 0 2 rfl rfl
    have e3_3 : w5.cell? ⟨w.heap.size + 1 + 1 + 1, 3, none⟩ = some (.slice none 0 0) := HBK5.out.cell 0 3 rfl rfl
    have e2f0 : w5.frozen? ⟨w.heap.size + 1 + 1, 0, none⟩ = false := HBK5.out.fz 1 0 rfl
    have e2f1 : w5.frozen? ⟨w.heap.size + 1 + 1, 1, none⟩ = false := HBK5.out.fz 1 1 rfl
    have e2f2 : w5.frozen? ⟨w.heap.size + 1 + 1, 2, none⟩ = false := HBK5.out.fz 1 2 rfl
    have e2f3 : w5.frozen? ⟨w.heap.size + 1 + 1, 3, none⟩ = false := HBK5.out.fz 1 3 rfl
    have e2f4 : w5.frozen? ⟨w.heap.size + 1 + 1, 4, none⟩ = false := HBK5.out.fz 1 4 rfl
    have e2f5 : w5.frozen? ⟨w.heap.size + 1 + 1, 5, none⟩ = false := HBK5.out.fz 1 5 rfl
    have e3f0 : w5.frozen? ⟨w.heap.size + 1 + 1 + 1, 0, none⟩ = false := HBK5.out.fz 0 0 rfl
    have e3f1 : w5.frozen? ⟨w.heap.size + 1 + 1 + 1, 1, none⟩ = false := HBK5.out.fz 0 1 rfl
    have e3f2 : w5.frozen? ⟨w.heap.size + 1 + 1 + 1, 2, none⟩ = false := HBK5.out.fz 0 2 rfl
    have e3f3 : w5.frozen? ⟨w.heap.size + 1 + 1 + 1, 3, none⟩ = false := HBK5.out.fz 0 3 rfl
    have e2l : w.heap.size + 1 + 1 < w5.heap.size := HBK5.out.lt 1 rfl
    have e3l : w.heap.size + 1 + 1 + 1 < w5.heap.size := HBK5.out.lt 0 rfl
    have HBKZ : Hid (Bks (((((((((((w5.setCell ⟨w.heap.size + 1 + 1, 0, none⟩ (.slice none 0 0)).setCell ⟨w.heap.size + 1 + 1, 1, none⟩ (.int .i64 0)).setCell ⟨w.heap.size + 1 + 1, 2, none⟩ (.int .i64 0)).setCell ⟨w.heap.size + 1 + 1, 3, none⟩ (.bool false)).setCell ⟨w.heap.size + 1 + 1, 4, none⟩ (.bool false)).setCell ⟨w.heap.size + 1 + 1, 5, none⟩ (.slice none 0 0)).setCell ⟨w.heap.size + 1 + 1 + 1, 0, none⟩ (.int .i64 ib.kind)).setCell ⟨w.heap.size + 1 + 1 + 1, 1, none⟩ (.int .i64 ib.num)).setCell ⟨w.heap.size + 1 + 1 + 1, 2, none⟩ (.string ib.name)).setCell ⟨w.heap.size + 1 + 1 + 1, 3, none⟩ (.slice IA ib.args.length ic))) [(w.heap.size + 1 + 1 + 1, [.int .i64 ib.kind, .int .i64 ib.num, .string ib.name, .slice IA ib.args.length ic]), (w.heap.size + 1 + 1, [.slice none 0 0, .int .i64 0, .int .i64 0, .bool false, .bool false, .slice none 0 0]), (w.heap.size + 1, [.int .i64 gk, .int .i64 gn, .string gs, .slice (some ⟨b, off, none⟩) 2 ac]), (w.heap.size, [.slice OA on oc, .int .i64 q, .int .i64 u, .bool c, .bool d, .slice CA cn cc])]) := Lib.hid ((HBK5.out.set6 1 rfl (.slice none 0 0) (.int .i64 0) (.int .i64 0) (.bool false) (.bool false) (.slice none 0 0)).set4 0 rfl (.int .i64 ib.kind) (.int .i64 ib.num) (.string ib.name) (.slice IA ib.args.length ic))
    have HBLZ : Hid (Below w.heap.size w (((((((((((w5.setCell ⟨w.heap.size + 1 + 1, 0, none⟩ (.slice none 0 0)).setCell ⟨w.heap.size + 1 + 1, 1, none⟩ (.int .i64 0)).setCell ⟨w.heap.size + 1 + 1, 2, none⟩ (.int .i64 0)).setCell ⟨w.heap.size + 1 + 1, 3, none⟩ (.bool false)).setCell ⟨w.heap.size + 1 + 1, 4, none⟩ (.bool false)).setCell ⟨w.heap.size + 1 + 1, 5, none⟩ (.slice none 0 0)).setCell ⟨w.heap.size + 1 + 1 + 1, 0, none⟩ (.int .i64 ib.kind)).setCell ⟨w.heap.size + 1 + 1 + 1, 1, none⟩ (.int .i64 ib.num)).setCell ⟨w.heap.size + 1 + 1 + 1, 2, none⟩ (.string ib.name)).setCell ⟨w.heap.size + 1 + 1 + 1, 3, none⟩ (.slice IA ib.args.length ic)))) := Lib.hid ((((((((((HBL5.out.setCell (p := ⟨w.heap.size + 1 + 1, _, none⟩) (show w.heap.size ≤ w.heap.size + 1 + 1 by omega) _).setCell (p := ⟨w.heap.size + 1 + 1, _, none⟩) (show w.heap.size ≤ w.heap.size + 1 + 1 by omega) _).setCell (p := ⟨w.heap.size + 1 + 1, _, none⟩) (show w.heap.size ≤ w.heap.size + 1 + 1 by omega) _).setCell (p := ⟨w.heap.size + 1 + 1, _, none⟩) (show w.heap.size ≤ w.heap.size + 1 + 1 by omega) _).setCell (p := ⟨w.heap.size + 1 + 1, _, none⟩) (show w.heap.size ≤ w.heap.size + 1 + 1 by omega) _).setCell (p := ⟨w.heap.size + 1 + 1, _, none⟩) (show w.heap.size ≤ w.heap.size + 1 + 1 by omega) _).setCell (p := ⟨w.heap.size + 1 + 1 + 1, _, none⟩) (show w.heap.size ≤ w.heap.size + 1 + 1 + 1 by omega) _).setCell (p := ⟨w.heap.size + 1 + 1 + 1, _, none⟩) (show w.heap.size ≤ w.heap.size + 1 + 1 + 1 by omega) _).setCell (p := ⟨w.heap.size + 1 + 1 + 1, _, none⟩) (show w.heap.size ≤ w.heap.size + 1 + 1 + 1 by omega) _).setCell (p := ⟨w.heap.size + 1 + 1 + 1, _, none⟩) (show w.heap.size ≤ w.heap.size + 1 + 1 + 1 by omega) _)
    have hkk : ∀ k, k ≠ w.heap.size + 1 + 1 → k ≠ w.heap.size + 1 + 1 + 1 → (((((((((((w5.setCell ⟨w.heap.size + 1 + 1, 0, none⟩ (.slice none 0 0)).setCell ⟨w.heap.size + 1 + 1, 1, none⟩ (.int .i64 0)).setCell ⟨w.heap.size + 1 + 1, 2, none⟩ (.int .i64 0)).setCell ⟨w.heap.size + 1 + 1, 3, none⟩ (.bool false)).setCell ⟨w.heap.size + 1 + 1, 4, none⟩ (.bool false)).setCell ⟨w.heap.size + 1 + 1, 5, none⟩ (.slice none 0 0)).setCell ⟨w.heap.size + 1 + 1 + 1, 0, none⟩ (.int .i64 ib.kind)).setCell ⟨w.heap.size + 1 + 1 + 1, 1, none⟩ (.int .i64 ib.num)).setCell ⟨w.heap.size + 1 + 1 + 1, 2, none⟩ (.string ib.name)).setCell ⟨w.heap.size + 1 + 1 + 1, 3, none⟩ (.slice IA ib.args.length ic))).heap[k]? = w5.heap[k]? := fun k h2 h3 => by
      rw [heap_setCell_other _ _ _ _ h3, heap_setCell_other _ _ _ _ h3, heap_setCell_other _ _ _ _ h3, heap_setCell_other _ _ _ _ h3, heap_setCell_other _ _ _ _ h2, heap_setCell_other _ _ _ _ h2, heap_setCell_other _ _ _ _ h2, heap_setCell_other _ _ _ _ h2, heap_setCell_other _ _ _ _ h2, heap_setCell_other _ _ _ _ h2]
    have hNZ : NewT w (((((((((((w5.setCell ⟨w.heap.size + 1 + 1, 0, none⟩ (.slice none 0 0)).setCell ⟨w.heap.size + 1 + 1, 1, none⟩ (.int .i64 0)).setCell ⟨w.heap.size + 1 + 1, 2, none⟩ (.int .i64 0)).setCell ⟨w.heap.size + 1 + 1, 3, none⟩ (.bool false)).setCell ⟨w.heap.size + 1 + 1, 4, none⟩ (.bool false)).setCell ⟨w.heap.size + 1 + 1, 5, none⟩ (.slice none 0 0)).setCell ⟨w.heap.size + 1 + 1 + 1, 0, none⟩ (.int .i64 ib.kind)).setCell ⟨w.heap.size + 1 + 1 + 1, 1, none⟩ (.int .i64 ib.num)).setCell ⟨w.heap.size + 1 + 1 + 1, 2, none⟩ (.string ib.name)).setCell ⟨w.heap.size + 1 + 1 + 1, 3, none⟩ (.slice IA ib.args.length ic))) IA ib.args := HN5.out.keep (fun b hb => hkk b (by have := HL3.out; omega) (by have := HL3.out; omega)) (fun b hb => ⟨by have := HL3.out; omega, by simpa using hb.2⟩)
    obtain ⟨wz, HWZ⟩ : ∃ wz, Hid (wz = ((((((((((w5.setCell ⟨w.heap.size + 1 + 1, 0, none⟩ (.slice none 0 0)).setCell ⟨w.heap.size + 1 + 1, 1, none⟩ (.int .i64 0)).setCell ⟨w.heap.size + 1 + 1, 2, none⟩ (.int .i64 0)).setCell ⟨w.heap.size + 1 + 1, 3, none⟩ (.bool false)).setCell ⟨w.heap.size + 1 + 1, 4, none⟩ (.bool false)).setCell ⟨w.heap.size + 1 + 1, 5, none⟩ (.slice none 0 0)).setCell ⟨w.heap.size + 1 + 1 + 1, 0, none⟩ (.int .i64 ib.kind)).setCell ⟨w.heap.size + 1 + 1 + 1, 1, none⟩ (.int .i64 ib.num)).setCell ⟨w.heap.size + 1 + 1 + 1, 2, none⟩ (.string ib.name)).setCell ⟨w.heap.size + 1 + 1 + 1, 3, none⟩ (.slice IA ib.args.length ic))) := ⟨_, Lib.hid rfl⟩
    rw [← HWZ.out] at HBKZ HBLZ hNZ
    have HNZ := Lib.hid hNZ
    clear hNZ hkk
    go_wp2_with fail
    rw [← HWZ.out]
    have m2_0 : wz.cell? ⟨w.heap.size + 1 + 1, 0, none⟩ = some (.slice none 0 0) := HBKZ.out.cell 1 0 rfl rfl
    have m2_1 : wz.cell? ⟨w.heap.size + 1 + 1, 1, none⟩ = some (.int .i64 0) := HBKZ.out.cell 1 1 rfl rfl
    have m2_2 : wz.cell? ⟨w.heap.size + 1 + 1, 2, none⟩ = some (.int .i64 0) := HBKZ.out.cell 1 2 rfl rfl
    have m2_3 : wz.cell? ⟨w.heap.size + 1 + 1, 3, none⟩ = some (.bool false) := HBKZ.out.cell 1 3 rfl rfl
    have m2_4 : wz.cell? ⟨w.heap.size + 1 + 1, 4, none⟩ = some (.bool false) := HBKZ.out.cell 1 4 rfl rfl
    have m2_5 : wz.cell? ⟨w.heap.size + 1 + 1, 5, none⟩ = some (.slice none 0 0) := HBKZ.out.cell 1 5 rfl rfl
    have m3_0 : wz.cell? ⟨w.heap.size + 1 + 1 + 1, 0, none⟩ = some (.int .i64 ib.kind) := HBKZ.out.cell 0 0 rfl rfl
    have m3_1 : wz.cell? ⟨w.heap.size + 1 + 1 + 1, 1, none⟩ = some (.int .i64 ib.num) := HBKZ.out.cell 0 1 rfl rfl
    have m3_2 : wz.cell? ⟨w.heap.size + 1 + 1 + 1, 2, none⟩ = some (.string ib.name) := HBKZ.out.cell 0 2 rfl rfl
    have m3_3 : wz.cell? ⟨w.heap.size + 1 + 1 + 1, 3, none⟩ = some (.slice IA ib.args.length ic) := HBKZ.out.cell 0 3 rfl rfl
    exact bodyPost_ret (v := .tuple #[.agg #[.slice none 0 0, .int .i64 0, .int .i64 0, .bool false, .bool false, .slice none 0 0], .slice none 0 0, .agg #[.int .i64 ib.kind, .int .i64 ib.num, .string ib.name, .slice IA ib.args.length ic], .int .i64 8]) (by simp [results, Tryz.results117, go_sem, m2_0, m2_1, m2_2, m2_3, m2_4, m2_5, m3_0, m3_1, m3_2, m3_3]) rfl ⟨IA, ic, rfl, HBLZ.out, HNZ.out⟩
  · have hBX : Below W0.heap.size W0 ((W0.alloc (.cells #[.int .i64 t.kind, .int .i64 t.num, .string t.name, .slice TA t.args.length tc] 26)).alloc (.cells #[.int .i64 p.kind, .int .i64 p.num, .string p.name, .slice PA p.args.length pc] 26)) := ((Below.refl _ _).alloc (Nat.le_refl _) _).alloc (by simp) _
    obtain ⟨X, HX⟩ : ∃ X, Hid (X = ((W0.alloc (.cells #[.int .i64 t.kind, .int .i64 t.num, .string t.name, .slice TA t.args.length tc] 26)).alloc (.cells #[.int .i64 p.kind, .int .i64 p.num, .string p.name, .slice PA p.args.length pc] 26))) := ⟨_, Lib.hid rfl⟩
    have hXs : X.heap.size = W0.heap.size + 1 + 1 := by rw [HX.out]; exact hs1 _ _
    rw [← HX.out] at hBX ⊢
    have HBLX := Lib.hid (HBL0.out.trans (hBX.mono HBL0.out.size))
    have HBKX := Lib.hid (HBK0.out.call hBX)
    have HUB : Hid (Calls Tryz.prog 152 #[.slice (some ⟨W0.heap.size + 1 + 1, 0, none⟩) 2 2] (X.alloc (.cells #[.int .i64 p.kind, .int .i64 p.num, .string p.name, .slice PA p.args.length pc, .int .i64 t.kind, .int .i64 t.num, .string t.name, .slice TA t.args.length tc] 26)).drew fun e w' => e = .returned (.bool true) ∧ Below (X.alloc (.cells #[.int .i64 p.kind, .int .i64 p.num, .string p.name, .slice PA p.args.length pc, .int .i64 t.kind, .int .i64 t.num, .string t.name, .slice TA t.args.length tc] 26)).drew.heap.size (X.alloc (.cells #[.int .i64 p.kind, .int .i64 p.num, .string p.name, .slice PA p.args.length pc, .int .i64 t.kind, .int .i64 t.num, .string t.name, .slice TA t.args.length tc] 26)).drew w') := Lib.hid (by
      have hr := TmsK.rows (K := fun b => b < X.heap.size + 1) (w := X) (rs := [(p, PA, pc), (t, TA, tc)]) (e := 26) (by omega) (by simp [maxLen]) (fun x hx => by
        have hal := Below.alloc (Below.refl X.heap.size X) (Nat.le_refl _) (.cells (rowsC [(p, PA, pc), (t, TA, tc)]).toArray 26)
        simp only [List.mem_cons, List.mem_nil_iff, or_false] at hx
        rcases hx with rfl | rfl
        · exact ((HPA.out.keep HBLX.out).mono HBLX.out.size |>.keep hal).mono (by omega)
        · exact ((HTA.out.keep HBLX.out).mono HBLX.out.size |>.keep hal).mono (by omega))
      have hr2 : TmsAt (X.alloc (.cells #[.int .i64 p.kind, .int .i64 p.num, .string p.name, .slice PA p.args.length pc, .int .i64 t.kind, .int .i64 t.num, .string t.name, .slice TA t.args.length tc] 26)).drew.heap.size (X.alloc (.cells #[.int .i64 p.kind, .int .i64 p.num, .string p.name, .slice PA p.args.length pc, .int .i64 t.kind, .int .i64 t.num, .string t.name, .slice TA t.args.length tc] 26)).drew (some ⟨X.heap.size, 0, none⟩) [p, t] := TmsK.keep (TmsK.at' hr) (fun _ _ => rfl) (fun _ h => h)
      have := f_unbound _ _ 2 _ hr2
      rw [HUV.out, hXs] at this
      exact this)
    have hBX2 : Below X.heap.size X (X.alloc (.cells #[.int .i64 p.kind, .int .i64 p.num, .string p.name, .slice PA p.args.length pc, .int .i64 t.kind, .int .i64 t.num, .string t.name, .slice TA t.args.length tc] 26)).drew := ((Below.refl _ _).alloc (Nat.le_refl _) _).drew
    refine HUB.out.mono ?_; rintro e w1 ⟨rfl, hB1⟩
    have hB01 := hBX2.trans (hB1.mono hBX2.size)
    have HBL1 := Lib.hid (HBLX.out.trans (hB01.mono HBLX.out.size))
    have HBK1 := Lib.hid (HBKX.out.call hB01)
    clear hB1 HBL0 HBK0 HUB hB01 hBX2 hBX HBLX HBKX
    go_wp2_with fail
    refine (HINS.out _).mono ?_; rintro e w4 ⟨IA, ic, rfl, hB4, hN4⟩
    have HBL4 := Lib.hid (HBL1.out.trans (hB4.mono HBL1.out.size))
    have HBK4 := Lib.hid (HBK1.out.call hB4)
    have HL3 : Hid (w.heap.size + 1 + 1 + 1 < w1.heap.size) := Lib.hid (HBK1.out.lt 0 rfl)
    have HRS := Lib.hid (f_raise ib IA ic w4)
    have HN4 := Lib.hid hN4
    unfold rvB RV.val tmV at HRS
    dsimp only at HRS
    clear hB4 hN4 HINS
    unfold tmV
    go_wp2_with fail
    refine HRS.out.mono ?_; rintro e w5 ⟨rfl, hB5⟩
    have HBL5 := Lib.hid (HBL4.out.trans (hB5.mono HBL4.out.size))
    have HBK5 := Lib.hid (HBK4.out.call hB5)
    have HN5 : Hid (TmsK (fun k => w1.heap.size ≤ k ∧ k < w5.heap.size) w5 IA ib.args) := Lib.hid (HN4.out.keep (fun b hb => hB5.block b hb.2) (fun b hb => ⟨hb.1, Nat.lt_of_lt_of_le hb.2 hB5.size⟩))
    clear hB5 HBL4 HBK4 HN4 HRS
    have e2_0 : w5.cell? ⟨w.heap.size + 1 + 1, 0, none⟩ = some (.slice none 0 0) := HBK5.out.cell 1 0 rfl rfl
    have e2_1 : w5.cell? ⟨w.heap.size + 1 + 1, 1, none⟩ = some (.int .i64 0) := HBK5.out.cell 1 1 rfl rfl
    have e2_2 : w5.cell? ⟨w.heap.size + 1 + 1, 2, none⟩ = some (.int .i64 0) := HBK5.out.cell 1 2 rfl rfl
    have e2_3 : w5.cell? ⟨w.heap.size + 1 + 1, 3, none⟩ = some (.bool false) := HBK5.out.cell 1 3 rfl rfl
    have e2_4 : w5.cell? ⟨w.heap.size + 1 + 1, 4, none⟩ = some (.bool false) := HBK5.out.cell 1 4 rfl rfl
    have e2_5 : w5.cell? ⟨w.heap.size + 1 + 1, 5, none⟩ = some (.slice none 0 0) := HBK5.out.cell 1 5 rfl rfl
    have e3_0 : w5.cell? ⟨w.heap.size + 1 + 1 + 1, 0, none⟩ = some (.int .i64 0) := HBK5.out.cell 0 0 rfl rfl
    have e3_1 : w5.cell? ⟨w.heap.size + 1 + 1 + 1, 1, none⟩ = some (.int .i64 0) := HBK5.out.cell 0 1 rfl rfl
    have e3_2 : w5.cell? ⟨w.heap.size + 1 + 1 + 1, 2, none⟩ = some (.string ⟨#[]⟩) := HBK5.out.cell 0 2 rfl rfl
    have e3_3 : w5.cell? ⟨w.heap.size + 1 + 1 + 1, 3, none⟩ = some (.slice none 0 0) := HBK5.out.cell 0 3 rfl rfl
    have e2f0 : w5.frozen? ⟨w.heap.size + 1 + 1, 0, none⟩ = false := HBK5.out.fz 1 0 rfl
    have e2f1 : w5.frozen? ⟨w.heap.size + 1 + 1, 1, none⟩ = false := HBK5.out.fz 1 1 rfl
    have e2f2 : w5.frozen? ⟨w.heap.size + 1 + 1, 2, none⟩ = false := HBK5.out.fz 1 2 rfl
    have e2f3 : w5.frozen? ⟨w.heap.size + 1 + 1, 3, none⟩ = false := HBK5.out.fz 1 3 rfl
    have e2f4 : w5.frozen? ⟨w.heap.size + 1 + 1, 4, none⟩ = false := HBK5.out.fz 1 4 rfl
    have e2f5 : w5.frozen? ⟨w.heap.size + 1 + 1, 5, none⟩ = false := HBK5.out.fz 1 5 rfl
    have e3f0 : w5.frozen? ⟨w.heap.size + 1 + 1 + 1, 0, none⟩ = false := HBK5.out.fz 0 0 rfl
    have e3f1 : w5.frozen? ⟨w.heap.size + 1 + 1 + 1, 1, none⟩ = false := HBK5.out.fz 0 1 rfl
    have e3f2 : w5.frozen? ⟨w.heap.size + 1 + 1 + 1, 2, none⟩ = false := HBK5.out.fz 0 2 rfl
    have e3f3 : w5.frozen? ⟨w.heap.size + 1 + 1 + 1, 3, none⟩ = false := HBK5.out.fz 0 3 rfl
    have e2l : w.heap.size + 1 + 1 < w5.heap.size := HBK5.out.lt 1 rfl
    have e3l : w.heap.size + 1 + 1 + 1 < w5.heap.size := HBK5.out.lt 0 rfl
    have HBKZ : Hid (Bks (((((((((((w5.setCell ⟨w.heap.size + 1 + 1, 0, none⟩ (.slice none 0 0)).setCell ⟨w.heap.size + 1 + 1, 1, none⟩ (.int .i64 0)).setCell ⟨w.heap.size + 1 + 1, 2, none⟩ (.int .i64 0)).setCell ⟨w.heap.size + 1 + 1, 3, none⟩ (.bool false)).setCell ⟨w.heap.size + 1 + 1, 4, none⟩ (.bool false)).setCell ⟨w.heap.size + 1 + 1, 5, none⟩ (.slice none 0 0)).setCell ⟨w.heap.size + 1 + 1 + 1, 0, none⟩ (.int .i64 ib.kind)).setCell ⟨w.heap.size + 1 + 1 + 1, 1, none⟩ (.int .i64 ib.num)).setCell ⟨w.heap.size + 1 + 1 + 1, 2, none⟩ (.string ib.name)).setCell ⟨w.heap.size + 1 + 1 + 1, 3, none⟩ (.slice IA ib.args.length ic))) [(w.heap.size + 1 + 1 + 1, [.int .i64 ib.kind, .int .i64 ib.num, .string ib.name, .slice IA ib.args.length ic]), (w.heap.size + 1 + 1, [.slice none 0 0, .int .i64 0, .int .i64 0, .bool false, .bool false, .slice none 0 0]), (w.heap.size + 1, [.int .i64 gk, .int .i64 gn, .string gs, .slice (some ⟨b, off, none⟩) 2 ac]), (w.heap.size, [.slice OA on oc, .int .i64 q, .int .i64 u, .bool c, .bool d, .slice CA cn cc])]) := Lib.hid ((HBK5.out.set6 1 rfl (.slice none 0 0) (.int .i64 0) (.int .i64 0) (.bool false) (.bool false) (.slice none 0 0)).set4 0 rfl (.int .i64 ib.kind) (.int .i64 ib.num) (.string ib.name) (.slice IA ib.args.length ic))
    have HBLZ : Hid (Below w.heap.size w (((((((((((w5.setCell ⟨w.heap.size + 1 + 1, 0, none⟩ (.slice none 0 0)).setCell ⟨w.heap.size + 1 + 1, 1, none⟩ (.int .i64 0)).setCell ⟨w.heap.size + 1 + 1, 2, none⟩ (.int .i64 0)).setCell ⟨w.heap.size + 1 + 1, 3, none⟩ (.bool false)).setCell ⟨w.heap.size + 1 + 1, 4, none⟩ (.bool false)).setCell ⟨w.heap.size + 1 + 1, 5, none⟩ (.slice none 0 0)).setCell ⟨w.heap.size + 1 + 1 + 1, 0, none⟩ (.int .i64 ib.kind)).setCell ⟨w.heap.size + 1 + 1 + 1, 1, none⟩ (.int .i64 ib.num)).setCell ⟨w.heap.size + 1 + 1 + 1, 2, none⟩ (.string ib.name)).setCell ⟨w.heap.size + 1 + 1 + 1, 3, none⟩ (.slice IA ib.args.length ic)))) := Lib.hid ((((((((((HBL5.out.setCell (p := ⟨w.heap.size + 1 + 1, _, none⟩) (show w.heap.size ≤ w.heap.size + 1 + 1 by omega) _).setCell (p := ⟨w.heap.size + 1 + 1, _, none⟩) (show w.heap.size ≤ w.heap.size + 1 + 1 by omega) _).setCell (p := ⟨w.heap.size + 1 + 1, _, none⟩) (show w.heap.size ≤ w.heap.size + 1 + 1 by omega) _).setCell (p := ⟨w.heap.size + 1 + 1, _, none⟩) (show w.heap.size ≤ w.heap.size + 1 + 1 by omega) _).setCell (p := ⟨w.heap.size + 1 + 1, _, none⟩) (show w.heap.size ≤ w.heap.size + 1 + 1 by omega) _).setCell (p := ⟨w.heap.size + 1 + 1, _, none⟩) (show w.heap.size ≤ w.heap.size + 1 + 1 by omega) _).setCell (p := ⟨w.heap.size + 1 + 1 + 1, _, none⟩) (show w.heap.size ≤ w.heap.size + 1 + 1 + 1 by omega) _).setCell (p := ⟨w.heap.size + 1 + 1 + 1, _, none⟩) (show w.heap.size ≤ w.heap.size + 1 + 1 + 1 by omega) _).setCell (p := ⟨w.heap.size + 1 + 1 + 1, _, none⟩) (show w.heap.size ≤ w.heap.size + 1 + 1 + 1 by omega) _).setCell (p := ⟨w.heap.size + 1 + 1 + 1, _, none⟩) (show w.heap.size ≤ w.heap.size + 1 + 1 + 1 by omega) _)
    have hkk : ∀ k, k ≠ w.heap.size + 1 + 1 → k ≠ w.heap.size + 1 + 1 + 1 → (((((((((((w5.setCell ⟨w.heap.size + 1 + 1, 0, none⟩ (.slice none 0 0)).setCell ⟨w.heap.size + 1 + 1, 1, none⟩ (.int .i64 0)).setCell ⟨w.heap.size + 1 + 1, 2, none⟩ (.int .i64 0)).setCell ⟨w.heap.size + 1 + 1, 3, none⟩ (.bool false)).setCell ⟨w.heap.size + 1 + 1, 4, none⟩ (.bool false)).setCell ⟨w.heap.size + 1 + 1, 5, none⟩ (.slice none 0 0)).setCell ⟨w.heap.size + 1 + 1 + 1, 0, none⟩ (.int .i64 ib.kind)).setCell ⟨w.heap.size + 1 + 1 + 1, 1, none⟩ (.int .i64 ib.num)).setCell ⟨w.heap.size + 1 + 1 + 1, 2, none⟩ (.string ib.name)).setCell ⟨w.heap.size + 1 + 1 + 1, 3, none⟩ (.slice IA ib.args.length ic))).heap[k]? = w5.heap[k]? := fun k h2 h3 => by
      rw [heap_setCell_other _ _ _ _ h3, heap_setCell_other _ _ _ _ h3, heap_setCell_other _ _ _ _ h3, heap_setCell_other _ _ _ _ h3, heap_setCell_other _ _ _ _ h2, heap_setCell_other _ _ _ _ h2, heap_setCell_other _ _ _ _ h2, heap_setCell_other _ _ _ _ h2, heap_setCell_other _ _ _ _ h2, heap_setCell_other _ _ _ _ h2]
    have hNZ : NewT w (((((((((((w5.setCell ⟨w.heap.size + 1 + 1, 0, none⟩ (.slice none 0 0)).setCell ⟨w.heap.size + 1 + 1, 1, none⟩ (.int .i64 0)).setCell ⟨w.heap.size + 1 + 1, 2, none⟩ (.int .i64 0)).setCell ⟨w.heap.size + 1 + 1, 3, none⟩ (.bool false)).setCell ⟨w.heap.size + 1 + 1, 4, none⟩ (.bool false)).setCell ⟨w.heap.size + 1 + 1, 5, none⟩ (.slice none 0 0)).setCell ⟨w.heap.size + 1 + 1 + 1, 0, none⟩ (.int .i64 ib.kind)).setCell ⟨w.heap.size + 1 + 1 + 1, 1, none⟩ (.int .i64 ib.num)).setCell ⟨w.heap.size + 1 + 1 + 1, 2, none⟩ (.string ib.name)).setCell ⟨w.heap.size + 1 + 1 + 1, 3, none⟩ (.slice IA ib.args.length ic))) IA ib.args := HN5.out.keep (fun b hb => hkk b (by have := HL3.out; omega) (by have := HL3.out; omega)) (fun b hb => ⟨by have := HL3.out; omega, by simpa using hb.2⟩)
    obtain ⟨wz, HWZ⟩ : ∃ wz, Hid (wz = ((((((((((w5.setCell ⟨w.heap.size + 1 + 1, 0, none⟩ (.slice none 0 0)).setCell ⟨w.heap.size + 1 + 1, 1, none⟩ (.int .i64 0)).setCell ⟨w.heap.size + 1 + 1, 2, none⟩ (.int .i64 0)).setCell ⟨w.heap.size + 1 + 1, 3, none⟩ (.bool false)).setCell ⟨w.heap.size + 1 + 1, 4, none⟩ (.bool false)).setCell ⟨w.heap.size + 1 + 1, 5, none⟩ (.slice none 0 0)).setCell ⟨w.heap.size + 1 + 1 + 1, 0, none⟩ (.int .i64 ib.kind)).setCell ⟨w.heap.size + 1 + 1 + 1, 1, none⟩ (.int .i64 ib.num)).setCell ⟨w.heap.size + 1 + 1 + 1, 2, none⟩ (.string ib.name)).setCell ⟨w.heap.size + 1 + 1 + 1, 3, none⟩ (.slice IA ib.args.length ic))) := ⟨_, Lib.hid rfl⟩
    rw [← HWZ.out] at HBKZ HBLZ hNZ
    have HNZ := Lib.hid hNZ
    clear hNZ hkk
    go_wp2_with fail
    rw [← HWZ.out]
    have m2_0 : wz.cell? ⟨w.heap.size + 1 + 1, 0, none⟩ = some (.slice none 0 0) := HBKZ.out.cell 1 0 rfl rfl
    have m2_1 : wz.cell? ⟨w.heap.size + 1 + 1, 1, none⟩ = some (.int .i64 0) := HBKZ.out.cell 1 1 rfl rfl
    have m2_2 : wz.cell? ⟨w.heap.size + 1 + 1, 2, none⟩ = some (.int .i64 0) := HBKZ.out.cell 1 2 rfl rfl
    have m2_3 : wz.cell? ⟨w.heap.size + 1 + 1, 3, none⟩ = some (.bool false) := HBKZ.out.cell 1 3 rfl rfl
    have m2_4 : wz.cell? ⟨w.heap.size + 1 + 1, 4, none⟩ = some (.bool false) := HBKZ.out.cell 1 4 rfl rfl
    have m2_5 : wz.cell? ⟨w.heap.size + 1 + 1, 5, none⟩ = some (.slice none 0 0) := HBKZ.out.cell 1 5 rfl rfl
    have m3_0 : wz.cell? ⟨w.heap.size + 1 + 1 + 1, 0, none⟩ = some (.int .i64 ib.kind) := HBKZ.out.cell 0 0 rfl rfl
    have m3_1 : wz.cell? ⟨w.heap.size + 1 + 1 + 1, 1, none⟩ = some (.int .i64 ib.num) := HBKZ.out.cell 0 1 rfl rfl
    have m3_2 : wz.cell? ⟨w.heap.size + 1 + 1 + 1, 2, none⟩ = some (.string ib.name) := HBKZ.out.cell 0 2 rfl rfl
    have m3_3 : wz.cell? ⟨w.heap.size + 1 + 1 + 1, 3, none⟩ = some (.slice IA ib.args.length ic) := HBKZ.out.cell 0 3 rfl rfl
    exact bodyPost_ret (v := .tuple #[.agg #[.slice none 0 0, .int .i64 0, .int .i64 0, .bool false, .bool false, .slice none 0 0], .slice none 0 0, .agg #[.int .i64 ib.kind, .int .i64 ib.num, .string ib.name, .slice IA ib.args.length ic], .int .i64 8]) (by simp [results, Tryz.results117, go_sem, m2_0, m2_1, m2_2, m2_3, m2_4, m2_5, m3_0, m3_1, m3_2, m3_3]) rfl ⟨IA, ic, rfl, HBLZ.out, HNZ.out⟩
end Go.Proofs.YtfkhcpeahdkafaaGreat
namespace Hb
open Go Go.RowKit
/-- What a predicate hands back that has changed nothing. -/
def rvS (OA : Option Addr) (on oc : Nat) (q u : Int) (c d : Bool) (CA : Option Addr) (cn cc : Nat) (ra : Option Addr) (rn rc : Nat) : RV := ⟨OA, on, oc, q, u, c, d, CA, cn, cc, ra, rn, rc, 0, 0, ⟨#[]⟩, none, 0, 0, 0⟩
end Hb
namespace Go.Proofs.YtfkhcpeahdkafaaGreat
open Go.RowKit Hb
set_option maxRecDepth 100000
theorem f_unb1 (x : Tm) (A : Option Addr) (c : Nat) (W : World) (hA : TmsAt W.heap.size W A x.args) : Calls Tryz.prog 152 #[.slice (some ⟨W.heap.size, 0, none⟩) 1 1] (W.alloc (.cells #[.int .i64 x.kind, .int .i64 x.num, .string x.name, .slice A x.args.length c] 26)) fun e w' => e = .returned (.bool (x.kind == 0)) ∧ Below (W.alloc (.cells #[.int .i64 x.kind, .int .i64 x.num, .string x.name, .slice A x.args.length c] 26)).heap.size (W.alloc (.cells #[.int .i64 x.kind, .int .i64 x.num, .string x.name, .slice A x.args.length c] 26)) w' := by
  have hr := TmsK.rows (K := fun b => b < W.heap.size + 1) (w := W) (rs := [(x, A, c)]) (e := 26) (by omega) (by simp [maxLen]) (fun y hy => by
    have hal := Below.alloc (Below.refl W.heap.size W) (Nat.le_refl _) (.cells (rowsC [(x, A, c)]).toArray 26)
    rw [List.mem_singleton.1 hy]
    exact (hA.keep hal).mono (by omega))
  have := f_unbound _ _ 1 _ (TmsK.at' hr)
  rw [show anyVar (([(x, A, c)] : List TR).map (fun x : TR => x.1)) = (x.kind == 0) by simp [anyVar]] at this
  exact this
set_option maxHeartbeats 3200000 in
theorem f_listConv_v (OA : Option Addr) (on oc : Nat) (q u : Int) (c d : Bool) (CA : Option Addr) (cc : Nat) (gk gn : Int) (gs : ByteArray) (AA : Option Addr) (ac : Nat) (p t : Tm) (w : World) (hA : TmsAt w.heap.size w AA [p, t]) (hpk : p.kind = 0) (htk : t.kind = 0) :
    Calls Tryz.prog 116 #[.agg #[.slice OA on oc, .int .i64 q, .int .i64 u, .bool c, .bool d, .slice CA 0 cc], .slice AA 2 ac, .agg #[.int .i64 gk, .int .i64 gn, .string gs, .slice AA 2 ac]] w fun e w' => e = .returned (rvS OA on oc q u c d CA 0 cc none 0 0).val ∧ Below w.heap.size w w' := by
  unfold rvS RV.val
  dsimp only
  obtain ⟨b, off, PA, pc, e1, hb, p0, p1, p2, p3, hPA⟩ := hA.get 0 (show 0 < 2 by omega)
  obtain ⟨_, _, TA, tc, e2, _, t0, t1, t2, t3, hTA⟩ := hA.get 1 (show 1 < 2 by omega)
  subst e1
  cases e2
  simp only [List.getElem_cons_zero, List.getElem_cons_succ, Nat.zero_mul, Nat.add_zero, Nat.one_mul] at p0 p1 p2 p3 t0 t1 t2 t3 hPA hTA
  have HUP : Hid (∀ W G, Below w.heap.size w W → W.heap.size = G → Calls Tryz.prog 152 #[.slice (some ⟨G, 0, none⟩) 1 1] (W.alloc (.cells #[.int .i64 0, .int .i64 p.num, .string p.name, .slice PA p.args.length pc] 26)) fun e w' => e = .returned (.bool true) ∧ Below (W.alloc (.cells #[.int .i64 0, .int .i64 p.num, .string p.name, .slice PA p.args.length pc] 26)).heap.size (W.alloc (.cells #[.int .i64 0, .int .i64 p.num, .string p.name, .slice PA p.args.length pc] 26)) w') := Lib.hid fun W G hW hG => by
    subst hG
    have := f_unb1 p PA pc W ((hPA.keep hW).mono hW.size)
    rw [hpk] at this
    exact this
  have HUT : Hid (∀ W G, Below w.heap.size w W → W.heap.size = G → Calls Tryz.prog 152 #[.slice (some ⟨G, 0, none⟩) 1 1] (W.alloc (.cells #[.int .i64 0, .int .i64 t.num, .string t.name, .slice TA t.args.length tc] 26)) fun e w' => e = .returned (.bool true) ∧ Below (W.alloc (.cells #[.int .i64 0, .int .i64 t.num, .string t.name, .slice TA t.args.length tc] 26)).heap.size (W.alloc (.cells #[.int .i64 0, .int .i64 t.num, .string t.name, .slice TA t.args.length tc] 26)) w') := Lib.hid fun W G hW hG => by
    subst hG
    have := f_unb1 t TA tc W ((hTA.keep hW).mono hW.size)
    rw [htk] at this
    exact this
  rw [hpk] at p0
  rw [htk] at t0
  have HMP : Hid (∀ W, Below w.heap.size w W → (W.cell? ⟨b, off, none⟩ = some (.int .i64 0) ∧ W.cell? ⟨b, off + 1, none⟩ = some (.int .i64 p.num) ∧ W.cell? ⟨b, off + 2, none⟩ = some (.string p.name) ∧ W.cell? ⟨b, off + 3, none⟩ = some (.slice PA p.args.length pc)) ∧ (W.cell? ⟨b, off + 4, none⟩ = some (.int .i64 0) ∧ W.cell? ⟨b, off + 4 + 1, none⟩ = some (.int .i64 t.num) ∧ W.cell? ⟨b, off + 4 + 2, none⟩ = some (.string t.name) ∧ W.cell? ⟨b, off + 4 + 3, none⟩ = some (.slice TA t.args.length tc))) := Lib.hid fun W hW => ⟨⟨(hW.cell (p := ⟨b, _, none⟩) hb).trans p0, (hW.cell (p := ⟨b, _, none⟩) hb).trans p1, (hW.cell (p := ⟨b, _, none⟩) hb).trans p2, (hW.cell (p := ⟨b, _, none⟩) hb).trans p3⟩, (hW.cell (p := ⟨b, _, none⟩) hb).trans t0, (hW.cell (p := ⟨b, _, none⟩) hb).trans t1, (hW.cell (p := ⟨b, _, none⟩) hb).trans t2, (hW.cell (p := ⟨b, _, none⟩) hb).trans t3⟩
  have hBL0 : Below w.heap.size w (((((w.alloc (.cells #[.slice OA on oc, .int .i64 q, .int .i64 u, .bool c, .bool d, .slice CA 0 cc] 43)).alloc (.cells #[.int .i64 gk, .int .i64 gn, .string gs, .slice (some ⟨b, off, none⟩) 2 ac] 26)).alloc (.cells #[.slice none 0 0, .int .i64 0, .int .i64 0, .bool false, .bool false, .slice none 0 0] 43)).alloc (.cells #[.int .i64 0, .int .i64 0, .string ⟨#[]⟩, .slice none 0 0] 26))) := (((((Below.refl _ w).alloc (Nat.le_refl _) _).alloc (by simp) _).alloc (by simp; omega) _).alloc (by simp; omega) _)
  have hBK0 : Bks (((((w.alloc (.cells #[.slice OA on oc, .int .i64 q, .int .i64 u, .bool c, .bool d, .slice CA 0 cc] 43)).alloc (.cells #[.int .i64 gk, .int .i64 gn, .string gs, .slice (some ⟨b, off, none⟩) 2 ac] 26)).alloc (.cells #[.slice none 0 0, .int .i64 0, .int .i64 0, .bool false, .bool false, .slice none 0 0] 43)).alloc (.cells #[.int .i64 0, .int .i64 0, .string ⟨#[]⟩, .slice none 0 0] 26))) [(w.heap.size + 1 + 1 + 1, [.int .i64 0, .int .i64 0, .string ⟨#[]⟩, .slice none 0 0]), (w.heap.size + 1 + 1, [.slice none 0 0, .int .i64 0, .int .i64 0, .bool false, .bool false, .slice none 0 0]), (w.heap.size + 1, [.int .i64 gk, .int .i64 gn, .string gs, .slice (some ⟨b, off, none⟩) 2 ac]), (w.heap.size, [.slice OA on oc, .int .i64 q, .int .i64 u, .bool c, .bool d, .slice CA 0 cc])] := (((((Bks.nil w).new [.slice OA on oc, .int .i64 q, .int .i64 u, .bool c, .bool d, .slice CA 0 cc] 43 rfl).new [.int .i64 gk, .int .i64 gn, .string gs, .slice (some ⟨b, off, none⟩) 2 ac] 26 (by simp)).new [.slice none 0 0, .int .i64 0, .int .i64 0, .bool false, .bool false, .slice none 0 0] 43 (by simp)).new [.int .i64 0, .int .i64 0, .string ⟨#[]⟩, .slice none 0 0] 26 (by simp))
  have HBL0 := Lib.hid hBL0
  have HBK0 := Lib.hid hBK0
  clear hA hpk htk hPA hTA p0 p1 p2 p3 t0 t1 t2 t3 hBL0 hBK0
  go_enter Tryz.func116, Tryz.ntmps116
  go_wp2_with fail
  go_loopw [19] (fun i wr => ∃ k : Nat, k ≤ 2 ∧ i = .int .i64 k ∧ Hid (Below w.heap.size w wr) ∧ Hid (Bks wr [(w.heap.size + 1 + 1 + 1, [.int .i64 0, .int .i64 0, .string ⟨#[]⟩, .slice none 0 0]), (w.heap.size + 1 + 1, [.slice none 0 0, .int .i64 0, .int .i64 0, .bool false, .bool false, .slice none 0 0]), (w.heap.size + 1, [.int .i64 gk, .int .i64 gn, .string gs, .slice (some ⟨b, off, none⟩) 2 ac]), (w.heap.size, [.slice OA on oc, .int .i64 q, .int .i64 u, .bool c, .bool d, .slice CA 0 cc])])) (fun i _ => 2 - (intOf i).toNat)
  case atStart => exact ⟨0, by decide, rfl, HBL0, HBK0⟩
  case round =>
    obtain ⟨k, hk, rfl, HBL, HBK⟩ := hrel
    have hcs := HMP.out wr HBL.out
    rcases (show k = 0 ∨ k = 1 ∨ k = 2 by omega) with rfl | rfl | rfl
    · obtain ⟨⟨c0, c1, c2, c3⟩, -⟩ := hcs
      have hbw : b < wr.heap.size := Nat.lt_of_lt_of_le hb HBL.out.size
      have hBA : Below wr.heap.size wr (wr.alloc (.cells #[.int .i64 0, .int .i64 p.num, .string p.name, .slice PA p.args.length pc] 26)) := (Below.refl _ _).alloc (Nat.le_refl _) _
      have HUB := Lib.hid (HUP.out (wr.alloc (.cells #[.int .i64 0, .int .i64 p.num, .string p.name, .slice PA p.args.length pc] 26)) (wr.heap.size + 1) (HBL.out.trans (hBA.mono HBL.out.size)) (by simp))
      go_wp2_with fail
      refine HUB.out.mono ?_; rintro e w1 ⟨rfl, hB1⟩
      have hB01 : Below wr.heap.size wr w1 := (hBA.alloc (by simp) _).trans (hB1.mono (by simp; omega))
      have HBL1 := Lib.hid (HBL.out.trans (hB01.mono HBL.out.size))
      have HBK1 := Lib.hid (HBK.out.call hB01)
      go_wp2_with fail
      go_roundw
      case rel => exact ⟨1, by omega, by go_num, HBL1, HBK1⟩
      case measure => simp [intOf]
    · obtain ⟨-, ⟨c0, c1, c2, c3⟩⟩ := hcs
      have hbw : b < wr.heap.size := Nat.lt_of_lt_of_le hb HBL.out.size
      have hBA : Below wr.heap.size wr (wr.alloc (.cells #[.int .i64 0, .int .i64 t.num, .string t.name, .slice TA t.args.length tc] 26)) := (Below.refl _ _).alloc (Nat.le_refl _) _
      have HUB := Lib.hid (HUT.out (wr.alloc (.cells #[.int .i64 0, .int .i64 t.num, .string t.name, .slice TA t.args.length tc] 26)) (wr.heap.size + 1) (HBL.out.trans (hBA.mono HBL.out.size)) (by simp))
      go_wp2_with fail
      refine HUB.out.mono ?_; rintro e w1 ⟨rfl, hB1⟩
      have hB01 : Below wr.heap.size wr w1 := (hBA.alloc (by simp) _).trans (hB1.mono (by simp; omega))
      have HBL1 := Lib.hid (HBL.out.trans (hB01.mono HBL.out.size))
      have HBK1 := Lib.hid (HBK.out.call hB01)
      go_wp2_with fail
      go_roundw
      case rel => exact ⟨2, by omega, by go_num, HBL1, HBK1⟩
      case measure => simp [intOf]
    · obtain ⟨⟨c0, c1, c2, c3⟩, -⟩ := hcs
      have hbw : b < wr.heap.size := Nat.lt_of_lt_of_le hb HBL.out.size
      have hBA : Below wr.heap.size wr (wr.alloc (.cells #[.int .i64 0, .int .i64 p.num, .string p.name, .slice PA p.args.length pc] 26)) := (Below.refl _ _).alloc (Nat.le_refl _) _
      have HIA : Hid (Calls Tryz.prog 156 #[.agg #[.int .i64 0, .int .i64 p.num, .string p.name, .slice PA p.args.length pc]] (wr.alloc (.cells #[.int .i64 0, .int .i64 p.num, .string p.name, .slice PA p.args.length pc] 26)) fun e w' => e = .returned (.bool false) ∧ Below ((wr.alloc (.cells #[.int .i64 0, .int .i64 p.num, .string p.name, .slice PA p.args.length pc] 26))).heap.size ((wr.alloc (.cells #[.int .i64 0, .int .i64 p.num, .string p.name, .slice PA p.args.length pc] 26))) w') := Lib.hid (f_isAtom (.mk 0 p.num p.name p.args) PA pc (wr.alloc (.cells #[.int .i64 0, .int .i64 p.num, .string p.name, .slice PA p.args.length pc] 26)))
      go_wp2_with fail
      refine HIA.out.mono ?_; rintro e w5 ⟨rfl, hB1⟩
      have hB01 : Below wr.heap.size wr w5 := hBA.trans (hB1.mono (by simp))
      have HBL5 := Lib.hid (HBL.out.trans (hB01.mono HBL.out.size))
      have HBK5 := Lib.hid (HBK.out.call hB01)
      clear hB1 hB01 hBA HIA HBL HBK c0 c1 c2 c3
      have e0_0 : w5.cell? ⟨w.heap.size, 0, none⟩ = some (.slice OA on oc) := HBK5.out.cell 3 0 rfl rfl
      have e0_1 : w5.cell? ⟨w.heap.size, 1, none⟩ = some (.int .i64 q) := HBK5.out.cell 3 1 rfl rfl
      have e0_2 : w5.cell? ⟨w.heap.size, 2, none⟩ = some (.int .i64 u) := HBK5.out.cell 3 2 rfl rfl
      have e0_3 : w5.cell? ⟨w.heap.size, 3, none⟩ = some (.bool c) := HBK5.out.cell 3 3 rfl rfl
      have e0_4 : w5.cell? ⟨w.heap.size, 4, none⟩ = some (.bool d) := HBK5.out.cell 3 4 rfl rfl
      have e0_5 : w5.cell? ⟨w.heap.size, 5, none⟩ = some (.slice CA 0 cc) := HBK5.out.cell 3 5 rfl rfl
      have e2_0 : w5.cell? ⟨w.heap.size + 1 + 1, 0, none⟩ = some (.slice none 0 0) := HBK5.out.cell 1 0 rfl rfl
      have e2_1 : w5.cell? ⟨w.heap.size + 1 + 1, 1, none⟩ = some (.int .i64 0) := HBK5.out.cell 1 1 rfl rfl
      have e2_2 : w5.cell? ⟨w.heap.size + 1 + 1, 2, none⟩ = some (.int .i64 0) := HBK5.out.cell 1 2 rfl rfl
      have e2_3 : w5.cell? ⟨w.heap.size + 1 + 1, 3, none⟩ = some (.bool false) := HBK5.out.cell 1 3 rfl rfl
      have e2_4 : w5.cell? ⟨w.heap.size + 1 + 1, 4, none⟩ = some (.bool false) := HBK5.out.cell 1 4 rfl rfl
      have e2_5 : w5.cell? ⟨w.heap.size + 1 + 1, 5, none⟩ = some (.slice none 0 0) := HBK5.out.cell 1 5 rfl rfl
      have e3_0 : w5.cell? ⟨w.heap.size + 1 + 1 + 1, 0, none⟩ = some (.int .i64 0) := HBK5.out.cell 0 0 rfl rfl
      have e3_1 : w5.cell? ⟨w.heap.size + 1 + 1 + 1, 1, none⟩ = some (.int .i64 0) := HBK5.out.cell 0 1 rfl rfl
      have e3_2 : w5.cell? ⟨w.heap.size + 1 + 1 + 1, 2, none⟩ = some (.string ⟨#[]⟩) := HBK5.out.cell 0 2 rfl rfl
      have e3_3 : w5.cell? ⟨w.heap.size + 1 + 1 + 1, 3, none⟩ = some (.slice none 0 0) := HBK5.out.cell 0 3 rfl rfl
      have e2f0 : w5.frozen? ⟨w.heap.size + 1 + 1, 0, none⟩ = false := HBK5.out.fz 1 0 rfl
      have e2f1 : w5.frozen? ⟨w.heap.size + 1 + 1, 1, none⟩ = false := HBK5.out.fz 1 1 rfl
      have e2f2 : w5.frozen? ⟨w.heap.size + 1 + 1, 2, none⟩ = false := HBK5.out.fz 1 2 rfl
      have e2f3 : w5.frozen? ⟨w.heap.size + 1 + 1, 3, none⟩ = false := HBK5.out.fz 1 3 rfl
      have e2f4 : w5.frozen? ⟨w.heap.size + 1 + 1, 4, none⟩ = false := HBK5.out.fz 1 4 rfl
      have e2f5 : w5.frozen? ⟨w.heap.size + 1 + 1, 5, none⟩ = false := HBK5.out.fz 1 5 rfl
      have e3f0 : w5.frozen? ⟨w.heap.size + 1 + 1 + 1, 0, none⟩ = false := HBK5.out.fz 0 0 rfl
      have e3f1 : w5.frozen? ⟨w.heap.size + 1 + 1 + 1, 1, none⟩ = false := HBK5.out.fz 0 1 rfl
      have e3f2 : w5.frozen? ⟨w.heap.size + 1 + 1 + 1, 2, none⟩ = false := HBK5.out.fz 0 2 rfl
      have e3f3 : w5.frozen? ⟨w.heap.size + 1 + 1 + 1, 3, none⟩ = false := HBK5.out.fz 0 3 rfl
      have e0l : w.heap.size < w5.heap.size := HBK5.out.lt 3 rfl
      have e2l : w.heap.size + 1 + 1 < w5.heap.size := HBK5.out.lt 1 rfl
      have e3l : w.heap.size + 1 + 1 + 1 < w5.heap.size := HBK5.out.lt 0 rfl
      have HBKZ : Hid (Bks (((((((((((w5.setCell ⟨w.heap.size + 1 + 1, 0, none⟩ (.slice OA on oc)).setCell ⟨w.heap.size + 1 + 1, 1, none⟩ (.int .i64 q)).setCell ⟨w.heap.size + 1 + 1, 2, none⟩ (.int .i64 u)).setCell ⟨w.heap.size + 1 + 1, 3, none⟩ (.bool c)).setCell ⟨w.heap.size + 1 + 1, 4, none⟩ (.bool d)).setCell ⟨w.heap.size + 1 + 1, 5, none⟩ (.slice CA 0 cc)).setCell ⟨w.heap.size + 1 + 1 + 1, 0, none⟩ (.int .i64 0)).setCell ⟨w.heap.size + 1 + 1 + 1, 1, none⟩ (.int .i64 0)).setCell ⟨w.heap.size + 1 + 1 + 1, 2, none⟩ (.string ⟨#[]⟩)).setCell ⟨w.heap.size + 1 + 1 + 1, 3, none⟩ (.slice none 0 0))) [(w.heap.size + 1 + 1 + 1, [.int .i64 0, .int .i64 0, .string ⟨#[]⟩, .slice none 0 0]), (w.heap.size + 1 + 1, [.slice OA on oc, .int .i64 q, .int .i64 u, .bool c, .bool d, .slice CA 0 cc]), (w.heap.size + 1, [.int .i64 gk, .int .i64 gn, .string gs, .slice (some ⟨b, off, none⟩) 2 ac]), (w.heap.size, [.slice OA on oc, .int .i64 q, .int .i64 u, .bool c, .bool d, .slice CA 0 cc])]) := Lib.hid ((HBK5.out.set6 1 rfl (.slice OA on oc) (.int .i64 q) (.int .i64 u) (.bool c) (.bool d) (.slice CA 0 cc)).set4 0 rfl (.int .i64 0) (.int .i64 0) (.string ⟨#[]⟩) (.slice none 0 0))
      have HBLZ : Hid (Below w.heap.size w (((((((((((w5.setCell ⟨w.heap.size + 1 + 1, 0, none⟩ (.slice OA on oc)).setCell ⟨w.heap.size + 1 + 1, 1, none⟩ (.int .i64 q)).setCell ⟨w.heap.size + 1 + 1, 2, none⟩ (.int .i64 u)).setCell ⟨w.heap.size + 1 + 1, 3, none⟩ (.bool c)).setCell ⟨w.heap.size + 1 + 1, 4, none⟩ (.bool d)).setCell ⟨w.heap.size + 1 + 1, 5, none⟩ (.slice CA 0 cc)).setCell ⟨w.heap.size + 1 + 1 + 1, 0, none⟩ (.int .i64 0)).setCell ⟨w.heap.size + 1 + 1 + 1, 1, none⟩ (.int .i64 0)).setCell ⟨w.heap.size + 1 + 1 + 1, 2, none⟩ (.string ⟨#[]⟩)).setCell ⟨w.heap.size + 1 + 1 + 1, 3, none⟩ (.slice none 0 0)))) := Lib.hid ((((((((((HBL5.out.setCell (p := ⟨w.heap.size + 1 + 1, _, none⟩) (show w.heap.size ≤ w.heap.size + 1 + 1 by omega) _).setCell (p := ⟨w.heap.size + 1 + 1, _, none⟩) (show w.heap.size ≤ w.heap.size + 1 + 1 by omega) _).setCell (p := ⟨w.heap.size + 1 + 1, _, none⟩) (show w.heap.size ≤ w.heap.size + 1 + 1 by omega) _).setCell (p := ⟨w.heap.size + 1 + 1, _, none⟩) (show w.heap.size ≤ w.heap.size + 1 + 1 by omega) _).setCell (p := ⟨w.heap.size + 1 + 1, _, none⟩) (show w.heap.size ≤ w.heap.size + 1 + 1 by omega) _).setCell (p := ⟨w.heap.size + 1 + 1, _, none⟩) (show w.heap.size ≤ w.heap.size + 1 + 1 by omega) _).setCell (p := ⟨w.heap.size + 1 + 1 + 1, _, none⟩) (show w.heap.size ≤ w.heap.size + 1 + 1 + 1 by omega) _).setCell (p := ⟨w.heap.size + 1 + 1 + 1, _, none⟩) (show w.heap.size ≤ w.heap.size + 1 + 1 + 1 by omega) _).setCell (p := ⟨w.heap.size + 1 + 1 + 1, _, none⟩) (show w.heap.size ≤ w.heap.size + 1 + 1 + 1 by omega) _).setCell (p := ⟨w.heap.size + 1 + 1 + 1, _, none⟩) (show w.heap.size ≤ w.heap.size + 1 + 1 + 1 by omega) _)
      obtain ⟨wz, HWZ⟩ : ∃ wz, Hid (wz = ((((((((((w5.setCell ⟨w.heap.size + 1 + 1, 0, none⟩ (.slice OA on oc)).setCell ⟨w.heap.size + 1 + 1, 1, none⟩ (.int .i64 q)).setCell ⟨w.heap.size + 1 + 1, 2, none⟩ (.int .i64 u)).setCell ⟨w.heap.size + 1 + 1, 3, none⟩ (.bool c)).setCell ⟨w.heap.size + 1 + 1, 4, none⟩ (.bool d)).setCell ⟨w.heap.size + 1 + 1, 5, none⟩ (.slice CA 0 cc)).setCell ⟨w.heap.size + 1 + 1 + 1, 0, none⟩ (.int .i64 0)).setCell ⟨w.heap.size + 1 + 1 + 1, 1, none⟩ (.int .i64 0)).setCell ⟨w.heap.size + 1 + 1 + 1, 2, none⟩ (.string ⟨#[]⟩)).setCell ⟨w.heap.size + 1 + 1 + 1, 3, none⟩ (.slice none 0 0))) := ⟨_, Lib.hid rfl⟩
      rw [← HWZ.out] at HBKZ HBLZ
      go_wp2_with fail
      go_loopw [14, 63] (fun v i wr => v = .slice none 0 0 ∧ i = .int .i64 0 ∧ wr = w5) (fun _ _ _ => 0)
      case atStart => exact ⟨rfl, rfl, rfl⟩
      case round =>
        obtain ⟨rfl, rfl, rfl⟩ := hrel
        go_wp2_with fail
        rw [← HWZ.out]
        have m2_0 : wz.cell? ⟨w.heap.size + 1 + 1, 0, none⟩ = some (.slice OA on oc) := HBKZ.out.cell 1 0 rfl rfl
        have m2_1 : wz.cell? ⟨w.heap.size + 1 + 1, 1, none⟩ = some (.int .i64 q) := HBKZ.out.cell 1 1 rfl rfl
        have m2_2 : wz.cell? ⟨w.heap.size + 1 + 1, 2, none⟩ = some (.int .i64 u) := HBKZ.out.cell 1 2 rfl rfl
        have m2_3 : wz.cell? ⟨w.heap.size + 1 + 1, 3, none⟩ = some (.bool c) := HBKZ.out.cell 1 3 rfl rfl
        have m2_4 : wz.cell? ⟨w.heap.size + 1 + 1, 4, none⟩ = some (.bool d) := HBKZ.out.cell 1 4 rfl rfl
        have m2_5 : wz.cell? ⟨w.heap.size + 1 + 1, 5, none⟩ = some (.slice CA 0 cc) := HBKZ.out.cell 1 5 rfl rfl
        have m3_0 : wz.cell? ⟨w.heap.size + 1 + 1 + 1, 0, none⟩ = some (.int .i64 0) := HBKZ.out.cell 0 0 rfl rfl
        have m3_1 : wz.cell? ⟨w.heap.size + 1 + 1 + 1, 1, none⟩ = some (.int .i64 0) := HBKZ.out.cell 0 1 rfl rfl
        have m3_2 : wz.cell? ⟨w.heap.size + 1 + 1 + 1, 2, none⟩ = some (.string ⟨#[]⟩) := HBKZ.out.cell 0 2 rfl rfl
        have m3_3 : wz.cell? ⟨w.heap.size + 1 + 1 + 1, 3, none⟩ = some (.slice none 0 0) := HBKZ.out.cell 0 3 rfl rfl
        exact bodyPost_ret (v := .tuple #[.agg #[.slice OA on oc, .int .i64 q, .int .i64 u, .bool c, .bool d, .slice CA 0 cc], .slice none 0 0, .agg #[.int .i64 0, .int .i64 0, .string ⟨#[]⟩, .slice none 0 0], .int .i64 0]) (by simp [results, Tryz.results116, go_sem, m2_0, m2_1, m2_2, m2_3, m2_4, m2_5, m3_0, m3_1, m3_2, m3_3]) rfl ⟨rfl, HBLZ.out⟩
end Go.Proofs.YtfkhcpeahdkafaaGreat
