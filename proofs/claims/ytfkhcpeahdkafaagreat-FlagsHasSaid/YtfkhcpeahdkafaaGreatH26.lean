/- Flags: current_prolog_flag with a variable. -/
import Derived.Test.YtfkhcpeahdkafaaGreatH25
import Derived.Test.YtfkhcpeahdkafaaGreatH13
import Derived.Test.YtfkhcpeahdkafaaGreatH20
namespace Hb
open Go Go.RowKit
def flagAns (f : FlR) (k : Nat) : Tm := structT ⟨#[99, 117, 114, 114, 101, 110, 116, 95, 112, 114, 111, 108, 111, 103, 95, 102, 108, 97, 103]⟩ [atomT (fN k), fVal f k]
theorem fIx_empty : fIx ⟨#[]⟩ = 9 := by
  rcases nm_cases ⟨#[]⟩ with ⟨k, hk, _, hs⟩ | ⟨h, _⟩
  · have e := congrArg ByteArray.size (show (⟨#[]⟩ : ByteArray) = fN k from ba_ext hs)
    rcases (show k = 0 ∨ k = 1 ∨ k = 2 ∨ k = 3 ∨ k = 4 ∨ k = 5 ∨ k = 6 ∨ k = 7 ∨ k = 8 by omega) with rfl | rfl | rfl | rfl | rfl | rfl | rfl | rfl | rfl <;> exact absurd e (by decide)
  · exact h
theorem fN_small (k : Nat) (hk : k < 9) : (fN k).size ≤ 100 := by
  rcases (show k = 0 ∨ k = 1 ∨ k = 2 ∨ k = 3 ∨ k = 4 ∨ k = 5 ∨ k = 6 ∨ k = 7 ∨ k = 8 by omega) with rfl | rfl | rfl | rfl | rfl | rfl | rfl | rfl | rfl <;> decide
end Hb
namespace Go.Proofs.YtfkhcpeahdkafaaGreat
open Go.RowKit Hb
set_option maxRecDepth 100000
set_option maxHeartbeats 6400000 in
theorem f_listFlags_v (OA : Option Addr) (on oc : Nat) (q u : Int) (c d : Bool) (CA : Option Addr) (cn cc : Nat) (gk gn : Int) (gs : ByteArray) (AA : Option Addr) (ac : Nat) (pn : Int) (pl : List Tm) (t : Tm) (w : World)
    (hf : flOk ⟨q, u, c, d⟩ = true) (hA : TmsAt w.heap.size w AA [.mk 0 pn ⟨#[]⟩ pl, t]) :
    Calls Tryz.prog 118 #[.agg #[.slice OA on oc, .int .i64 q, .int .i64 u, .bool c, .bool d, .slice CA cn cc], .slice AA 2 ac, .agg #[.int .i64 gk, .int .i64 gn, .string gs, .slice AA 2 ac]] w fun e w' => ∃ RA rc, e = .returned (rvS OA on oc q u c d CA cn cc RA 9 rc).val ∧ Below w.heap.size w w' ∧ NewT w w' RA ((List.range 9).map (flagAns ⟨q, u, c, d⟩)) := by
  unfold rvS RV.val
  dsimp only
  have HFO := Lib.hid hf
  obtain ⟨b, off, PA, pc, e1, hb, p0, p1, p2, p3, hPA⟩ := hA.get 0 (show 0 < 2 by omega)
  subst e1
  simp only [List.getElem_cons_zero, Nat.zero_mul, Nat.add_zero] at p0 p1 p2 p3 hPA
  have p0 : w.cell? ⟨b, off, none⟩ = some (.int .i64 0) := p0
  have p1 : w.cell? ⟨b, off + 1, none⟩ = some (.int .i64 pn) := p1
  have p2 : w.cell? ⟨b, off + 2, none⟩ = some (.string ⟨#[]⟩) := p2
  have p3 : w.cell? ⟨b, off + 3, none⟩ = some (.slice PA pl.length pc) := p3
  have HUP : Hid (∀ W G, Below w.heap.size w W → W.heap.size = G → Calls Tryz.prog 152 #[.slice (some ⟨G, 0, none⟩) 1 1] (W.alloc (.cells #[.int .i64 0, .int .i64 pn, .string ⟨#[]⟩, .slice PA pl.length pc] 26)) fun e w' => e = .returned (.bool true) ∧ Below (W.alloc (.cells #[.int .i64 0, .int .i64 pn, .string ⟨#[]⟩, .slice PA pl.length pc] 26)).heap.size (W.alloc (.cells #[.int .i64 0, .int .i64 pn, .string ⟨#[]⟩, .slice PA pl.length pc] 26)) w') := Lib.hid fun W G hW hG => by
    subst hG
    exact f_unb1 (.mk 0 pn ⟨#[]⟩ pl) PA pc W ((hPA.keep hW).mono hW.size)
  have HIA : Hid (∀ W, Calls Tryz.prog 156 #[.agg #[.int .i64 0, .int .i64 pn, .string ⟨#[]⟩, .slice PA pl.length pc]] W fun e w' => e = .returned (.bool false) ∧ Below W.heap.size W w') := Lib.hid fun W => f_isAtom (.mk 0 pn ⟨#[]⟩ pl) PA pc W
  have HFD : Hid (∀ W, Calls Tryz.prog 45 #[.string ⟨#[]⟩] W fun e w' => e = .returned (.tuple #[flagZ, .bool false]) ∧ Below W.heap.size W w') := Lib.hid fun W => (f_find ⟨#[]⟩ W).mono fun e w' h => by
    obtain ⟨⟨v, he, _, h2⟩, hB⟩ := h
    have h9 : ¬ fIx ⟨#[]⟩ < 9 := by rw [fIx_empty]; omega
    rw [h2 h9, show decide (fIx ⟨#[]⟩ < 9) = false from decide_eq_false h9] at he
    exact ⟨he, hB⟩
  unfold flagZ at HFD
  have hBL0 : Below w.heap.size w (((((w.alloc (.cells #[.slice OA on oc, .int .i64 q, .int .i64 u, .bool c, .bool d, .slice CA cn cc] 43)).alloc (.cells #[.int .i64 gk, .int .i64 gn, .string gs, .slice (some ⟨b, off, none⟩) 2 ac] 26)).alloc (.cells #[.slice none 0 0, .int .i64 0, .int .i64 0, .bool false, .bool false, .slice none 0 0] 43)).alloc (.cells #[.int .i64 0, .int .i64 0, .string ⟨#[]⟩, .slice none 0 0] 26))) := (((((Below.refl _ w).alloc (Nat.le_refl _) _).alloc (by simp) _).alloc (by simp; omega) _).alloc (by simp; omega) _)
  have hBK0 : Bks (((((w.alloc (.cells #[.slice OA on oc, .int .i64 q, .int .i64 u, .bool c, .bool d, .slice CA cn cc] 43)).alloc (.cells #[.int .i64 gk, .int .i64 gn, .string gs, .slice (some ⟨b, off, none⟩) 2 ac] 26)).alloc (.cells #[.slice none 0 0, .int .i64 0, .int .i64 0, .bool false, .bool false, .slice none 0 0] 43)).alloc (.cells #[.int .i64 0, .int .i64 0, .string ⟨#[]⟩, .slice none 0 0] 26))) [(w.heap.size + 1 + 1 + 1, [.int .i64 0, .int .i64 0, .string ⟨#[]⟩, .slice none 0 0]), (w.heap.size + 1 + 1, [.slice none 0 0, .int .i64 0, .int .i64 0, .bool false, .bool false, .slice none 0 0]), (w.heap.size + 1, [.int .i64 gk, .int .i64 gn, .string gs, .slice (some ⟨b, off, none⟩) 2 ac]), (w.heap.size, [.slice OA on oc, .int .i64 q, .int .i64 u, .bool c, .bool d, .slice CA cn cc])] := (((((Bks.nil w).new [.slice OA on oc, .int .i64 q, .int .i64 u, .bool c, .bool d, .slice CA cn cc] 43 rfl).new [.int .i64 gk, .int .i64 gn, .string gs, .slice (some ⟨b, off, none⟩) 2 ac] 26 (by simp)).new [.slice none 0 0, .int .i64 0, .int .i64 0, .bool false, .bool false, .slice none 0 0] 43 (by simp)).new [.int .i64 0, .int .i64 0, .string ⟨#[]⟩, .slice none 0 0] 26 (by simp))
  have hs0 : (((((w.alloc (.cells #[.slice OA on oc, .int .i64 q, .int .i64 u, .bool c, .bool d, .slice CA cn cc] 43)).alloc (.cells #[.int .i64 gk, .int .i64 gn, .string gs, .slice (some ⟨b, off, none⟩) 2 ac] 26)).alloc (.cells #[.slice none 0 0, .int .i64 0, .int .i64 0, .bool false, .bool false, .slice none 0 0] 43)).alloc (.cells #[.int .i64 0, .int .i64 0, .string ⟨#[]⟩, .slice none 0 0] 26))).heap.size = w.heap.size + 1 + 1 + 1 + 1 := by simp
  clear hA hPA hf
  have p0 := (hBL0.cell (p := ⟨b, _, none⟩) hb).trans p0
  have p1 := (hBL0.cell (p := ⟨b, _, none⟩) hb).trans p1
  have p2 := (hBL0.cell (p := ⟨b, _, none⟩) hb).trans p2
  have p3 := (hBL0.cell (p := ⟨b, _, none⟩) hb).trans p3
  have hb0 : b < (((((w.alloc (.cells #[.slice OA on oc, .int .i64 q, .int .i64 u, .bool c, .bool d, .slice CA cn cc] 43)).alloc (.cells #[.int .i64 gk, .int .i64 gn, .string gs, .slice (some ⟨b, off, none⟩) 2 ac] 26)).alloc (.cells #[.slice none 0 0, .int .i64 0, .int .i64 0, .bool false, .bool false, .slice none 0 0] 43)).alloc (.cells #[.int .i64 0, .int .i64 0, .string ⟨#[]⟩, .slice none 0 0] 26))).heap.size := Nat.lt_of_lt_of_le hb hBL0.size
  go_enter Tryz.func118, Tryz.ntmps118
  go_wp2_with fail
  obtain ⟨W0, HW0⟩ : ∃ W0, Hid (W0 = ((((w.alloc (.cells #[.slice OA on oc, .int .i64 q, .int .i64 u, .bool c, .bool d, .slice CA cn cc] 43)).alloc (.cells #[.int .i64 gk, .int .i64 gn, .string gs, .slice (some ⟨b, off, none⟩) 2 ac] 26)).alloc (.cells #[.slice none 0 0, .int .i64 0, .int .i64 0, .bool false, .bool false, .slice none 0 0] 43)).alloc (.cells #[.int .i64 0, .int .i64 0, .string ⟨#[]⟩, .slice none 0 0] 26))) := ⟨_, Lib.hid rfl⟩
  rw [← HW0.out] at hBL0 hBK0 hs0 ⊢
  clear p0 p1 p2 p3 hb0
  have HBL0 := Lib.hid hBL0
  have HBK0 := Lib.hid hBK0
  have hBA : Below W0.heap.size W0 (W0.alloc (.cells #[.int .i64 0, .int .i64 pn, .string ⟨#[]⟩, .slice PA pl.length pc] 26)) := (Below.refl _ _).alloc (Nat.le_refl _) _
  have HQ1 := Lib.hid (HUP.out (W0.alloc (.cells #[.int .i64 0, .int .i64 pn, .string ⟨#[]⟩, .slice PA pl.length pc] 26)) (w.heap.size + 1 + 1 + 1 + 1 + 1) (HBL0.out.trans (hBA.mono HBL0.out.size)) (by rw [World.size_alloc, hs0]))
  have HKA : Hid (Bks (W0.alloc (.cells #[.int .i64 0, .int .i64 pn, .string ⟨#[]⟩, .slice PA pl.length pc] 26)) [(w.heap.size + 1 + 1 + 1 + 1, [.int .i64 0, .int .i64 pn, .string ⟨#[]⟩, .slice PA pl.length pc]), (w.heap.size + 1 + 1 + 1, [.int .i64 0, .int .i64 0, .string ⟨#[]⟩, .slice none 0 0]), (w.heap.size + 1 + 1, [.slice none 0 0, .int .i64 0, .int .i64 0, .bool false, .bool false, .slice none 0 0]), (w.heap.size + 1, [.int .i64 gk, .int .i64 gn, .string gs, .slice (some ⟨b, off, none⟩) 2 ac]), (w.heap.size, [.slice OA on oc, .int .i64 q, .int .i64 u, .bool c, .bool d, .slice CA cn cc])]) := Lib.hid (HBK0.out.new [.int .i64 0, .int .i64 pn, .string ⟨#[]⟩, .slice PA pl.length pc] 26 hs0)
  clear HW0 hBL0 hBK0
  go_wp2_with fail
  refine HQ1.out.mono ?_; rintro e w1 ⟨rfl, hB1⟩
  have hB01 : Below W0.heap.size W0 w1 := (hBA.alloc (by simp) _).trans (hB1.mono (by simp; omega))
  have HBL1 := Lib.hid (HBL0.out.trans (hB01.mono HBL0.out.size))
  have HBK1 := Lib.hid (HKA.out.call (((Below.refl _ _).alloc (Nat.le_refl _) _).trans (hB1.mono (by simp))))
  clear hB1 hB01 hBA HKA HQ1 HBL0 HBK0
  have e4_0 : w1.cell? ⟨w.heap.size + 1 + 1 + 1 + 1, 0, none⟩ = some (.int .i64 0) := HBK1.out.cell 0 0 rfl rfl
  have e4_1 : w1.cell? ⟨w.heap.size + 1 + 1 + 1 + 1, 1, none⟩ = some (.int .i64 pn) := HBK1.out.cell 0 1 rfl rfl
  have e4_2 : w1.cell? ⟨w.heap.size + 1 + 1 + 1 + 1, 2, none⟩ = some (.string ⟨#[]⟩) := HBK1.out.cell 0 2 rfl rfl
  have e4_3 : w1.cell? ⟨w.heap.size + 1 + 1 + 1 + 1, 3, none⟩ = some (.slice PA pl.length pc) := HBK1.out.cell 0 3 rfl rfl
  go_wp2_with fail
  refine (HFD.out _).mono ?_; rintro e w2 ⟨rfl, hB2⟩
  have HBL2 := Lib.hid (HBL1.out.trans (hB2.mono HBL1.out.size))
  have HBK2 := Lib.hid (HBK1.out.call hB2)
  clear hB2 HBL1 HBK1 e4_0 e4_1 e4_2 e4_3
  have e4_0 : w2.cell? ⟨w.heap.size + 1 + 1 + 1 + 1, 0, none⟩ = some (.int .i64 0) := HBK2.out.cell 0 0 rfl rfl
  have e4_1 : w2.cell? ⟨w.heap.size + 1 + 1 + 1 + 1, 1, none⟩ = some (.int .i64 pn) := HBK2.out.cell 0 1 rfl rfl
  have e4_2 : w2.cell? ⟨w.heap.size + 1 + 1 + 1 + 1, 2, none⟩ = some (.string ⟨#[]⟩) := HBK2.out.cell 0 2 rfl rfl
  have e4_3 : w2.cell? ⟨w.heap.size + 1 + 1 + 1 + 1, 3, none⟩ = some (.slice PA pl.length pc) := HBK2.out.cell 0 3 rfl rfl
  have e4l : w.heap.size + 1 + 1 + 1 + 1 < w2.heap.size := HBK2.out.lt 0 rfl
  go_wp2_with fail
  refine (HIA.out _).mono ?_; rintro e w3 ⟨rfl, hB3⟩
  have hB23 : Below w2.heap.size w2 w3 := ((Below.refl _ _).alloc (Nat.le_refl _) _).trans (hB3.mono (by simp))
  have HBL3 := Lib.hid (HBL2.out.trans (hB23.mono HBL2.out.size))
  have HBK3 := Lib.hid (HBK2.out.call hB23)
  clear hB3 hB23 HBL2 HBK2 HFD HIA e4_0 e4_1 e4_2 e4_3 e4l
  go_wp2_with fail
  refine (f_table _).mono ?_; rintro e wt ⟨g, rfl, hB4, hT4⟩
  have HBLt := Lib.hid (HBL3.out.trans (hB4.mono HBL3.out.size))
  have HBKt := Lib.hid (HBK3.out.call hB4)
  have HFT := Lib.hid hT4
  clear hB4 hT4 HBL3 HBK3
  go_wp2_with fail
  go_loopw [13, 56] (fun v i wr => ∃ (k : Nat) (rs : List TR), k ≤ 9 ∧ i = .int .i64 k ∧ Hid (Below wt.heap.size wt wr) ∧ Hid (OwnR wt.heap.size 26 wr v rs) ∧ Hid (rs.map (·.1) = (List.range k).map (flagAns ⟨q, u, c, d⟩))) (fun _ i _ => 9 - (intOf i).toNat)
  case atStart => exact ⟨0, [], Nat.zero_le _, rfl, Lib.hid (Below.refl _ _), Lib.hid (OwnR.nul _ _ _), Lib.hid rfl⟩
  case round =>
    obtain ⟨k, rs, hk, rfl, HB, HO, HR⟩ := hrel
    obtain ⟨v, hvv⟩ : ∃ v, v = u13 := ⟨_, rfl⟩
    subst hvv
    by_cases hlt : k < 9
    · obtain ⟨FA, fc, vr, hvr, c0, c1, c2, c3, c4, c5, c6, c7⟩ := HFT.out.get k hlt
      have c0 := (HB.out.cell (p := ⟨g, _, none⟩) HFT.out.lt).trans c0
      have c1 := (HB.out.cell (p := ⟨g, _, none⟩) HFT.out.lt).trans c1
      have c2 := (HB.out.cell (p := ⟨g, _, none⟩) HFT.out.lt).trans c2
      have c3 := (HB.out.cell (p := ⟨g, _, none⟩) HFT.out.lt).trans c3
      have c4 := (HB.out.cell (p := ⟨g, _, none⟩) HFT.out.lt).trans c4
      have c5 := (HB.out.cell (p := ⟨g, _, none⟩) HFT.out.lt).trans c5
      have c6 := (HB.out.cell (p := ⟨g, _, none⟩) HFT.out.lt).trans c6
      have c7 := (HB.out.cell (p := ⟨g, _, none⟩) HFT.out.lt).trans c7
      have hgs := fF_cases k hlt
      have HVR := Lib.hid hvr
      obtain ⟨VB, vn, vc, rfl⟩ := VRow_slice hvr
      have hk0 : (0 : Int) ≤ (k : Int) := by omega
      have hk1 : (k : Int) < 9 := by omega
      have HKL := Lib.hid hlt
      have gl : g < wr.heap.size := Nat.lt_of_lt_of_le HFT.out.lt HB.out.size
      have HBKr : Hid (Bks wr [(w.heap.size + 1 + 1 + 1 + 1, [.int .i64 0, .int .i64 pn, .string ⟨#[]⟩, .slice PA pl.length pc]), (w.heap.size + 1 + 1 + 1, [.int .i64 0, .int .i64 0, .string ⟨#[]⟩, .slice none 0 0]), (w.heap.size + 1 + 1, [.slice none 0 0, .int .i64 0, .int .i64 0, .bool false, .bool false, .slice none 0 0]), (w.heap.size + 1, [.int .i64 gk, .int .i64 gn, .string gs, .slice (some ⟨b, off, none⟩) 2 ac]), (w.heap.size, [.slice OA on oc, .int .i64 q, .int .i64 u, .bool c, .bool d, .slice CA cn cc])]) := Lib.hid (HBKt.out.call HB.out)
      have HBLr := Lib.hid (HBLt.out.trans (HB.out.mono HBLt.out.size))
      have e4_0 : wr.cell? ⟨w.heap.size + 1 + 1 + 1 + 1, 0, none⟩ = some (.int .i64 0) := HBKr.out.cell 0 0 rfl rfl
      have e4_1 : wr.cell? ⟨w.heap.size + 1 + 1 + 1 + 1, 1, none⟩ = some (.int .i64 pn) := HBKr.out.cell 0 1 rfl rfl
      have e4_2 : wr.cell? ⟨w.heap.size + 1 + 1 + 1 + 1, 2, none⟩ = some (.string ⟨#[]⟩) := HBKr.out.cell 0 2 rfl rfl
      have e4_3 : wr.cell? ⟨w.heap.size + 1 + 1 + 1 + 1, 3, none⟩ = some (.slice PA pl.length pc) := HBKr.out.cell 0 3 rfl rfl
      have e4l : w.heap.size + 1 + 1 + 1 + 1 < wr.heap.size := HBKr.out.lt 0 rfl
      have HVAL : Hid (∀ W, Below wt.heap.size wt W → Calls Tryz.prog 46 #[flagV k FA fc (.slice VB vn vc), .agg #[.int .i64 q, .int .i64 u, .bool c, .bool d]] W fun e w' => ∃ v, e = .returned v ∧ ((∃ A c', v = tmV (fVal ⟨q, u, c, d⟩ k) A c') ∧ Below W.heap.size W w')) := Lib.hid fun W hW => (f_value ⟨q, u, c, d⟩ HFO.out k HKL.out FA fc (.slice VB vn vc) W (HVR.out.below hW)).mono fun e w' h => by
        obtain ⟨A, c', he, hB⟩ := h
        exact ⟨_, he, ⟨A, c', rfl⟩, hB⟩
      have HATM : Hid (∀ W, Calls Tryz.prog 85 #[.string (fN k)] W fun e w' => ∃ v, e = .returned v ∧ ((∃ A c, v = Value.agg #[.int .i64 2, .int .i64 0, .string (fN k), .slice A 0 c]) ∧ Below W.heap.size W w')) := Lib.hid fun W => (t_atom (fN k) (fN_small k HKL.out) W).mono fun e w' h => by
        obtain ⟨A, c, he, hB⟩ := h
        exact ⟨_, he, ⟨A, c, rfl⟩, hB⟩
      obtain ⟨y, HYE⟩ : ∃ y, Hid (y = fVal ⟨q, u, c, d⟩ k) := ⟨_, Lib.hid rfl⟩
      obtain ⟨x, HXE⟩ : ∃ x, Hid (x = flagAns ⟨q, u, c, d⟩ k) := ⟨_, Lib.hid rfl⟩
      have HSTR : Hid (∀ W g, TmsAt W.heap.size W (some ⟨g, 0, none⟩) [atomT (fN k), y] → Calls Tryz.prog 159 #[.string ⟨#[99, 117, 114, 114, 101, 110, 116, 95, 112, 114, 111, 108, 111, 103, 95, 102, 108, 97, 103]⟩, .slice (some ⟨g, 0, none⟩) 2 2] W fun e w' => ∃ v, e = .returned v ∧ ((∃ A c, v = Value.agg #[.int .i64 x.kind, .int .i64 x.num, .string x.name, .slice A x.args.length c] ∧ NewT W w' A x.args) ∧ Below W.heap.size W w')) := Lib.hid fun W g hT => by
        have := t_struct ⟨#[99, 117, 114, 114, 101, 110, 116, 95, 112, 114, 111, 108, 111, 103, 95, 102, 108, 97, 103]⟩ (some ⟨g, 0, none⟩) 2 _ W (by decide) hT
        rw [HYE.out, show structT ⟨#[99, 117, 114, 114, 101, 110, 116, 95, 112, 114, 111, 108, 111, 103, 95, 102, 108, 97, 103]⟩ [atomT (fN k), fVal ⟨q, u, c, d⟩ k] = x from HXE.out.symm] at this
        exact this.mono fun e w' h => by
          obtain ⟨A, c, he, hB, hN⟩ := h
          exact ⟨_, he, ⟨A, c, rfl, hN⟩, hB⟩
      have HYA : Hid (y.args = []) := Lib.hid (by rw [HYE.out]; exact fVal_args _ _ HKL.out)
      rw [← HYE.out] at HVAL
      unfold flagV tmV at HVAL
      generalize fN k = nm at *
      generalize fFx k = fx at *
      generalize fGF k = gf at *
      generalize fSF k = sf at *
      clear hvr HVR
      obtain ⟨gf', HGF⟩ : ∃ z, Hid (z = gf) := ⟨_, Lib.hid rfl⟩
      rcases hgs with ⟨rfl, rfl⟩ | ⟨fa, fb, rfl, rfl⟩
      · have HKB0 : Hid (Bk (wr.alloc (.cells #[.string nm, .int .i64 fx.kind, .int .i64 fx.num, .string fx.name, .slice FA 0 fc, .slice VB vn vc, .nilFunc, .nilFunc] 72)) wr.heap.size [.string nm, .int .i64 fx.kind, .int .i64 fx.num, .string fx.name, .slice FA 0 fc, .slice VB vn vc, .nilFunc, .nilFunc]) := Lib.hid (Bk.new wr [.string nm, .int .i64 fx.kind, .int .i64 fx.num, .string fx.name, .slice FA 0 fc, .slice VB vn vc, .nilFunc, .nilFunc] 72)
        have hBA : Below wr.heap.size wr (wr.alloc (.cells #[.string nm, .int .i64 fx.kind, .int .i64 fx.num, .string fx.name, .slice FA 0 fc, .slice VB vn vc, .nilFunc, .nilFunc] 72)) := (Below.refl _ _).alloc (Nat.le_refl _) _
        have HQ := Lib.hid (HUP.out (wr.alloc (.cells #[.string nm, .int .i64 fx.kind, .int .i64 fx.num, .string fx.name, .slice FA 0 fc, .slice VB vn vc, .nilFunc, .nilFunc] 72)) (wr.heap.size + 1) (HBLr.out.trans (hBA.mono HBLr.out.size)) (by simp))
        go_wp2_with fail
        refine HQ.out.mono ?_; rintro e w5 ⟨rfl, hB5⟩
        have hB05 : Below wr.heap.size wr w5 := (hBA.alloc (by simp) _).trans (hB5.mono (by simp; omega))
        have HK5 : Hid (Bk w5 wr.heap.size [.string nm, .int .i64 fx.kind, .int .i64 fx.num, .string fx.name, .slice FA 0 fc, .slice VB vn vc, .nilFunc, .nilFunc]) := Lib.hid (HKB0.out.call (((Below.refl _ _).alloc (Nat.le_refl _) _).trans (hB5.mono (by simp))))
        have HB5 := Lib.hid (HB.out.trans (hB05.mono HB.out.size))
        have HW5 := Lib.hid hB05
        have HO5 := Lib.hid (HO.out.below hB05)
        clear hB5 hBA HQ HKB0 c0 c1 c2 c3 c4 c5 c6 c7 e4_0 e4_1 e4_2 e4_3
        have s0_0 : wt.cell? ⟨w.heap.size, 0, none⟩ = some (.slice OA on oc) := HBKt.out.cell 4 0 rfl rfl
        have s0_1 : wt.cell? ⟨w.heap.size, 1, none⟩ = some (.int .i64 q) := HBKt.out.cell 4 1 rfl rfl
        have s0_2 : wt.cell? ⟨w.heap.size, 2, none⟩ = some (.int .i64 u) := HBKt.out.cell 4 2 rfl rfl
        have s0_3 : wt.cell? ⟨w.heap.size, 3, none⟩ = some (.bool c) := HBKt.out.cell 4 3 rfl rfl
        have s0_4 : wt.cell? ⟨w.heap.size, 4, none⟩ = some (.bool d) := HBKt.out.cell 4 4 rfl rfl
        have s0_5 : wt.cell? ⟨w.heap.size, 5, none⟩ = some (.slice CA cn cc) := HBKt.out.cell 4 5 rfl rfl
        have lst : w.heap.size < wt.heap.size := HBKt.out.lt 4 rfl
        go_wp2_with fail
        rename_i K9 hK9
        have HVO : Hid (∀ b, v.ownBlock = some b → b < wr.heap.size ∧ b < w5.heap.size) := Lib.hid fun b e => by
          have := (HO.out.own.lt b e).2
          have := HW5.out.size
          omega
        have HWW : Hid (wt.heap.size ≤ w5.heap.size) := Lib.hid HB5.out.size
        have HRL : Hid (rs.length ≤ 100000) := Lib.hid (by
          have := congrArg List.length HR.out
          simp at this
          omega)
        refine wp_region_any (by kernel_rfl) ?_
        refine wpAny_inv (fun S a X => ∃ (A2 : Option Addr) (c2 : Nat) (A3 : Option Addr) (c3 : Nat) (xA : Option Addr) (xc g1 g2 : Nat) (v2 v3 : Value), a = (⟨#[.agg #[.slice OA on oc, .int .i64 q, .int .i64 u, .bool c, .bool d, .slice CA cn cc], .slice (some ⟨b, off, none⟩) 2 ac, .agg #[.int .i64 gk, .int .i64 gn, .string gs, .slice (some ⟨b, off, none⟩) 2 ac], .pointer (some ⟨w.heap.size, 0, none⟩), undef, .pointer (some ⟨w.heap.size + 1, 0, none⟩), .pointer (some ⟨w.heap.size + 1 + 1, 0, none⟩), .slice none 0 0, .pointer (some ⟨w.heap.size + 1 + 1 + 1, 0, none⟩), .int .i64 0, .pointer (some ⟨w.heap.size + 1 + 1 + 1 + 1, 0, none⟩), .pointer (some ⟨w2.heap.size, 0, none⟩), .bool false, if S 12 = true then v3 else v, undef, .pointer (some ⟨wr.heap.size, 0, none⟩), .slice (some ⟨b, off, none⟩) 2 ac, .pointer (some ⟨b, off, none⟩), .agg #[.int .i64 0, .int .i64 pn, .string ⟨#[]⟩, .slice PA pl.length pc], .agg #[.int .i64 0, .int .i64 pn, .string ⟨#[]⟩, .slice PA pl.length pc], .slice (some ⟨w.heap.size + 1 + 1 + 1 + 1 + 1, 0, none⟩) 1 1, .bool true, .bool false, .bool false, undef, undef, undef, .bool false, undef, undef, undef, undef, undef, undef, undef, .tuple #[.agg #[.string ⟨#[]⟩, .int .i64 0, .int .i64 0, .string ⟨#[]⟩, .slice none 0 0, .slice none 0 0, .nilFunc, .nilFunc], .bool false], .pointer (some ⟨w.heap.size + 1 + 1 + 1 + 1, 2, none⟩), .string ⟨#[]⟩, .tuple #[.agg #[.string ⟨#[]⟩, .int .i64 0, .int .i64 0, .string ⟨#[]⟩, .slice none 0 0, .slice none 0 0, .nilFunc, .nilFunc], .bool false], .agg #[.string ⟨#[]⟩, .int .i64 0, .int .i64 0, .string ⟨#[]⟩, .slice none 0 0, .slice none 0 0, .nilFunc, .nilFunc], .bool false, .agg #[.int .i64 0, .int .i64 pn, .string ⟨#[]⟩, .slice PA pl.length pc], .bool false, .bool false, undef, undef, .bool false, undef, undef, undef, undef, undef, undef, undef, .slice (some ⟨g, 0, none⟩) 9 9, .int .i64 9, .int .i64 (k : Int), .bool true, .pointer (some ⟨g, k * 8, none⟩), .agg #[.string nm, .int .i64 fx.kind, .int .i64 fx.num, .string fx.name, .slice FA 0 fc, .slice VB vn vc, .nilFunc, .nilFunc], .agg #[.int .i64 0, .int .i64 pn, .string ⟨#[]⟩, .slice PA pl.length pc], .slice (some ⟨wr.heap.size + 1, 0, none⟩) 1 1, .bool true, .bool true, undef, undef, undef, undef, undef, .bool true, if S 0 = true then v else u70, if S 1 = true then .pointer (some ⟨wr.heap.size, 0, none⟩) else u71, if S 2 = true then .string nm else u72, if S 3 = true then .agg #[.int .i64 2, .int .i64 0, .string nm, .slice A2 0 c2] else u73, if S 4 = true then .agg #[.string nm, .int .i64 fx.kind, .int .i64 fx.num, .string fx.name, .slice FA 0 fc, .slice VB vn vc, .nilFunc, .nilFunc] else u74, if S 5 = true then .pointer (some ⟨w.heap.size, 1, none⟩) else u75, if S 6 = true then .agg #[.int .i64 q, .int .i64 u, .bool c, .bool d] else u76, if S 7 = true then .agg #[.int .i64 y.kind, .int .i64 y.num, .string y.name, .slice A3 y.args.length c3] else u77, if S 8 = true then .slice (some ⟨g1, 0, none⟩) 2 2 else u78, if S 9 = true then .agg #[.int .i64 x.kind, .int .i64 x.num, .string x.name, .slice xA x.args.length xc] else u79, if S 10 = true then .slice (some ⟨g2, 0, none⟩) 1 1 else u80, if S 11 = true then v2 else u81, u82, undef, undef, undef], []⟩ : Act) ∧ ApI 26 wt w5 wr.heap.size [.string nm, .int .i64 fx.kind, .int .i64 fx.num, .string fx.name, .slice FA 0 fc, .slice VB vn vc, .nilFunc, .nilFunc] v rs x [atomT nm, y] X v2 xA xc g1 g2 (S 8) (S 9) (S 10) (S 11) ∧ (S 11 = true → S 0 = true) ∧ (S 12 = true → S 11 = true) ∧ (S 12 = true → v3 = v2)) (by kernel_rfl) ?step0 ?fin0 13 (fun _ => false) _ _ (by decide) ⟨none, 0, none, 0, none, 0, 0, 0, v, v, rfl, ApI.start x _ v none 0 0 0 HB5.out HK5.out HO5.out, fun h => (by cases h), fun h => (by cases h), fun h => (by cases h)⟩
        case step0 =>
          rintro S j o a X ho hs hp ⟨A2, c2, A3, c3, xA, xc, g1, g2, v2, v3, rfl, hI, j12, j13, jv⟩
          have hlt : j < 13 := (Array.getElem?_eq_some_iff.1 ho).1
          rcases (show j = 0 ∨ j = 1 ∨ j = 2 ∨ j = 3 ∨ j = 4 ∨ j = 5 ∨ j = 6 ∨ j = 7 ∨ j = 8 ∨ j = 9 ∨ j = 10 ∨ j = 11 ∨ j = 12 by omega) with rfl | rfl | rfl | rfl | rfl | rfl | rfl | rfl | rfl | rfl | rfl | rfl | rfl
          · injection ho with ho
            subst ho
            have h13 : S 12 = false := by
              cases h : S 12 with
              | false => rfl
              | true => exact absurd (j12 (j13 h)) (by rw [hs]; simp)
            rw [if_pos (show Region.wanted _ _ = true from rfl)]
            refine wp_val (v := v) (w' := X) ?_ ⟨A2, c2, A3, c3, xA, xc, g1, g2, v2, v3, rfl, hI, fun _ => rfl, j13, jv⟩
            simp [execOp, go_sem, Act.eval, h13]
          · injection ho with ho
            subst ho
            rw [if_pos (show Region.wanted _ _ = true from rfl)]
            refine wp_val (v := .pointer (some ⟨wr.heap.size, 0, none⟩)) (w' := X) ?_ ⟨A2, c2, A3, c3, xA, xc, g1, g2, v2, v3, rfl, hI, j12, j13, jv⟩
            simp [execOp, go_sem, Act.eval]
          · injection ho with ho
            subst ho
            have s1 : S 1 = true := hp ⟨1, .data⟩ (by simp) rfl
            have bc0 := hI.box.c 0 (.string nm) rfl
            rw [if_pos (show Region.wanted _ _ = true from rfl)]
            refine wp_val (v := .string nm) (w' := X) ?_ ⟨A2, c2, A3, c3, xA, xc, g1, g2, v2, v3, rfl, hI, j12, j13, jv⟩
            simp [execOp, go_sem, Act.eval, s1, bc0]
          · injection ho with ho
            subst ho
            have s2 : S 2 = true := hp ⟨2, .data⟩ (by simp) rfl
            rw [if_pos (show Region.wanted _ _ = true from rfl)]
            refine wp_cal ?_ (HATM.out X) (fun v w' hR => ?_)
            · simp [execOp, go_sem, Act.eval, s2]
              try rfl
            · obtain ⟨⟨A', c', rfl⟩, hB'⟩ := hR
              exact ⟨A', c', A3, c3, xA, xc, g1, g2, v2, v3, rfl, hI.call hB', j12, j13, jv⟩
          · injection ho with ho
            subst ho
            have bc0 := hI.box.c 0 (.string nm) rfl
            have bc1 := hI.box.c 1 (.int .i64 fx.kind) rfl
            have bc2 := hI.box.c 2 (.int .i64 fx.num) rfl
            have bc3 := hI.box.c 3 (.string fx.name) rfl
            have bc4 := hI.box.c 4 (.slice FA 0 fc) rfl
            have bc5 := hI.box.c 5 (.slice VB vn vc) rfl
            have bc6 := hI.box.c 6 (.nilFunc) rfl
            have bc7 := hI.box.c 7 (.nilFunc) rfl
            rw [if_pos (show Region.wanted _ _ = true from rfl)]
            refine wp_val (v := .agg #[.string nm, .int .i64 fx.kind, .int .i64 fx.num, .string fx.name, .slice FA 0 fc, .slice VB vn vc, .nilFunc, .nilFunc]) (w' := X) ?_ ⟨A2, c2, A3, c3, xA, xc, g1, g2, v2, v3, rfl, hI, j12, j13, jv⟩
            simp [execOp, go_sem, Act.eval, bc0, bc1, bc2, bc3, bc4, bc5, bc6, bc7]
          · injection ho with ho
            subst ho
            rw [if_pos (show Region.wanted _ _ = true from rfl)]
            refine wp_val (v := .pointer (some ⟨w.heap.size, 1, none⟩)) (w' := X) ?_ ⟨A2, c2, A3, c3, xA, xc, g1, g2, v2, v3, rfl, hI, j12, j13, jv⟩
            simp [execOp, go_sem, Act.eval]
          · injection ho with ho
            subst ho
            have s5 : S 5 = true := hp ⟨5, .data⟩ (by simp) rfl
            have xs1 := (hI.bel.cell (p := ⟨w.heap.size, 1, none⟩) lst).trans s0_1
            have xs2 := (hI.bel.cell (p := ⟨w.heap.size, 2, none⟩) lst).trans s0_2
            have xs3 := (hI.bel.cell (p := ⟨w.heap.size, 3, none⟩) lst).trans s0_3
            have xs4 := (hI.bel.cell (p := ⟨w.heap.size, 4, none⟩) lst).trans s0_4
            rw [if_pos (show Region.wanted _ _ = true from rfl)]
            refine wp_val (v := .agg #[.int .i64 q, .int .i64 u, .bool c, .bool d]) (w' := X) ?_ ⟨A2, c2, A3, c3, xA, xc, g1, g2, v2, v3, rfl, hI, j12, j13, jv⟩
            simp [execOp, go_sem, Act.eval, s5, xs1, xs2, xs3, xs4]
          · injection ho with ho
            subst ho
            have s4 : S 4 = true := hp ⟨4, .data⟩ (by simp) rfl
            have s6 : S 6 = true := hp ⟨6, .data⟩ (by simp) rfl
            rw [if_pos (show Region.wanted _ _ = true from rfl)]
            refine wp_cal ?_ (HVAL.out X hI.bel) (fun v w' hR => ?_)
            · simp [execOp, go_sem, Act.eval, s4, s6]
              try rfl
            · obtain ⟨⟨A', c', rfl⟩, hB'⟩ := hR
              exact ⟨A2, c2, A', c', xA, xc, g1, g2, v2, v3, rfl, hI.call hB', j12, j13, jv⟩
          · injection ho with ho
            subst ho
            have s3 : S 3 = true := hp ⟨3, .data⟩ (by simp) rfl
            have s7 : S 7 = true := hp ⟨7, .data⟩ (by simp) rfl
            rw [if_pos (show Region.wanted _ _ = true from rfl)]
            refine wp_val (v := .slice (some ⟨X.heap.size, 0, none⟩) 2 2) (w' := X.alloc (.cells #[.int .i64 2, .int .i64 0, .string nm, .slice A2 0 c2, .int .i64 y.kind, .int .i64 y.num, .string y.name, .slice A3 y.args.length c3] 26)) ?_ ⟨A2, c2, A3, c3, xA, xc, X.heap.size, g2, v2, v3, rfl, hI.rowd [(atomT nm, A2, c2), (y, A3, c3)] 26 rfl (by simp [maxLen]) (fun r hr => by simp only [List.mem_cons, List.mem_nil_iff, or_false] at hr; rcases hr with rfl | rfl <;> first | exact TmsK.nil | (show TmsAt _ _ _ y.args; rw [HYA.out]; exact TmsK.nil)), j12, j13, jv⟩
            simp [execOp, go_sem, Act.eval, s3, s7]
          · injection ho with ho
            subst ho
            have s8 : S 8 = true := hp ⟨8, .data⟩ (by simp) rfl
            rw [if_pos (show Region.wanted _ _ = true from rfl)]
            refine wp_cal ?_ (HSTR.out X g1 (hI.row s8 hs)) (fun v w' hR => ?_)
            · simp [execOp, go_sem, Act.eval, s8]
              try rfl
            · obtain ⟨⟨A', c', rfl, hN⟩, hB'⟩ := hR
              exact ⟨A2, c2, A3, c3, A', c', g1, g2, v2, v3, rfl, hI.strd hs A' c' hB' hN, j12, j13, jv⟩
          · injection ho with ho
            subst ho
            have s9 : S 9 = true := hp ⟨9, .data⟩ (by simp) rfl
            rw [if_pos (show Region.wanted _ _ = true from rfl)]
            refine wp_val (v := .slice (some ⟨X.heap.size, 0, none⟩) 1 1) (w' := X.alloc (.cells #[.int .i64 x.kind, .int .i64 x.num, .string x.name, .slice xA x.args.length xc] 26)) ?_ ⟨A2, c2, A3, c3, xA, xc, g1, X.heap.size, v2, v3, rfl, hI.oned s9 26, j12, j13, jv⟩
            simp [execOp, go_sem, Act.eval, s9]
          · injection ho with ho
            subst ho
            have s0 : S 0 = true := hp ⟨0, .data⟩ (by simp) rfl
            have s10 : S 10 = true := hp ⟨10, .data⟩ (by simp) rfl
            rw [if_pos (show Region.wanted _ _ = true from rfl)]
            have h13 : S 12 = false := by
              cases h : S 12 with
              | false => rfl
              | true => exact absurd (j13 h) (by rw [hs]; simp)
            have s9 : S 9 = true := hI.i11 s10
            have hg2 := hI.one s10 hs
            refine wp_appR (.tmp 70) (.tmp 80) rfl wt.heap.size v rs (x, xA, xc) g2 1 (by simp [Act.eval, s0]) (hI.own hs) (by simp [Act.eval, s10]) hg2 ((hI.str s9).keep (fun _ _ => rfl) (fun b hb => ⟨Nat.le_trans HWW.out hb.1, hb.2, fun e => by have := (HVO.out b e).2; have := hb.1; omega⟩)) HRL.out hI.bel.size (fun v' w' ho hg => ⟨A2, c2, A3, c3, xA, xc, g1, g2, v', v3, rfl, hI.appd s9 s10 hs HVO.out ho hg, fun _ => s0, fun h => absurd (show S 12 = true from h) (by rw [h13]; simp), fun h => absurd (show S 12 = true from h) (by rw [h13]; simp)⟩)
          · injection ho with ho
            subst ho
            have s11 : S 11 = true := hp ⟨11, .data⟩ (by simp) rfl
            rw [if_pos (show Region.wanted _ _ = true from rfl)]
            refine wp_val (v := v2) (w' := X) ?_ ⟨A2, c2, A3, c3, xA, xc, g1, g2, v2, v2, rfl, hI, j12, fun _ => s11, fun _ => rfl⟩
            simp [execOp, go_sem, Act.eval, s11]
        case fin0 =>
          rintro S a X9 hall ⟨A2, c2, A3, c3, xA, xc, g1, g2, v2, v3, rfl, hI, -, -, jv⟩
          have s0 : S 0 = true := hall 0 (show 0 < 13 by omega)
          have s1 : S 1 = true := hall 1 (show 1 < 13 by omega)
          have s2 : S 2 = true := hall 2 (show 2 < 13 by omega)
          have s3 : S 3 = true := hall 3 (show 3 < 13 by omega)
          have s4 : S 4 = true := hall 4 (show 4 < 13 by omega)
          have s5 : S 5 = true := hall 5 (show 5 < 13 by omega)
          have s6 : S 6 = true := hall 6 (show 6 < 13 by omega)
          have s7 : S 7 = true := hall 7 (show 7 < 13 by omega)
          have s8 : S 8 = true := hall 8 (show 8 < 13 by omega)
          have s9 : S 9 = true := hall 9 (show 9 < 13 by omega)
          have s10 : S 10 = true := hall 10 (show 10 < 13 by omega)
          have s11 : S 11 = true := hall 11 (show 11 < 13 by omega)
          have s12 : S 12 = true := hall 12 (show 12 < 13 by omega)
          have hvv := jv s12
          subst hvv
          have HO9 := Lib.hid (hI.own2 s11)
          have HB9 := Lib.hid hI.bel
          have HR9 : Hid ((rs ++ [(x, xA, xc)]).map (·.1) = (List.range (k + 1)).map (flagAns ⟨q, u, c, d⟩)) := Lib.hid (by
            rw [List.map_append, HR.out, List.range_succ, List.map_append]
            simp [HXE.out])
          refine hK9 _ _ ?_
          simp only [s0, s1, s2, s3, s4, s5, s6, s7, s8, s9, s10, s11, s12, if_true]
          clear hall hI jv hK9 s0 s1 s2 s3 s4 s5 s6 s7 s8 s9 s10 s11 s12 HATM HVAL HSTR HVO HWW HRL HO5 HB5 HK5 HO HB HR
          go_wp2_with fail
          go_roundw
          case rel => exact ⟨k + 1, _, by omega, by go_num, HB9, HO9, HR9⟩
          case measure => simp [intOf] <;> omega
      · have HKB0 : Hid (Bk (wr.alloc (.cells #[.string nm, .int .i64 fx.kind, .int .i64 fx.num, .string fx.name, .slice FA 0 fc, .slice VB vn vc, .func fa #[] #[], .func fb #[] #[]] 72)) wr.heap.size [.string nm, .int .i64 fx.kind, .int .i64 fx.num, .string fx.name, .slice FA 0 fc, .slice VB vn vc, .func fa #[] #[], .func fb #[] #[]]) := Lib.hid (Bk.new wr [.string nm, .int .i64 fx.kind, .int .i64 fx.num, .string fx.name, .slice FA 0 fc, .slice VB vn vc, .func fa #[] #[], .func fb #[] #[]] 72)
        have hBA : Below wr.heap.size wr (wr.alloc (.cells #[.string nm, .int .i64 fx.kind, .int .i64 fx.num, .string fx.name, .slice FA 0 fc, .slice VB vn vc, .func fa #[] #[], .func fb #[] #[]] 72)) := (Below.refl _ _).alloc (Nat.le_refl _) _
        have HQ := Lib.hid (HUP.out (wr.alloc (.cells #[.string nm, .int .i64 fx.kind, .int .i64 fx.num, .string fx.name, .slice FA 0 fc, .slice VB vn vc, .func fa #[] #[], .func fb #[] #[]] 72)) (wr.heap.size + 1) (HBLr.out.trans (hBA.mono HBLr.out.size)) (by simp))
        go_wp2_with fail
        refine HQ.out.mono ?_; rintro e w5 ⟨rfl, hB5⟩
        have hB05 : Below wr.heap.size wr w5 := (hBA.alloc (by simp) _).trans (hB5.mono (by simp; omega))
        have HK5 : Hid (Bk w5 wr.heap.size [.string nm, .int .i64 fx.kind, .int .i64 fx.num, .string fx.name, .slice FA 0 fc, .slice VB vn vc, .func fa #[] #[], .func fb #[] #[]]) := Lib.hid (HKB0.out.call (((Below.refl _ _).alloc (Nat.le_refl _) _).trans (hB5.mono (by simp))))
        have HB5 := Lib.hid (HB.out.trans (hB05.mono HB.out.size))
        have HW5 := Lib.hid hB05
        have HO5 := Lib.hid (HO.out.below hB05)
        clear hB5 hBA HQ HKB0 c0 c1 c2 c3 c4 c5 c6 c7 e4_0 e4_1 e4_2 e4_3
        have s0_0 : wt.cell? ⟨w.heap.size, 0, none⟩ = some (.slice OA on oc) := HBKt.out.cell 4 0 rfl rfl
        have s0_1 : wt.cell? ⟨w.heap.size, 1, none⟩ = some (.int .i64 q) := HBKt.out.cell 4 1 rfl rfl
        have s0_2 : wt.cell? ⟨w.heap.size, 2, none⟩ = some (.int .i64 u) := HBKt.out.cell 4 2 rfl rfl
        have s0_3 : wt.cell? ⟨w.heap.size, 3, none⟩ = some (.bool c) := HBKt.out.cell 4 3 rfl rfl
        have s0_4 : wt.cell? ⟨w.heap.size, 4, none⟩ = some (.bool d) := HBKt.out.cell 4 4 rfl rfl
        have s0_5 : wt.cell? ⟨w.heap.size, 5, none⟩ = some (.slice CA cn cc) := HBKt.out.cell 4 5 rfl rfl
        have lst : w.heap.size < wt.heap.size := HBKt.out.lt 4 rfl
        go_wp2_with fail
        rename_i K9 hK9
        have HVO : Hid (∀ b, v.ownBlock = some b → b < wr.heap.size ∧ b < w5.heap.size) := Lib.hid fun b e => by
          have := (HO.out.own.lt b e).2
          have := HW5.out.size
          omega
        have HWW : Hid (wt.heap.size ≤ w5.heap.size) := Lib.hid HB5.out.size
        have HRL : Hid (rs.length ≤ 100000) := Lib.hid (by
          have := congrArg List.length HR.out
          simp at this
          omega)
        refine wp_region_any (by kernel_rfl) ?_
        refine wpAny_inv (fun S a X => ∃ (A2 : Option Addr) (c2 : Nat) (A3 : Option Addr) (c3 : Nat) (xA : Option Addr) (xc g1 g2 : Nat) (v2 v3 : Value), a = (⟨#[.agg #[.slice OA on oc, .int .i64 q, .int .i64 u, .bool c, .bool d, .slice CA cn cc], .slice (some ⟨b, off, none⟩) 2 ac, .agg #[.int .i64 gk, .int .i64 gn, .string gs, .slice (some ⟨b, off, none⟩) 2 ac], .pointer (some ⟨w.heap.size, 0, none⟩), undef, .pointer (some ⟨w.heap.size + 1, 0, none⟩), .pointer (some ⟨w.heap.size + 1 + 1, 0, none⟩), .slice none 0 0, .pointer (some ⟨w.heap.size + 1 + 1 + 1, 0, none⟩), .int .i64 0, .pointer (some ⟨w.heap.size + 1 + 1 + 1 + 1, 0, none⟩), .pointer (some ⟨w2.heap.size, 0, none⟩), .bool false, if S 12 = true then v3 else v, undef, .pointer (some ⟨wr.heap.size, 0, none⟩), .slice (some ⟨b, off, none⟩) 2 ac, .pointer (some ⟨b, off, none⟩), .agg #[.int .i64 0, .int .i64 pn, .string ⟨#[]⟩, .slice PA pl.length pc], .agg #[.int .i64 0, .int .i64 pn, .string ⟨#[]⟩, .slice PA pl.length pc], .slice (some ⟨w.heap.size + 1 + 1 + 1 + 1 + 1, 0, none⟩) 1 1, .bool true, .bool false, .bool false, undef, undef, undef, .bool false, undef, undef, undef, undef, undef, undef, undef, .tuple #[.agg #[.string ⟨#[]⟩, .int .i64 0, .int .i64 0, .string ⟨#[]⟩, .slice none 0 0, .slice none 0 0, .nilFunc, .nilFunc], .bool false], .pointer (some ⟨w.heap.size + 1 + 1 + 1 + 1, 2, none⟩), .string ⟨#[]⟩, .tuple #[.agg #[.string ⟨#[]⟩, .int .i64 0, .int .i64 0, .string ⟨#[]⟩, .slice none 0 0, .slice none 0 0, .nilFunc, .nilFunc], .bool false], .agg #[.string ⟨#[]⟩, .int .i64 0, .int .i64 0, .string ⟨#[]⟩, .slice none 0 0, .slice none 0 0, .nilFunc, .nilFunc], .bool false, .agg #[.int .i64 0, .int .i64 pn, .string ⟨#[]⟩, .slice PA pl.length pc], .bool false, .bool false, undef, undef, .bool false, undef, undef, undef, undef, undef, undef, undef, .slice (some ⟨g, 0, none⟩) 9 9, .int .i64 9, .int .i64 (k : Int), .bool true, .pointer (some ⟨g, k * 8, none⟩), .agg #[.string nm, .int .i64 fx.kind, .int .i64 fx.num, .string fx.name, .slice FA 0 fc, .slice VB vn vc, .func fa #[] #[], .func fb #[] #[]], .agg #[.int .i64 0, .int .i64 pn, .string ⟨#[]⟩, .slice PA pl.length pc], .slice (some ⟨wr.heap.size + 1, 0, none⟩) 1 1, .bool true, .bool true, undef, undef, undef, undef, undef, .bool true, if S 0 = true then v else u70, if S 1 = true then .pointer (some ⟨wr.heap.size, 0, none⟩) else u71, if S 2 = true then .string nm else u72, if S 3 = true then .agg #[.int .i64 2, .int .i64 0, .string nm, .slice A2 0 c2] else u73, if S 4 = true then .agg #[.string nm, .int .i64 fx.kind, .int .i64 fx.num, .string fx.name, .slice FA 0 fc, .slice VB vn vc, .func fa #[] #[], .func fb #[] #[]] else u74, if S 5 = true then .pointer (some ⟨w.heap.size, 1, none⟩) else u75, if S 6 = true then .agg #[.int .i64 q, .int .i64 u, .bool c, .bool d] else u76, if S 7 = true then .agg #[.int .i64 y.kind, .int .i64 y.num, .string y.name, .slice A3 y.args.length c3] else u77, if S 8 = true then .slice (some ⟨g1, 0, none⟩) 2 2 else u78, if S 9 = true then .agg #[.int .i64 x.kind, .int .i64 x.num, .string x.name, .slice xA x.args.length xc] else u79, if S 10 = true then .slice (some ⟨g2, 0, none⟩) 1 1 else u80, if S 11 = true then v2 else u81, u82, undef, undef, undef], []⟩ : Act) ∧ ApI 26 wt w5 wr.heap.size [.string nm, .int .i64 fx.kind, .int .i64 fx.num, .string fx.name, .slice FA 0 fc, .slice VB vn vc, .func fa #[] #[], .func fb #[] #[]] v rs x [atomT nm, y] X v2 xA xc g1 g2 (S 8) (S 9) (S 10) (S 11) ∧ (S 11 = true → S 0 = true) ∧ (S 12 = true → S 11 = true) ∧ (S 12 = true → v3 = v2)) (by kernel_rfl) ?step1 ?fin1 13 (fun _ => false) _ _ (by decide) ⟨none, 0, none, 0, none, 0, 0, 0, v, v, rfl, ApI.start x _ v none 0 0 0 HB5.out HK5.out HO5.out, fun h => (by cases h), fun h => (by cases h), fun h => (by cases h)⟩
        case step1 =>
          rintro S j o a X ho hs hp ⟨A2, c2, A3, c3, xA, xc, g1, g2, v2, v3, rfl, hI, j12, j13, jv⟩
          have hlt : j < 13 := (Array.getElem?_eq_some_iff.1 ho).1
          rcases (show j = 0 ∨ j = 1 ∨ j = 2 ∨ j = 3 ∨ j = 4 ∨ j = 5 ∨ j = 6 ∨ j = 7 ∨ j = 8 ∨ j = 9 ∨ j = 10 ∨ j = 11 ∨ j = 12 by omega) with rfl | rfl | rfl | rfl | rfl | rfl | rfl | rfl | rfl | rfl | rfl | rfl | rfl
          · injection ho with ho
            subst ho
            have h13 : S 12 = false := by
              cases h : S 12 with
              | false => rfl
              | true => exact absurd (j12 (j13 h)) (by rw [hs]; simp)
            rw [if_pos (show Region.wanted _ _ = true from rfl)]
            refine wp_val (v := v) (w' := X) ?_ ⟨A2, c2, A3, c3, xA, xc, g1, g2, v2, v3, rfl, hI, fun _ => rfl, j13, jv⟩
            simp [execOp, go_sem, Act.eval, h13]
          · injection ho with ho
            subst ho
            rw [if_pos (show Region.wanted _ _ = true from rfl)]
            refine wp_val (v := .pointer (some ⟨wr.heap.size, 0, none⟩)) (w' := X) ?_ ⟨A2, c2, A3, c3, xA, xc, g1, g2, v2, v3, rfl, hI, j12, j13, jv⟩
            simp [execOp, go_sem, Act.eval]
          · injection ho with ho
            subst ho
            have s1 : S 1 = true := hp ⟨1, .data⟩ (by simp) rfl
            have bc0 := hI.box.c 0 (.string nm) rfl
            rw [if_pos (show Region.wanted _ _ = true from rfl)]
            refine wp_val (v := .string nm) (w' := X) ?_ ⟨A2, c2, A3, c3, xA, xc, g1, g2, v2, v3, rfl, hI, j12, j13, jv⟩
            simp [execOp, go_sem, Act.eval, s1, bc0]
          · injection ho with ho
            subst ho
            have s2 : S 2 = true := hp ⟨2, .data⟩ (by simp) rfl
            rw [if_pos (show Region.wanted _ _ = true from rfl)]
            refine wp_cal ?_ (HATM.out X) (fun v w' hR => ?_)
            · simp [execOp, go_sem, Act.eval, s2]
              try rfl
            · obtain ⟨⟨A', c', rfl⟩, hB'⟩ := hR
              exact ⟨A', c', A3, c3, xA, xc, g1, g2, v2, v3, rfl, hI.call hB', j12, j13, jv⟩
          · injection ho with ho
            subst ho
            have bc0 := hI.box.c 0 (.string nm) rfl
            have bc1 := hI.box.c 1 (.int .i64 fx.kind) rfl
            have bc2 := hI.box.c 2 (.int .i64 fx.num) rfl
            have bc3 := hI.box.c 3 (.string fx.name) rfl
            have bc4 := hI.box.c 4 (.slice FA 0 fc) rfl
            have bc5 := hI.box.c 5 (.slice VB vn vc) rfl
            have bc6 := hI.box.c 6 (.func fa #[] #[]) rfl
            have bc7 := hI.box.c 7 (.func fb #[] #[]) rfl
            rw [if_pos (show Region.wanted _ _ = true from rfl)]
            refine wp_val (v := .agg #[.string nm, .int .i64 fx.kind, .int .i64 fx.num, .string fx.name, .slice FA 0 fc, .slice VB vn vc, .func fa #[] #[], .func fb #[] #[]]) (w' := X) ?_ ⟨A2, c2, A3, c3, xA, xc, g1, g2, v2, v3, rfl, hI, j12, j13, jv⟩
            simp [execOp, go_sem, Act.eval, bc0, bc1, bc2, bc3, bc4, bc5, bc6, bc7]
          · injection ho with ho
            subst ho
            rw [if_pos (show Region.wanted _ _ = true from rfl)]
            refine wp_val (v := .pointer (some ⟨w.heap.size, 1, none⟩)) (w' := X) ?_ ⟨A2, c2, A3, c3, xA, xc, g1, g2, v2, v3, rfl, hI, j12, j13, jv⟩
            simp [execOp, go_sem, Act.eval]
          · injection ho with ho
            subst ho
            have s5 : S 5 = true := hp ⟨5, .data⟩ (by simp) rfl
            have xs1 := (hI.bel.cell (p := ⟨w.heap.size, 1, none⟩) lst).trans s0_1
            have xs2 := (hI.bel.cell (p := ⟨w.heap.size, 2, none⟩) lst).trans s0_2
            have xs3 := (hI.bel.cell (p := ⟨w.heap.size, 3, none⟩) lst).trans s0_3
            have xs4 := (hI.bel.cell (p := ⟨w.heap.size, 4, none⟩) lst).trans s0_4
            rw [if_pos (show Region.wanted _ _ = true from rfl)]
            refine wp_val (v := .agg #[.int .i64 q, .int .i64 u, .bool c, .bool d]) (w' := X) ?_ ⟨A2, c2, A3, c3, xA, xc, g1, g2, v2, v3, rfl, hI, j12, j13, jv⟩
            simp [execOp, go_sem, Act.eval, s5, xs1, xs2, xs3, xs4]
          · injection ho with ho
            subst ho
            have s4 : S 4 = true := hp ⟨4, .data⟩ (by simp) rfl
            have s6 : S 6 = true := hp ⟨6, .data⟩ (by simp) rfl
            rw [if_pos (show Region.wanted _ _ = true from rfl)]
            refine wp_cal ?_ (HVAL.out X hI.bel) (fun v w' hR => ?_)
            · simp [execOp, go_sem, Act.eval, s4, s6]
              try rfl
            · obtain ⟨⟨A', c', rfl⟩, hB'⟩ := hR
              exact ⟨A2, c2, A', c', xA, xc, g1, g2, v2, v3, rfl, hI.call hB', j12, j13, jv⟩
          · injection ho with ho
            subst ho
            have s3 : S 3 = true := hp ⟨3, .data⟩ (by simp) rfl
            have s7 : S 7 = true := hp ⟨7, .data⟩ (by simp) rfl
            rw [if_pos (show Region.wanted _ _ = true from rfl)]
            refine wp_val (v := .slice (some ⟨X.heap.size, 0, none⟩) 2 2) (w' := X.alloc (.cells #[.int .i64 2, .int .i64 0, .string nm, .slice A2 0 c2, .int .i64 y.kind, .int .i64 y.num, .string y.name, .slice A3 y.args.length c3] 26)) ?_ ⟨A2, c2, A3, c3, xA, xc, X.heap.size, g2, v2, v3, rfl, hI.rowd [(atomT nm, A2, c2), (y, A3, c3)] 26 rfl (by simp [maxLen]) (fun r hr => by simp only [List.mem_cons, List.mem_nil_iff, or_false] at hr; rcases hr with rfl | rfl <;> first | exact TmsK.nil | (show TmsAt _ _ _ y.args; rw [HYA.out]; exact TmsK.nil)), j12, j13, jv⟩
            simp [execOp, go_sem, Act.eval, s3, s7]
          · injection ho with ho
            subst ho
            have s8 : S 8 = true := hp ⟨8, .data⟩ (by simp) rfl
            rw [if_pos (show Region.wanted _ _ = true from rfl)]
            refine wp_cal ?_ (HSTR.out X g1 (hI.row s8 hs)) (fun v w' hR => ?_)
            · simp [execOp, go_sem, Act.eval, s8]
              try rfl
            · obtain ⟨⟨A', c', rfl, hN⟩, hB'⟩ := hR
              exact ⟨A2, c2, A3, c3, A', c', g1, g2, v2, v3, rfl, hI.strd hs A' c' hB' hN, j12, j13, jv⟩
          · injection ho with ho
            subst ho
            have s9 : S 9 = true := hp ⟨9, .data⟩ (by simp) rfl
            rw [if_pos (show Region.wanted _ _ = true from rfl)]
            refine wp_val (v := .slice (some ⟨X.heap.size, 0, none⟩) 1 1) (w' := X.alloc (.cells #[.int .i64 x.kind, .int .i64 x.num, .string x.name, .slice xA x.args.length xc] 26)) ?_ ⟨A2, c2, A3, c3, xA, xc, g1, X.heap.size, v2, v3, rfl, hI.oned s9 26, j12, j13, jv⟩
            simp [execOp, go_sem, Act.eval, s9]
          · injection ho with ho
            subst ho
            have s0 : S 0 = true := hp ⟨0, .data⟩ (by simp) rfl
            have s10 : S 10 = true := hp ⟨10, .data⟩ (by simp) rfl
            rw [if_pos (show Region.wanted _ _ = true from rfl)]
            have h13 : S 12 = false := by
              cases h : S 12 with
              | false => rfl
              | true => exact absurd (j13 h) (by rw [hs]; simp)
            have s9 : S 9 = true := hI.i11 s10
            have hg2 := hI.one s10 hs
            refine wp_appR (.tmp 70) (.tmp 80) rfl wt.heap.size v rs (x, xA, xc) g2 1 (by simp [Act.eval, s0]) (hI.own hs) (by simp [Act.eval, s10]) hg2 ((hI.str s9).keep (fun _ _ => rfl) (fun b hb => ⟨Nat.le_trans HWW.out hb.1, hb.2, fun e => by have := (HVO.out b e).2; have := hb.1; omega⟩)) HRL.out hI.bel.size (fun v' w' ho hg => ⟨A2, c2, A3, c3, xA, xc, g1, g2, v', v3, rfl, hI.appd s9 s10 hs HVO.out ho hg, fun _ => s0, fun h => absurd (show S 12 = true from h) (by rw [h13]; simp), fun h => absurd (show S 12 = true from h) (by rw [h13]; simp)⟩)
          · injection ho with ho
            subst ho
            have s11 : S 11 = true := hp ⟨11, .data⟩ (by simp) rfl
            rw [if_pos (show Region.wanted _ _ = true from rfl)]
            refine wp_val (v := v2) (w' := X) ?_ ⟨A2, c2, A3, c3, xA, xc, g1, g2, v2, v2, rfl, hI, j12, fun _ => s11, fun _ => rfl⟩
            simp [execOp, go_sem, Act.eval, s11]
        case fin1 =>
          rintro S a X9 hall ⟨A2, c2, A3, c3, xA, xc, g1, g2, v2, v3, rfl, hI, -, -, jv⟩
          have s0 : S 0 = true := hall 0 (show 0 < 13 by omega)
          have s1 : S 1 = true := hall 1 (show 1 < 13 by omega)
          have s2 : S 2 = true := hall 2 (show 2 < 13 by omega)
          have s3 : S 3 = true := hall 3 (show 3 < 13 by omega)
          have s4 : S 4 = true := hall 4 (show 4 < 13 by omega)
          have s5 : S 5 = true := hall 5 (show 5 < 13 by omega)
          have s6 : S 6 = true := hall 6 (show 6 < 13 by omega)
          have s7 : S 7 = true := hall 7 (show 7 < 13 by omega)
          have s8 : S 8 = true := hall 8 (show 8 < 13 by omega)
          have s9 : S 9 = true := hall 9 (show 9 < 13 by omega)
          have s10 : S 10 = true := hall 10 (show 10 < 13 by omega)
          have s11 : S 11 = true := hall 11 (show 11 < 13 by omega)
          have s12 : S 12 = true := hall 12 (show 12 < 13 by omega)
          have hvv := jv s12
          subst hvv
          have HO9 := Lib.hid (hI.own2 s11)
          have HB9 := Lib.hid hI.bel
          have HR9 : Hid ((rs ++ [(x, xA, xc)]).map (·.1) = (List.range (k + 1)).map (flagAns ⟨q, u, c, d⟩)) := Lib.hid (by
            rw [List.map_append, HR.out, List.range_succ, List.map_append]
            simp [HXE.out])
          refine hK9 _ _ ?_
          simp only [s0, s1, s2, s3, s4, s5, s6, s7, s8, s9, s10, s11, s12, if_true]
          clear hall hI jv hK9 s0 s1 s2 s3 s4 s5 s6 s7 s8 s9 s10 s11 s12 HATM HVAL HSTR HVO HWW HRL HO5 HB5 HK5 HO HB HR
          go_wp2_with fail
          go_roundw
          case rel => exact ⟨k + 1, _, by omega, by go_num, HB9, HO9, HR9⟩
          case measure => simp [intOf] <;> omega
    · have hk9 : k = 9 := by omega
      subst hk9
      obtain ⟨RA, rc, hve, hTR⟩ := HO.out.tms
      have hrl : rs.length = 9 := by
        have := congrArg List.length HR.out
        simpa using this
      rw [hrl] at hve
      subst hve
      rw [HR.out] at hTR
      have HTR := Lib.hid hTR
      have HBLr := Lib.hid (HBLt.out.trans (HB.out.mono HBLt.out.size))
      have HBKr : Hid (Bks wr [(w.heap.size + 1 + 1 + 1 + 1, [.int .i64 0, .int .i64 pn, .string ⟨#[]⟩, .slice PA pl.length pc]), (w.heap.size + 1 + 1 + 1, [.int .i64 0, .int .i64 0, .string ⟨#[]⟩, .slice none 0 0]), (w.heap.size + 1 + 1, [.slice none 0 0, .int .i64 0, .int .i64 0, .bool false, .bool false, .slice none 0 0]), (w.heap.size + 1, [.int .i64 gk, .int .i64 gn, .string gs, .slice (some ⟨b, off, none⟩) 2 ac]), (w.heap.size, [.slice OA on oc, .int .i64 q, .int .i64 u, .bool c, .bool d, .slice CA cn cc])]) := Lib.hid (HBKt.out.call HB.out)
      have HL3 : Hid (w.heap.size + 1 + 1 + 1 < wt.heap.size) := Lib.hid (HBKt.out.lt 1 rfl)
      clear hTR hrl HO HB HR
      have f0_0 : wr.cell? ⟨w.heap.size, 0, none⟩ = some (.slice OA on oc) := HBKr.out.cell 4 0 rfl rfl
      have f0_1 : wr.cell? ⟨w.heap.size, 1, none⟩ = some (.int .i64 q) := HBKr.out.cell 4 1 rfl rfl
      have f0_2 : wr.cell? ⟨w.heap.size, 2, none⟩ = some (.int .i64 u) := HBKr.out.cell 4 2 rfl rfl
      have f0_3 : wr.cell? ⟨w.heap.size, 3, none⟩ = some (.bool c) := HBKr.out.cell 4 3 rfl rfl
      have f0_4 : wr.cell? ⟨w.heap.size, 4, none⟩ = some (.bool d) := HBKr.out.cell 4 4 rfl rfl
      have f0_5 : wr.cell? ⟨w.heap.size, 5, none⟩ = some (.slice CA cn cc) := HBKr.out.cell 4 5 rfl rfl
      have f2_0 : wr.cell? ⟨w.heap.size + 1 + 1, 0, none⟩ = some (.slice none 0 0) := HBKr.out.cell 2 0 rfl rfl
      have f2_1 : wr.cell? ⟨w.heap.size + 1 + 1, 1, none⟩ = some (.int .i64 0) := HBKr.out.cell 2 1 rfl rfl
      have f2_2 : wr.cell? ⟨w.heap.size + 1 + 1, 2, none⟩ = some (.int .i64 0) := HBKr.out.cell 2 2 rfl rfl
      have f2_3 : wr.cell? ⟨w.heap.size + 1 + 1, 3, none⟩ = some (.bool false) := HBKr.out.cell 2 3 rfl rfl
      have f2_4 : wr.cell? ⟨w.heap.size + 1 + 1, 4, none⟩ = some (.bool false) := HBKr.out.cell 2 4 rfl rfl
      have f2_5 : wr.cell? ⟨w.heap.size + 1 + 1, 5, none⟩ = some (.slice none 0 0) := HBKr.out.cell 2 5 rfl rfl
      have f3_0 : wr.cell? ⟨w.heap.size + 1 + 1 + 1, 0, none⟩ = some (.int .i64 0) := HBKr.out.cell 1 0 rfl rfl
      have f3_1 : wr.cell? ⟨w.heap.size + 1 + 1 + 1, 1, none⟩ = some (.int .i64 0) := HBKr.out.cell 1 1 rfl rfl
      have f3_2 : wr.cell? ⟨w.heap.size + 1 + 1 + 1, 2, none⟩ = some (.string ⟨#[]⟩) := HBKr.out.cell 1 2 rfl rfl
      have f3_3 : wr.cell? ⟨w.heap.size + 1 + 1 + 1, 3, none⟩ = some (.slice none 0 0) := HBKr.out.cell 1 3 rfl rfl
      have f2f0 : wr.frozen? ⟨w.heap.size + 1 + 1, 0, none⟩ = false := HBKr.out.fz 2 0 rfl
      have f2f1 : wr.frozen? ⟨w.heap.size + 1 + 1, 1, none⟩ = false := HBKr.out.fz 2 1 rfl
      have f2f2 : wr.frozen? ⟨w.heap.size + 1 + 1, 2, none⟩ = false := HBKr.out.fz 2 2 rfl
      have f2f3 : wr.frozen? ⟨w.heap.size + 1 + 1, 3, none⟩ = false := HBKr.out.fz 2 3 rfl
      have f2f4 : wr.frozen? ⟨w.heap.size + 1 + 1, 4, none⟩ = false := HBKr.out.fz 2 4 rfl
      have f2f5 : wr.frozen? ⟨w.heap.size + 1 + 1, 5, none⟩ = false := HBKr.out.fz 2 5 rfl
      have f3f0 : wr.frozen? ⟨w.heap.size + 1 + 1 + 1, 0, none⟩ = false := HBKr.out.fz 1 0 rfl
      have f3f1 : wr.frozen? ⟨w.heap.size + 1 + 1 + 1, 1, none⟩ = false := HBKr.out.fz 1 1 rfl
      have f3f2 : wr.frozen? ⟨w.heap.size + 1 + 1 + 1, 2, none⟩ = false := HBKr.out.fz 1 2 rfl
      have f3f3 : wr.frozen? ⟨w.heap.size + 1 + 1 + 1, 3, none⟩ = false := HBKr.out.fz 1 3 rfl
      have f0l : w.heap.size < wr.heap.size := HBKr.out.lt 4 rfl
      have f2l : w.heap.size + 1 + 1 < wr.heap.size := HBKr.out.lt 2 rfl
      have f3l : w.heap.size + 1 + 1 + 1 < wr.heap.size := HBKr.out.lt 1 rfl
      have HBKZ : Hid (Bks (((((((((((wr.setCell ⟨w.heap.size + 1 + 1, 0, none⟩ (.slice OA on oc)).setCell ⟨w.heap.size + 1 + 1, 1, none⟩ (.int .i64 q)).setCell ⟨w.heap.size + 1 + 1, 2, none⟩ (.int .i64 u)).setCell ⟨w.heap.size + 1 + 1, 3, none⟩ (.bool c)).setCell ⟨w.heap.size + 1 + 1, 4, none⟩ (.bool d)).setCell ⟨w.heap.size + 1 + 1, 5, none⟩ (.slice CA cn cc)).setCell ⟨w.heap.size + 1 + 1 + 1, 0, none⟩ (.int .i64 0)).setCell ⟨w.heap.size + 1 + 1 + 1, 1, none⟩ (.int .i64 0)).setCell ⟨w.heap.size + 1 + 1 + 1, 2, none⟩ (.string ⟨#[]⟩)).setCell ⟨w.heap.size + 1 + 1 + 1, 3, none⟩ (.slice none 0 0))) [(w.heap.size + 1 + 1 + 1 + 1, [.int .i64 0, .int .i64 pn, .string ⟨#[]⟩, .slice PA pl.length pc]), (w.heap.size + 1 + 1 + 1, [.int .i64 0, .int .i64 0, .string ⟨#[]⟩, .slice none 0 0]), (w.heap.size + 1 + 1, [.slice OA on oc, .int .i64 q, .int .i64 u, .bool c, .bool d, .slice CA cn cc]), (w.heap.size + 1, [.int .i64 gk, .int .i64 gn, .string gs, .slice (some ⟨b, off, none⟩) 2 ac]), (w.heap.size, [.slice OA on oc, .int .i64 q, .int .i64 u, .bool c, .bool d, .slice CA cn cc])]) := Lib.hid ((HBKr.out.set6 2 rfl (.slice OA on oc) (.int .i64 q) (.int .i64 u) (.bool c) (.bool d) (.slice CA cn cc)).set4 1 rfl (.int .i64 0) (.int .i64 0) (.string ⟨#[]⟩) (.slice none 0 0))
      have HBLZ : Hid (Below w.heap.size w (((((((((((wr.setCell ⟨w.heap.size + 1 + 1, 0, none⟩ (.slice OA on oc)).setCell ⟨w.heap.size + 1 + 1, 1, none⟩ (.int .i64 q)).setCell ⟨w.heap.size + 1 + 1, 2, none⟩ (.int .i64 u)).setCell ⟨w.heap.size + 1 + 1, 3, none⟩ (.bool c)).setCell ⟨w.heap.size + 1 + 1, 4, none⟩ (.bool d)).setCell ⟨w.heap.size + 1 + 1, 5, none⟩ (.slice CA cn cc)).setCell ⟨w.heap.size + 1 + 1 + 1, 0, none⟩ (.int .i64 0)).setCell ⟨w.heap.size + 1 + 1 + 1, 1, none⟩ (.int .i64 0)).setCell ⟨w.heap.size + 1 + 1 + 1, 2, none⟩ (.string ⟨#[]⟩)).setCell ⟨w.heap.size + 1 + 1 + 1, 3, none⟩ (.slice none 0 0)))) := Lib.hid ((((((((((HBLr.out.setCell (p := ⟨w.heap.size + 1 + 1, _, none⟩) (show w.heap.size ≤ w.heap.size + 1 + 1 by omega) _).setCell (p := ⟨w.heap.size + 1 + 1, _, none⟩) (show w.heap.size ≤ w.heap.size + 1 + 1 by omega) _).setCell (p := ⟨w.heap.size + 1 + 1, _, none⟩) (show w.heap.size ≤ w.heap.size + 1 + 1 by omega) _).setCell (p := ⟨w.heap.size + 1 + 1, _, none⟩) (show w.heap.size ≤ w.heap.size + 1 + 1 by omega) _).setCell (p := ⟨w.heap.size + 1 + 1, _, none⟩) (show w.heap.size ≤ w.heap.size + 1 + 1 by omega) _).setCell (p := ⟨w.heap.size + 1 + 1, _, none⟩) (show w.heap.size ≤ w.heap.size + 1 + 1 by omega) _).setCell (p := ⟨w.heap.size + 1 + 1 + 1, _, none⟩) (show w.heap.size ≤ w.heap.size + 1 + 1 + 1 by omega) _).setCell (p := ⟨w.heap.size + 1 + 1 + 1, _, none⟩) (show w.heap.size ≤ w.heap.size + 1 + 1 + 1 by omega) _).setCell (p := ⟨w.heap.size + 1 + 1 + 1, _, none⟩) (show w.heap.size ≤ w.heap.size + 1 + 1 + 1 by omega) _).setCell (p := ⟨w.heap.size + 1 + 1 + 1, _, none⟩) (show w.heap.size ≤ w.heap.size + 1 + 1 + 1 by omega) _)
      have hkk : ∀ k, k ≠ w.heap.size + 1 + 1 → k ≠ w.heap.size + 1 + 1 + 1 → (((((((((((wr.setCell ⟨w.heap.size + 1 + 1, 0, none⟩ (.slice OA on oc)).setCell ⟨w.heap.size + 1 + 1, 1, none⟩ (.int .i64 q)).setCell ⟨w.heap.size + 1 + 1, 2, none⟩ (.int .i64 u)).setCell ⟨w.heap.size + 1 + 1, 3, none⟩ (.bool c)).setCell ⟨w.heap.size + 1 + 1, 4, none⟩ (.bool d)).setCell ⟨w.heap.size + 1 + 1, 5, none⟩ (.slice CA cn cc)).setCell ⟨w.heap.size + 1 + 1 + 1, 0, none⟩ (.int .i64 0)).setCell ⟨w.heap.size + 1 + 1 + 1, 1, none⟩ (.int .i64 0)).setCell ⟨w.heap.size + 1 + 1 + 1, 2, none⟩ (.string ⟨#[]⟩)).setCell ⟨w.heap.size + 1 + 1 + 1, 3, none⟩ (.slice none 0 0))).heap[k]? = wr.heap[k]? := fun k h2 h3 => by
        rw [heap_setCell_other _ _ _ _ h3, heap_setCell_other _ _ _ _ h3, heap_setCell_other _ _ _ _ h3, heap_setCell_other _ _ _ _ h3, heap_setCell_other _ _ _ _ h2, heap_setCell_other _ _ _ _ h2, heap_setCell_other _ _ _ _ h2, heap_setCell_other _ _ _ _ h2, heap_setCell_other _ _ _ _ h2, heap_setCell_other _ _ _ _ h2]
      have hNZ : NewT w (((((((((((wr.setCell ⟨w.heap.size + 1 + 1, 0, none⟩ (.slice OA on oc)).setCell ⟨w.heap.size + 1 + 1, 1, none⟩ (.int .i64 q)).setCell ⟨w.heap.size + 1 + 1, 2, none⟩ (.int .i64 u)).setCell ⟨w.heap.size + 1 + 1, 3, none⟩ (.bool c)).setCell ⟨w.heap.size + 1 + 1, 4, none⟩ (.bool d)).setCell ⟨w.heap.size + 1 + 1, 5, none⟩ (.slice CA cn cc)).setCell ⟨w.heap.size + 1 + 1 + 1, 0, none⟩ (.int .i64 0)).setCell ⟨w.heap.size + 1 + 1 + 1, 1, none⟩ (.int .i64 0)).setCell ⟨w.heap.size + 1 + 1 + 1, 2, none⟩ (.string ⟨#[]⟩)).setCell ⟨w.heap.size + 1 + 1 + 1, 3, none⟩ (.slice none 0 0))) RA ((List.range 9).map (flagAns ⟨q, u, c, d⟩)) := HTR.out.keep (fun b hb => hkk b (by have := HL3.out; omega) (by have := HL3.out; omega)) (fun b hb => ⟨by have := HL3.out; omega, by simpa using hb.2⟩)
      obtain ⟨wz, HWZ⟩ : ∃ wz, Hid (wz = ((((((((((wr.setCell ⟨w.heap.size + 1 + 1, 0, none⟩ (.slice OA on oc)).setCell ⟨w.heap.size + 1 + 1, 1, none⟩ (.int .i64 q)).setCell ⟨w.heap.size + 1 + 1, 2, none⟩ (.int .i64 u)).setCell ⟨w.heap.size + 1 + 1, 3, none⟩ (.bool c)).setCell ⟨w.heap.size + 1 + 1, 4, none⟩ (.bool d)).setCell ⟨w.heap.size + 1 + 1, 5, none⟩ (.slice CA cn cc)).setCell ⟨w.heap.size + 1 + 1 + 1, 0, none⟩ (.int .i64 0)).setCell ⟨w.heap.size + 1 + 1 + 1, 1, none⟩ (.int .i64 0)).setCell ⟨w.heap.size + 1 + 1 + 1, 2, none⟩ (.string ⟨#[]⟩)).setCell ⟨w.heap.size + 1 + 1 + 1, 3, none⟩ (.slice none 0 0))) := ⟨_, Lib.hid rfl⟩
      rw [← HWZ.out] at HBKZ HBLZ hNZ
      have HNZ := Lib.hid hNZ
      clear hNZ hkk
      go_wp2_with fail
      rw [← HWZ.out]
      have m2_0 : wz.cell? ⟨w.heap.size + 1 + 1, 0, none⟩ = some (.slice OA on oc) := HBKZ.out.cell 2 0 rfl rfl
      have m2_1 : wz.cell? ⟨w.heap.size + 1 + 1, 1, none⟩ = some (.int .i64 q) := HBKZ.out.cell 2 1 rfl rfl
      have m2_2 : wz.cell? ⟨w.heap.size + 1 + 1, 2, none⟩ = some (.int .i64 u) := HBKZ.out.cell 2 2 rfl rfl
      have m2_3 : wz.cell? ⟨w.heap.size + 1 + 1, 3, none⟩ = some (.bool c) := HBKZ.out.cell 2 3 rfl rfl
      have m2_4 : wz.cell? ⟨w.heap.size + 1 + 1, 4, none⟩ = some (.bool d) := HBKZ.out.cell 2 4 rfl rfl
      have m2_5 : wz.cell? ⟨w.heap.size + 1 + 1, 5, none⟩ = some (.slice CA cn cc) := HBKZ.out.cell 2 5 rfl rfl
      have m3_0 : wz.cell? ⟨w.heap.size + 1 + 1 + 1, 0, none⟩ = some (.int .i64 0) := HBKZ.out.cell 1 0 rfl rfl
      have m3_1 : wz.cell? ⟨w.heap.size + 1 + 1 + 1, 1, none⟩ = some (.int .i64 0) := HBKZ.out.cell 1 1 rfl rfl
      have m3_2 : wz.cell? ⟨w.heap.size + 1 + 1 + 1, 2, none⟩ = some (.string ⟨#[]⟩) := HBKZ.out.cell 1 2 rfl rfl
      have m3_3 : wz.cell? ⟨w.heap.size + 1 + 1 + 1, 3, none⟩ = some (.slice none 0 0) := HBKZ.out.cell 1 3 rfl rfl
      exact bodyPost_ret (v := .tuple #[.agg #[.slice OA on oc, .int .i64 q, .int .i64 u, .bool c, .bool d, .slice CA cn cc], .slice RA 9 rc, .agg #[.int .i64 0, .int .i64 0, .string ⟨#[]⟩, .slice none 0 0], .int .i64 0]) (by simp [results, Tryz.results118, go_sem, m2_0, m2_1, m2_2, m2_3, m2_4, m2_5, m3_0, m3_1, m3_2, m3_3]) rfl ⟨RA, rc, rfl, HBLZ.out, HNZ.out⟩
end Go.Proofs.YtfkhcpeahdkafaaGreat
