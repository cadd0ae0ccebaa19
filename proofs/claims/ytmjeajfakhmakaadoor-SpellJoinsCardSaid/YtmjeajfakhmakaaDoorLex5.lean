/- Contracts of the lexer: symbols, solos. -/
import Derived.Test.YtmjeajfakhmakaaDoorLex4
import Derived.RegionTactic
import Derived.BigRegion
namespace Go.Proofs.YtmjeajfakhmakaaDoor
open Go.RowKit Hb
set_option maxRecDepth 100000

set_option maxHeartbeats 1600000 in
theorem lex_symbol (b : Nat) (s : ByteArray) (tab : Int → Int) (p : Nat) (w : World) (h : Lex w b s tab p) (hp : p ≤ s.size) :
    Calls Tryd.prog 65 #[.pointer (some ⟨b, 0, none⟩)] w fun e w' => Gives (symR (cvt tab s.data.toList) p) e ∧ Below w.heap.size w w' := by
  have ca := h.ca
  have hlt := h.lt
  have hsz := h.sz
  have HL := Lib.hid h
  clear h
  have hlen : Hid ((cvt tab s.data.toList).length = s.size) := by show _ = _; rw [cvt_len]; simp
  have hsp := span_le isSym ((cvt tab s.data.toList).drop p)
  rw [List.length_drop, hlen.out] at hsp
  generalize hM : cvt tab s.data.toList = M at *
  have HM := Lib.hid hM
  clear hM
  have hA := (Below.refl w.heap.size w).alloc (Nat.le_refl _) tokZero
  have hA' : w.heap.size < (w.alloc tokZero).heap.size := by simp
  by_cases a1 : rawAt M p = 46
  · have b1 : (rawAt M p == 46) = true := by simp [a1]
    by_cases a2 : endNext (rawAt M (p + 1)) = true
    · have HK := Lib.hid (show symR M p = ⟨7, [46], 0, p, p + 1, 0⟩ by unfold symR; rw [if_pos ⟨a1, a2⟩])
      have HE := Lib.hid a2
      clear a1 a2
      have hd : decide (rawAt M (p + 1) < 0) = true ∨ (decide (rawAt M (p + 1) < 0) = false ∧ ((rawAt M (p + 1) == 37) = true ∨ ((rawAt M (p + 1) == 37) = false ∧ (cls (rawAt M (p + 1)) == 1) = true))) := by have := HE.out; unfold endNext at this; grind
      rcases hd with d1 | ⟨d1, d2 | ⟨d2, d3⟩⟩
      all_goals
        go_enter Tryd.func65, Tryd.ntmps65
        go_wp2_with fail
        refine (lex_char _ _ _ _ _ _ (HL.out.below hA hlt) (by omega)).mono ?_; rintro e w1 ⟨rfl, hB1⟩; rw [Int.toNat_natCast, HM.out]
        have L1 := (HL.out.below hA hlt).below hB1 (by simp; omega)
        have c1 := L1.ca
        go_wp2_with fail
        refine (lex_char _ _ _ _ _ _ L1 (by omega)).mono ?_; rintro e w2 ⟨rfl, hB2⟩; rw [show ((p : Int) + 1).toNat = p + 1 by omega, HM.out]
        have L2 := L1.below hB2 L1.lt
        have c2 := L2.ca
        have hBx : Below (w.alloc tokZero).heap.size (w.alloc tokZero) w2 := trans2 (Nat.le_refl _) hB1 hB2
        go_wp2_with (go_at_call 34; refine (chars_class _ _).mono ?_; rintro e w3 ⟨rfl, hB3⟩; have c3 := (hB3.cell (p := ⟨b, 257, none⟩) L2.lt).trans c2; have hBy := hBx.trans (hB3.mono (Nat.le_trans hB1.size hB2.size)); clear hBx)
        first | (obtain ⟨t0, t1, t2, t3, t4, t5, t6⟩ := tok_cells hBy hA'; have hlt3 : w.heap.size < w3.heap.size := Nat.lt_of_lt_of_le hA' hBy.size) | (obtain ⟨t0, t1, t2, t3, t4, t5, t6⟩ := tok_cells hBx hA'; have hlt3 : w.heap.size < w2.heap.size := Nat.lt_of_lt_of_le hA' hBx.size)
        go_region
        go_wp2_with fail
        refine bodyPost_ret (v := tokTup ⟨7, [46], 0, p, p + 1, 0⟩) (by simp [tokTup, results, Tryd.results65, go_sem, t0, t1, t2, t3, t4, t5]) rfl ⟨?_, ?_⟩
        · rw [HK.out]; rfl
        · first | exact (below_sets (hA.trans (hBy.mono (by omega))) (Nat.le_refl _) _ _ _ _ _ _).drew | exact (below_sets (hA.trans (hBx.mono (by omega))) (Nat.le_refl _) _ _ _ _ _ _).drew
    · have HK := Lib.hid (show symR M p = namedR 1 ((M.drop p).take (span isSym (M.drop p))) p (p + span isSym (M.drop p)) by unfold symR; rw [if_neg (fun h => a2 h.2)])
      have d1 : decide (rawAt M (p + 1) < 0) = false := by unfold endNext at a2; grind
      have d2 : (rawAt M (p + 1) == 37) = false := by unfold endNext at a2; grind
      have d3 : (cls (rawAt M (p + 1)) == 1) = false := by unfold endNext at a2; grind
      clear a1 a2
      go_enter Tryd.func65, Tryd.ntmps65
      go_wp2_with fail
      refine (lex_char _ _ _ _ _ _ (HL.out.below hA hlt) (by omega)).mono ?_; rintro e w1 ⟨rfl, hB1⟩; rw [Int.toNat_natCast, HM.out]
      have L1 := (HL.out.below hA hlt).below hB1 (by simp; omega)
      have c1 := L1.ca
      go_wp2_with fail
      refine (lex_char _ _ _ _ _ _ L1 (by omega)).mono ?_; rintro e w2 ⟨rfl, hB2⟩; rw [show ((p : Int) + 1).toNat = p + 1 by omega, HM.out]
      have L2 := L1.below hB2 L1.lt
      go_wp2_with fail
      refine (chars_class _ _).mono ?_; rintro e w3 ⟨rfl, hB3⟩
      have L3 := L2.below hB3 L2.lt
      have hBx := trans3 (Nat.le_refl _) hB1 hB2 hB3
      have c3 := L3.ca
      clear hB1 hB2 hB3 L1 L2 c1
      go_wp2_with fail
      refine (run_sym _ _ _ _ _ _ L3 (by omega)).mono ?_; rintro e w4 ⟨rfl, hB4⟩; rw [Int.toNat_natCast, HM.out]
      have L4 := L3.below hB4 L3.lt
      have c4 := L4.ca
      go_wp2_with fail
      refine (lex_part _ _ _ _ _ _ _ L4 (by omega) (by omega) (by omega)).mono ?_; rintro e w5 ⟨rfl, hB5⟩; rw [Int.toNat_natCast, HM.out, show ((p : Int) + span isSym (M.drop p) - p).toNat = span isSym (M.drop p) by omega]
      have L5 := L4.below hB5 L4.lt
      go_wp2_with fail
      refine (lex_named _ _ _ _ _ _ _ _ L5 (by have := List.length_take_le (span isSym (M.drop p)) (M.drop p); omega)).mono ?_; rintro e w6 ⟨he, hB6⟩
      generalize hr : namedR _ _ _ _ = r at he
      have HR := Lib.hid hr
      clear hr
      unfold Gives tokTup at he; subst he
      have hB := hBx.trans (trans3 hBx.size hB4 hB5 hB6)
      obtain ⟨t0, t1, t2, t3, t4, t5, t6⟩ := tok_cells hB hA'
      have hltx : w.heap.size < w6.heap.size := Nat.lt_of_lt_of_le hA' hB.size
      clear hB4 hB5 hB6 L3 L4 L5 c3 c4 ca
      go_wp2_with fail
      refine bodyPost_ret (v := tokTup r) (by simp [tokTup, results, Tryd.results65, go_sem, t0, t1, t2, t3, t4, t5]) rfl ⟨?_, below_sets (hA.trans (hB.mono (by omega))) (Nat.le_refl _) _ _ _ _ _ _⟩
      rw [HK.out, HR.out]; rfl
  · have b1 : (rawAt M p == 46) = false := by simp [a1]
    have HK := Lib.hid (show symR M p = namedR 1 ((M.drop p).take (span isSym (M.drop p))) p (p + span isSym (M.drop p)) by unfold symR; rw [if_neg (fun h => a1 h.1)])
    clear a1
    go_enter Tryd.func65, Tryd.ntmps65
    go_wp2_with fail
    refine (lex_char _ _ _ _ _ _ (HL.out.below hA hlt) (by omega)).mono ?_; rintro e w3 ⟨rfl, hBx⟩; rw [Int.toNat_natCast, HM.out]
    have L3 := (HL.out.below hA hlt).below hBx (by simp; omega)
    have c3 := L3.ca
    go_wp2_with fail
    refine (run_sym _ _ _ _ _ _ L3 (by omega)).mono ?_; rintro e w4 ⟨rfl, hB4⟩; rw [Int.toNat_natCast, HM.out]
    have L4 := L3.below hB4 L3.lt
    have c4 := L4.ca
    go_wp2_with fail
    refine (lex_part _ _ _ _ _ _ _ L4 (by omega) (by omega) (by omega)).mono ?_; rintro e w5 ⟨rfl, hB5⟩; rw [Int.toNat_natCast, HM.out, show ((p : Int) + span isSym (M.drop p) - p).toNat = span isSym (M.drop p) by omega]
    have L5 := L4.below hB5 L4.lt
    go_wp2_with fail
    refine (lex_named _ _ _ _ _ _ _ _ L5 (by have := List.length_take_le (span isSym (M.drop p)) (M.drop p); omega)).mono ?_; rintro e w6 ⟨he, hB6⟩
    generalize hr : namedR _ _ _ _ = r at he
    have HR := Lib.hid hr
    clear hr
    unfold Gives tokTup at he; subst he
    have hB := hBx.trans (trans3 hBx.size hB4 hB5 hB6)
    obtain ⟨t0, t1, t2, t3, t4, t5, t6⟩ := tok_cells hB hA'
    have hltx : w.heap.size < w6.heap.size := Nat.lt_of_lt_of_le hA' hB.size
    clear hB4 hB5 hB6 L3 L4 L5 c3 c4 ca
    go_wp2_with fail
    refine bodyPost_ret (v := tokTup r) (by simp [tokTup, results, Tryd.results65, go_sem, t0, t1, t2, t3, t4, t5]) rfl ⟨?_, below_sets (hA.trans (hB.mono (by omega))) (Nat.le_refl _) _ _ _ _ _ _⟩
    rw [HK.out, HR.out]; rfl
end Go.Proofs.YtmjeajfakhmakaaDoor
