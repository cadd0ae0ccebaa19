/- Contracts of the lexer: layout text. -/
import Derived.Test.YtmjeajfakhmakaaDoorLex2
namespace Go.Proofs.YtmjeajfakhmakaaDoor
open Go.RowKit Hb
set_option maxRecDepth 100000

theorem skip_step (M : List UInt8) (k e X : Nat) (he : k + 2 ≤ e) (h1 : k + skipN (M.drop k) = X) (h2 : skipN (M.drop k) = (e - (k + 2) + 4) + skipN (M.drop (k + (e - (k + 2) + 4)))) : e + 2 + skipN (M.drop (e + 2)) = X := by
  have e1 : k + (e - (k + 2) + 4) = e + 2 := by omega
  rw [e1] at h2; omega
theorem close_step (M : List UInt8) (k e : Nat) (he : k + 2 ≤ e) (h : closeAt (M.drop (k + 2)) = (closeAt (M.drop e)).map (· + (e - (k + 2)))) (h2 : closeAt (M.drop e) = (closeAt (M.drop (e + 1))).map (· + 1)) :
    closeAt (M.drop (k + 2)) = (closeAt (M.drop (e + 1))).map (· + (e + 1 - (k + 2))) := by
  rw [h, h2, Option.map_map]
  congr 1
  funext x
  simp; omega

set_option maxHeartbeats 4000000 in
theorem lex_skip (b : Nat) (s : ByteArray) (tab : Int → Int) (at_ i : Int) (w : World) (h : Lex w b s tab at_) (h0 : 0 ≤ i) :
    Calls Tryd.prog 61 #[.pointer (some ⟨b, 0, none⟩), .int .i64 i] w fun e w' => e = .returned (.int .i64 (i + skipN ((cvt tab s.data.toList).drop i.toNat))) ∧ Below w.heap.size w w' := by
  obtain ⟨k0, rfl⟩ := Int.eq_ofNat_of_zero_le h0
  have hsz := h.sz
  have HL := Lib.hid h
  have hlt0 := h.lt
  clear h
  rw [Int.toNat_natCast]
  have hlen : Hid ((cvt tab s.data.toList).length = s.size) := by show _ = _; rw [cvt_len]; simp
  generalize hM : cvt tab s.data.toList = M at *
  have HM := Lib.hid hM
  clear hM
  go_enter Tryd.func61, Tryd.ntmps61
  go_wp2_with fail
  go_loopw [1] (fun i wr => ∃ k : Nat, i = .int .i64 k ∧ Below w.heap.size w wr ∧ Hid (k + skipN (M.drop k) = k0 + skipN (M.drop k0))) (fun i _ => s.size - (intOf i).toNat)
  case atStart => exact ⟨k0, rfl, Below.refl _ _, rfl⟩
  case round =>
    obtain ⟨k, rfl, hB, HE⟩ := hrel
    have L := HL.out.below hB hlt0
    have c0 := L.c0
    have hs := hB.size
    by_cases hlt : k < s.size
    · have hkl : k < M.length := by rw [hlen.out]; exact hlt
      have hr0 := rawAt_neg M k
      have hr1 : 0 ≤ rawAt M k := by have := rawAt_neg M k; omega
      clear hr0
      by_cases a1 : cls (rawAt M k) = 1
      · have HN := Lib.hid (skip_lay M k hkl a1)
        have b1 : (cls (rawAt M k) == 1) = true := by simp [a1]
        clear a1
        go_wp2_with fail
        refine (lex_char _ _ _ _ _ _ L (by omega)).mono ?_; rintro e w1 ⟨rfl, hB1⟩; rw [Int.toNat_natCast, HM.out]
        go_wp2_with fail
        refine (chars_class _ _).mono ?_; rintro e w2 ⟨rfl, hB2⟩
        go_wp2_with fail
        go_roundw
        case rel => exact ⟨k + 1, by go_num, hB.trans ((hB1.mono (by omega)).trans (hB2.mono (by have := hB1.size; omega))), by have h1 := HE.out; have h2 := HN.out; show _ = _; omega⟩
        case measure => simp [intOf]; omega
      have b1 : (cls (rawAt M k) == 1) = false := by simp [a1]
      by_cases a2 : rawAt M k = 37
      · have HN := Lib.hid (skip_pct M k hkl a1 a2)
        have hsp := span_pos notNl (M.drop k) (by simp; omega) (by rw [rawAt_drop, Nat.add_zero, a2]; rfl)
        have b2 : (rawAt M k == 37) = true := by simp [a2]
        have A2 := Lib.hid a2
        clear a1 a2
        go_wp2_with fail
        refine (lex_char _ _ _ _ _ _ L (by omega)).mono ?_; rintro e w1 ⟨rfl, hB1⟩; rw [Int.toNat_natCast, HM.out]
        go_wp2_with fail
        refine (chars_class _ _).mono ?_; rintro e w2 ⟨rfl, hB2⟩
        have L2 := (L.below hB1 L.lt).below hB2 (L.below hB1 L.lt).lt
        go_wp2_with fail
        refine (run_notNl _ _ _ _ _ _ L2 (by omega)).mono ?_; rintro e w3 ⟨rfl, hB3⟩; rw [Int.toNat_natCast, HM.out]
        go_wp2_with fail
        go_roundw
        case rel => exact ⟨k + span notNl (M.drop k), by go_num, hB.trans ((hB1.mono (by omega)).trans ((hB2.mono (by have := hB1.size; omega)).trans (hB3.mono (by have := hB1.size; have := hB2.size; omega)))), by have h1 := HE.out; have h2 := HN.out; show _ = _; omega⟩
        case measure => simp [intOf]; omega
      have b2 : (rawAt M k == 37) = false := by simp [a2]
      by_cases a3 : rawAt M k = 47
      · have b3 : (rawAt M k == 47) = true := by simp [a3]
        have A1 := Lib.hid a1
        have A2 := Lib.hid a2
        have A3 := Lib.hid a3
        clear a1 a2 a3
        by_cases a4 : rawAt M (k + 1) = 42
        · have b4 : (rawAt M (k + 1) == 42) = true := by simp [a4]
          have A4 := Lib.hid a4
          clear a4
          go_wp2_with fail
          refine (lex_char _ _ _ _ _ _ L (by omega)).mono ?_; rintro e w1 ⟨rfl, hB1⟩; rw [Int.toNat_natCast, HM.out]
          go_wp2_with fail
          refine (chars_class _ _).mono ?_; rintro e w2 ⟨rfl, hB2⟩
          have L2 := (L.below hB1 L.lt).below hB2 (L.below hB1 L.lt).lt
          go_wp2_with fail
          refine (lex_char _ _ _ _ _ _ L2 (by omega)).mono ?_; rintro e w3 ⟨rfl, hB3⟩; rw [show ((k : Int) + 1).toNat = k + 1 by omega, HM.out]
          have L3 := L2.below hB3 L2.lt
          have hB' : Below w.heap.size w w3 := hB.trans ((hB1.mono (by omega)).trans ((hB2.mono (by have := hB1.size; omega)).trans (hB3.mono (by have := hB1.size; have := hB2.size; omega))))
          clear hB1 hB2 hB3 L2 L c0 hB
          go_wp2_with fail
          go_loopw [6] (fun x wx => ∃ e : Nat, k + 2 ≤ e ∧ e ≤ s.size ∧ x = .int .i64 e ∧ Below w.heap.size w wx ∧ Hid (closeAt (M.drop (k + 2)) = (closeAt (M.drop e)).map (· + (e - (k + 2))))) (fun x _ => s.size - (intOf x).toNat)
          case atStart =>
            have hk2 : k + 2 ≤ s.size := by
              have := rawAt_neg M (k + 1); have := A4.out; have := hlen.out; omega
            exact ⟨k + 2, Nat.le_refl _, hk2, by go_num, hB', by show _ = _; simp⟩
          case round =>
            obtain ⟨e, he1, he2, rfl, hBx, HC⟩ := hrel
            have Lx := HL.out.below hBx hlt0
            have c0 := Lx.c0
            have hsx := hBx.size
            by_cases helt : e < s.size
            · have hel : e < M.length := by rw [hlen.out]; exact helt
              by_cases d1 : rawAt M e = 42
              · have d1b : (rawAt M e == 42) = true := by simp [d1]
                have d1c : (rawAt M e != 42) = false := by simp [d1]
                have D1 := Lib.hid d1
                clear d1
                by_cases d2 : rawAt M (e + 1) = 47
                · have d2b : (rawAt M (e + 1) == 47) = true := by simp [d2]
                  have d2c : (rawAt M (e + 1) != 47) = false := by simp [d2]
                  have HK := Lib.hid (closeAt_yes M e hel D1.out d2)
                  have HS := Lib.hid (skip_com M k (e - (k + 2)) hkl A3.out A4.out (by rw [HC.out, HK.out]; simp))
                  clear d2
                  go_wp2_with fail
                  refine (lex_char _ _ _ _ _ _ Lx (by omega)).mono ?_; rintro e' w4 ⟨rfl, hB4⟩; rw [Int.toNat_natCast, HM.out]
                  have L4 := Lx.below hB4 Lx.lt
                  go_wp2_with fail
                  refine (lex_char _ _ _ _ _ _ L4 (by omega)).mono ?_; rintro e' w5 ⟨rfl, hB5⟩; rw [show ((e : Int) + 1).toNat = e + 1 by omega, HM.out]
                  have L5 := L4.below hB5 L4.lt
                  have c5 := L5.c0
                  have hne : ((e : Int) == (s.size : Int)) = false := by simp; omega
                  go_wp2_with fail
                  go_roundw
                  case rel => exact ⟨e + 2, by go_num, hBx.trans ((hB4.mono (by omega)).trans (hB5.mono (by have := hB4.size; omega))), skip_step M k e _ he1 HE.out HS.out⟩
                  case measure => simp [intOf]; omega
                · have d2b : (rawAt M (e + 1) == 47) = false := by simp [d2]
                  have d2c : (rawAt M (e + 1) != 47) = true := by simp [d2]
                  have HK := Lib.hid (closeAt_no M e hel (fun hh => d2 hh.2))
                  clear d2
                  go_wp2_with fail
                  refine (lex_char _ _ _ _ _ _ Lx (by omega)).mono ?_; rintro e' w4 ⟨rfl, hB4⟩; rw [Int.toNat_natCast, HM.out]
                  have L4 := Lx.below hB4 Lx.lt
                  go_wp2_with fail
                  refine (lex_char _ _ _ _ _ _ L4 (by omega)).mono ?_; rintro e' w5 ⟨rfl, hB5⟩; rw [show ((e : Int) + 1).toNat = e + 1 by omega, HM.out]
                  go_wp2_with fail
                  go_roundw
                  case rel => exact ⟨e + 1, by omega, by omega, by go_num, hBx.trans ((hB4.mono (by omega)).trans (hB5.mono (by have := hB4.size; omega))), close_step M k e he1 HC.out HK.out⟩
                  case measure => simp [intOf]; omega
              · have d1b : (rawAt M e == 42) = false := by simp [d1]
                have d1c : (rawAt M e != 42) = true := by simp [d1]
                have HK := Lib.hid (closeAt_no M e hel (fun hh => d1 hh.1))
                clear d1
                go_wp2_with fail
                refine (lex_char _ _ _ _ _ _ Lx (by omega)).mono ?_; rintro e' w4 ⟨rfl, hB4⟩; rw [Int.toNat_natCast, HM.out]
                go_wp2_with fail
                go_roundw
                case rel => exact ⟨e + 1, by omega, by omega, by go_num, hBx.trans (hB4.mono (by omega)), close_step M k e he1 HC.out HK.out⟩
                case measure => simp [intOf]; omega
            · obtain rfl : e = s.size := by omega
              have HK := Lib.hid (closeAt_end M s.size (by rw [hlen.out]; exact Nat.le_refl _))
              have HS := Lib.hid (skip_open M k hkl A3.out A4.out (by rw [HC.out, HK.out]; rfl))
              go_wp2_with fail
              go_ret
              exact ⟨ret_int (by have h1 := HE.out; have h2 := HS.out; omega), hBx⟩
        · have b4 : (rawAt M (k + 1) == 42) = false := by simp [a4]
          have HN := Lib.hid (skip_no M k hkl A1.out A2.out (fun hh => a4 hh.2))
          clear a4
          go_wp2_with fail
          refine (lex_char _ _ _ _ _ _ L (by omega)).mono ?_; rintro e w1 ⟨rfl, hB1⟩; rw [Int.toNat_natCast, HM.out]
          go_wp2_with fail
          refine (chars_class _ _).mono ?_; rintro e w2 ⟨rfl, hB2⟩
          have L2 := (L.below hB1 L.lt).below hB2 (L.below hB1 L.lt).lt
          go_wp2_with fail
          refine (lex_char _ _ _ _ _ _ L2 (by omega)).mono ?_; rintro e w3 ⟨rfl, hB3⟩; rw [show ((k : Int) + 1).toNat = k + 1 by omega, HM.out]
          go_wp2_with fail
          go_ret
          exact ⟨ret_int (by have h1 := HE.out; have h2 := HN.out; omega), hB.trans ((hB1.mono (by omega)).trans ((hB2.mono (by have := hB1.size; omega)).trans (hB3.mono (by have := hB1.size; have := hB2.size; omega))))⟩
      · have b3 : (rawAt M k == 47) = false := by simp [a3]
        have HN := Lib.hid (skip_no M k hkl a1 a2 (fun hh => a3 hh.1))
        clear a1 a2 a3
        go_wp2_with fail
        refine (lex_char _ _ _ _ _ _ L (by omega)).mono ?_; rintro e w1 ⟨rfl, hB1⟩; rw [Int.toNat_natCast, HM.out]
        go_wp2_with fail
        refine (chars_class _ _).mono ?_; rintro e w2 ⟨rfl, hB2⟩
        go_wp2_with fail
        go_ret
        exact ⟨ret_int (by have h1 := HE.out; have h2 := HN.out; omega), hB.trans ((hB1.mono (by omega)).trans (hB2.mono (by have := hB1.size; omega)))⟩
    · have hkl : M.length ≤ k := by rw [hlen.out]; omega
      have HR := Lib.hid (rawAt_out M k hkl)
      have HN := Lib.hid (skip_end M k hkl)
      go_wp2_with fail
      refine (lex_char _ _ _ _ _ _ L (by omega)).mono ?_; rintro e w1 ⟨rfl, hB1⟩; rw [Int.toNat_natCast, HM.out, HR.out]
      go_wp2_with fail
      go_ret
      exact ⟨ret_int (by have h1 := HE.out; have h2 := HN.out; omega), hB.trans (hB1.mono (by omega))⟩
end Go.Proofs.YtmjeajfakhmakaaDoor
