/- Contracts of the lexer: digits, integers, quoted characters. -/
import Derived.Test.YtmjeajfakhmakaaDoorLex6
import Derived.Test.YtmjeajfakhmakaaDoorNum
import Derived.Test.YtmjeajfakhmakaaDoorChars3
namespace Go.Proofs.YtmjeajfakhmakaaDoor
open Go.RowKit Hb
set_option maxRecDepth 100000

set_option maxHeartbeats 400000 in
theorem lex_digits (b : Nat) (s : ByteArray) (tab : Int → Int) (at_ i base : Int) (w : World) (h : Lex w b s tab at_) (h0 : 0 ≤ i) :
    Calls Tryd.prog 81 #[.pointer (some ⟨b, 0, none⟩), .int .i64 i, .int .i64 base] w fun e w' => e = .returned (.int .i64 (i + span (isDig base) ((cvt tab s.data.toList).drop i.toNat))) ∧ Below w.heap.size w w' := by
  have HA := (Below.refl w.heap.size w).alloc (Nat.le_refl _) (.cells #[.int .i64 base] 3)
  have L := Lib.hid (h.below HA h.lt)
  clear h
  go_enter Tryd.func81, Tryd.ntmps81
  go_wp2_with fail
  refine (run_dig b s tab at_ i base w.heap.size _ L.out h0 (by simp) (by simp)).mono ?_; rintro e w1 ⟨rfl, hB⟩
  go_wp2_with fail
  go_ret
  exact ⟨ret_int rfl, HA.trans (hB.mono (by simp))⟩

/-- What 'integer' makes of digits. -/
theorem parse_ok (base : Int) (ds : List UInt8) (h : natOf base ds ≤ 9223372036854775808) : parseN base ds = -(natOf base ds : Int) ∧ parseE base ds = 0 := by unfold parseN parseE; rw [if_pos h, if_pos h]; exact ⟨rfl, rfl⟩
theorem parse_no (base : Int) (ds : List UInt8) (h : ¬natOf base ds ≤ 9223372036854775808) : parseN base ds = 0 ∧ parseE base ds = 10 := by unfold parseN parseE; rw [if_neg h, if_neg h]; exact ⟨rfl, rfl⟩

set_option maxHeartbeats 800000 in
theorem lex_integer (b : Nat) (s : ByteArray) (tab : Int → Int) (p base end_ : Int) (t : List UInt8) (w : World) (h : Lex w b s tab p) (hne : 0 < t.length) (hsz : t.length ≤ 16384) (h0 : 2 ≤ base) (h1 : base ≤ 36)
    (hok : ∀ k, k < t.length → dgt (bAt t k) < base) :
    Calls Tryd.prog 82 #[.pointer (some ⟨b, 0, none⟩), .string ⟨t.toArray⟩, .int .i64 base, .int .i64 end_] w fun e w' => Gives (intR base t p end_) e ∧ Below w.heap.size w w' := by
  have H0 := Held.start h
  have hlt := h.lt
  have ca := h.ca
  clear h
  have HOK := Lib.hid hok
  clear hok
  by_cases hn : natOf base t ≤ 9223372036854775808
  · have HP := Lib.hid (parse_ok base t hn)
    by_cases hm : natOf base t = 9223372036854775808
    · have HR := Lib.hid (show intR base t p end_ = ⟨4, [], -9223372036854775808, p, end_, 0⟩ by unfold intR; rw [if_pos hn, if_pos hm])
      have HM := Lib.hid hm
      clear hn hm
      go_enter Tryd.func82, Tryd.ntmps82
      go_wp2_with fail
      refine (ints_parse _ base t _ (by simp) hne hsz h0 h1 HOK.out).mono ?_; rintro e w1 ⟨rfl, rfl⟩; rw [HP.out.1, HP.out.2, HM.out]
      go_wp2_with fail
      refine bodyPost_ret (v := tokTup ⟨4, [], -9223372036854775808, p, end_, 0⟩) (by simp [tokTup, results, Tryd.results82, go_sem]) rfl ⟨?_, (Below.refl _ _).alloc (Nat.le_refl _) _⟩
      rw [HR.out]; rfl
    · have HR := Lib.hid (show intR base t p end_ = ⟨4, [], natOf base t, p, end_, 0⟩ by unfold intR; rw [if_pos hn, if_neg hm])
      have hb1 : ((-(natOf base t : Int)) == -9223372036854775808) = false := by simp; omega
      have hb2 : ((-(natOf base t : Int)) != -9223372036854775808) = true := by simp; omega
      have hn' : (natOf base t : Int) ≤ 9223372036854775807 := by omega
      clear hm
      generalize hN : natOf base t = N at *
      have HN := Lib.hid hN
      clear hN
      go_enter Tryd.func82, Tryd.ntmps82
      go_wp2_with fail
      refine (ints_parse _ base t _ (by simp) hne hsz h0 h1 HOK.out).mono ?_; rintro e w1 ⟨rfl, rfl⟩; rw [HP.out.1, HP.out.2]
      go_wp2_with fail
      refine bodyPost_ret (v := tokTup ⟨4, [], (N : Int), p, end_, 0⟩) (by simp [tokTup, results, Tryd.results82, go_sem]) rfl ⟨?_, (Below.refl _ _).alloc (Nat.le_refl _) _⟩
      rw [HR.out]; rfl
  · have HP := Lib.hid (parse_no base t hn)
    have HR := Lib.hid (show intR base t p end_ = errR 7 by unfold intR; rw [if_neg hn])
    clear hn
    go_enter Tryd.func82, Tryd.ntmps82
    go_wp2_with fail
    refine (ints_parse _ base t _ (by simp) hne hsz h0 h1 HOK.out).mono ?_; rintro e w1 ⟨rfl, rfl⟩; rw [HP.out.1, HP.out.2]
    go_wp2_with fail
    refine bodyPost_ret (v := tokTup (errR 7)) (by simp [tokTup, errR, results, Tryd.results82, go_sem]) rfl ⟨?_, (Below.refl _ _).alloc (Nat.le_refl _) _⟩
    rw [HR.out]; rfl

/-- What 'quoted' returns. -/
def QRes (r : Option (Int × Nat)) (i : Int) (e : Ending) : Prop :=
  match r with
  | some (c, k) => e = .returned (.tuple #[.int .i64 c, .int .i64 (i + k), .bool true])
  | none => ∃ c n, e = .returned (.tuple #[.int .i64 c, .int .i64 n, .bool false])
theorem QRes.no {r : Option (Int × Nat)} {i c n : Int} (h : r = none) : QRes r i (.returned (.tuple #[.int .i64 c, .int .i64 n, .bool false])) := by subst h; exact ⟨c, n, rfl⟩
theorem QRes.yes {r : Option (Int × Nat)} {i c n : Int} {k : Nat} (h : r = some (c, k)) (hn : n = i + k) : QRes r i (.returned (.tuple #[.int .i64 c, .int .i64 n, .bool true])) := by subst h; subst hn; rfl

set_option maxHeartbeats 1600000 in
theorem lex_quoted (b : Nat) (s : ByteArray) (tab : Int → Int) (at_ i q : Int) (w : World) (h : Lex w b s tab at_) (h0 : 0 ≤ i) (hi : i ≤ 20000) :
    Calls Tryd.prog 80 #[.pointer (some ⟨b, 0, none⟩), .int .i64 i, .int .i64 q] w fun e w' => QRes (quotedS (s.data.toList.drop i.toNat) q) i e ∧ w = w' := by
  obtain ⟨k, rfl⟩ := Int.eq_ofNat_of_zero_le h0
  have L := Lib.hid h
  clear h
  rw [Int.toNat_natCast]
  have r0 : rawAt (s.data.toList.drop k) 0 = rawAt s.data.toList k := by rw [rawAt_drop, Nat.add_zero]
  have r1 : rawAt (s.data.toList.drop k) 1 = rawAt s.data.toList (k + 1) := rawAt_drop _ _ _
  have R0 := Lib.hid r0
  have R1 := Lib.hid r1
  clear r0 r1
  generalize hM : s.data.toList = M at *
  have HM := Lib.hid hM
  clear hM
  by_cases a1 : rawAt M k < 0 ∨ rawAt M k = 10
  · have HQ := Lib.hid (show quotedS (M.drop k) q = none by unfold quotedS; rw [R0.out, if_pos a1])
    have hd : decide (rawAt M k < 0) = true ∨ (decide (rawAt M k < 0) = false ∧ (rawAt M k == 10) = true) := by grind
    clear a1
    rcases hd with d1 | ⟨d1, d2⟩
    all_goals
      go_enter Tryd.func80, Tryd.ntmps80
      go_wp2_with fail
      refine (lex_raw _ _ _ _ _ _ L.out (by omega)).mono ?_; rintro e w1 ⟨rfl, rfl⟩; rw [Int.toNat_natCast, HM.out]
      go_wp2_with fail
      go_ret3
      exact ⟨QRes.no HQ.out, rfl⟩
  have d1 : decide (rawAt M k < 0) = false := by simp; omega
  have d2 : (rawAt M k == 10) = false := by simp; omega
  by_cases a2 : rawAt M k = q
  · have b2 : (rawAt M k == q) = true := by simp [a2]
    have A1 := Lib.hid a1
    have A2 := Lib.hid a2
    clear a1 a2
    by_cases a3 : rawAt M (k + 1) = q
    · have b3 : (rawAt M (k + 1) == q) = true := by simp [a3]
      have HQ := Lib.hid (show quotedS (M.drop k) q = some (q, 2) by unfold quotedS; rw [R0.out, R1.out, if_neg A1.out, if_pos A2.out, if_pos a3])
      clear a3
      go_enter Tryd.func80, Tryd.ntmps80
      go_wp2_with fail
      refine (lex_raw _ _ _ _ _ _ L.out (by omega)).mono ?_; rintro e w1 ⟨rfl, rfl⟩; rw [Int.toNat_natCast, HM.out]
      go_wp2_with fail
      refine (lex_raw _ _ _ _ _ _ L.out (by omega)).mono ?_; rintro e w1 ⟨rfl, rfl⟩; rw [show ((k : Int) + 1).toNat = k + 1 by omega, HM.out]
      go_wp2_with fail
      go_ret3
      exact ⟨QRes.yes (HQ.out.trans (by rw [A2.out])) rfl, rfl⟩
    · have b3 : (rawAt M (k + 1) == q) = false := by simp [a3]
      have HQ := Lib.hid (show quotedS (M.drop k) q = none by unfold quotedS; rw [R0.out, R1.out, if_neg A1.out, if_pos A2.out, if_neg a3])
      clear a3
      go_enter Tryd.func80, Tryd.ntmps80
      go_wp2_with fail
      refine (lex_raw _ _ _ _ _ _ L.out (by omega)).mono ?_; rintro e w1 ⟨rfl, rfl⟩; rw [Int.toNat_natCast, HM.out]
      go_wp2_with fail
      refine (lex_raw _ _ _ _ _ _ L.out (by omega)).mono ?_; rintro e w1 ⟨rfl, rfl⟩; rw [show ((k : Int) + 1).toNat = k + 1 by omega, HM.out]
      go_wp2_with fail
      go_ret3
      exact ⟨QRes.no HQ.out, rfl⟩
  have b2 : (rawAt M k == q) = false := by simp [a2]
  by_cases a3 : rawAt M k = 92
  · have b3 : (rawAt M k != 92) = false := by simp [a3]
    have A1 := Lib.hid a1
    have A2 := Lib.hid a2
    have A3 := Lib.hid a3
    clear a1 a2 a3
    cases a4 : uneOk (rawAt M (k + 1))
    · have A4 := Lib.hid a4
      clear a4
      have HF : ∃ fr : Nat, ∃ bs : Int, Hid (escFrom (M.drop k) = fr) ∧ Hid (escBase (M.drop k) = bs) ∧ (((rawAt M (k + 1) == 120) = true ∧ fr = 2 ∧ bs = 16) ∨ ((rawAt M (k + 1) == 120) = false ∧ fr = 1 ∧ bs = 8)) := by
        refine ⟨_, _, rfl, rfl, ?_⟩
        unfold escFrom escBase; rw [R1.out]
        by_cases h : rawAt M (k + 1) = 120 <;> simp [h]
      obtain ⟨fr, bs, HFr, HBs, hcs⟩ := HF
      have hbs : 2 ≤ bs ∧ bs ≤ 36 := by omega
      have hfr : 1 ≤ fr ∧ fr ≤ 2 := by omega
      have HD : Hid (escLen (M.drop k) = span (isDig bs) (M.drop (k + fr))) := by show _ = _; unfold escLen; rw [HFr.out, HBs.out, List.drop_drop]
      have HNm : Hid (escNum (M.drop k) = natOf bs ((M.drop (k + fr)).take (span (isDig bs) (M.drop (k + fr))))) := by show _ = _; unfold escNum; rw [HD.out, HFr.out, HBs.out, List.drop_drop]
      have HX : Hid (∀ j, rawAt (M.drop k) (fr + j) = rawAt M (k + fr + j)) := fun j => by rw [rawAt_drop, Nat.add_assoc]
      generalize hDl : span (isDig bs) (M.drop (k + fr)) = D at *
      have HDl := Lib.hid hDl
      clear hDl
      have Q0 : Hid (rawAt (M.drop k) 0 = 92) := R0.out.trans A3.out
      have Q1 : Hid (¬rawAt (M.drop k) 0 = q) := fun h => A2.out (R0.out.symm.trans h)
      have Q2 : Hid (uneOk (rawAt (M.drop k) 1) = false) := by show _ = _; rw [R1.out]; exact A4.out
      have HDle : D ≤ 20000 := by
        have h1 := span_le (isDig bs) (M.drop (k + fr)); rw [HDl.out] at h1
        have h2 : M.length ≤ 16384 := by rw [← HM.out]; have := L.out.sz; simp; omega
        have h3 : (M.drop (k + fr)).length ≤ M.length := by simp
        omega
      rcases hcs with ⟨x1, rfl, rfl⟩ | ⟨x1, rfl, rfl⟩
      · have HX0 := HX
        clear HX
        go_enter Tryd.func80, Tryd.ntmps80
        go_wp2_with fail
        refine (lex_raw _ _ _ _ _ _ L.out (by omega)).mono ?_; rintro e w1 ⟨rfl, rfl⟩; rw [Int.toNat_natCast, HM.out]
        go_wp2_with fail
        refine (lex_raw _ _ _ _ _ _ L.out (by omega)).mono ?_; rintro e w1 ⟨rfl, rfl⟩; rw [show ((k : Int) + 1).toNat = k + 1 by omega, HM.out]
        go_wp2_with fail
        refine (chars_unescape _ _).mono ?_; rintro e w1 ⟨rfl, rfl⟩; rw [A4.out]
        go_wp2_with fail
        go_loop [14, 15] (fun n e => ∃ j : Nat, j ≤ D ∧ e = .int .i64 (k + 2 + j : Nat) ∧ n = .int .i64 (natOf 16 ((M.drop (k + 2)).take j)) ∧ natOf 16 ((M.drop (k + 2)).take j) ≤ 5000) (fun _ e => k + 2 + D - (intOf e).toNat)
        case atStart => exact ⟨0, Nat.zero_le _, by go_num, rfl, by simp [natOf]⟩
        case round =>
          obtain ⟨j, hj, rfl, rfl, hn⟩ := hrel
          have HMn := Lib.hid (natOf_mono 16 (by decide) ((M.drop (k + 2)).take D) j)
          have HTk := Lib.hid (show ((M.drop (k + 2)).take D).take j = (M.drop (k + 2)).take j by rw [List.take_take, Nat.min_eq_left hj])
          by_cases hlt : j < D
          · have HSt := Lib.hid (natOf_step 16 (by decide) (by decide) (M.drop (k + 2)) j (by rw [HDl.out]; exact hlt))
            have HR := Lib.hid (rawAt_drop M (k + 2) j)
            have HOk := Lib.hid ((span_rest (isDig 16) (M.drop (k + 2)) j (by rw [HDl.out]; exact hlt)).1)
            rw [HR.out] at HSt HOk
            have hd0 := HSt.out.2.1
            have hd1 := HSt.out.2.2
            have HS1 := Lib.hid HSt.out.1
            clear HSt
            by_cases hbig : natOf 16 ((M.drop (k + 2)).take j) ≤ 255
            · generalize hN : natOf 16 ((M.drop (k + 2)).take j) = N at *
              have HN := Lib.hid hN
              clear hN
              go_wp2_with fail
              refine (lex_raw _ _ _ _ _ _ L.out (by omega)).mono ?_; rintro e w1 ⟨rfl, rfl⟩; rw [show ((k : Int) + 2 + j).toNat = k + 2 + j by omega, HM.out]
              go_wp2_with fail
              refine (chars_digit _ _ _).mono ?_; rintro e w1 ⟨rfl, rfl⟩; rw [show digOk (rawAt M (k + 2 + j)) 16 = true from HOk.out]
              generalize hV : digV (rawAt M (k + 2 + j)) 16 = V at *
              have HV := Lib.hid hV
              clear hV
              go_wp2_with fail
              go_round
              case rel => exact ⟨j + 1, by omega, by go_num, congrArg (Value.int IntKind.i64) HS1.out.symm, by have := HS1.out; omega⟩
              case measure => simp [intOf]; omega
            · have HQ := Lib.hid (esc_none1 (M.drop k) q Q0.out Q1.out Q2.out (fun hx => hbig (by
                have h1 := hx.2.1
                rw [HNm.out] at h1
                have h2 := HMn.out
                rw [HTk.out] at h2
                omega)))
              have hj0 : 0 < j := by
                rcases Nat.eq_zero_or_pos j with h | h
                · subst h; exact absurd (by simp [natOf]) hbig
                · exact h
              generalize hN : natOf 16 ((M.drop (k + 2)).take j) = N at *
              have HN := Lib.hid hN
              clear hN
              go_wp2_with fail
              refine (lex_raw _ _ _ _ _ _ L.out (by omega)).mono ?_; rintro e w1 ⟨rfl, rfl⟩; rw [show ((k : Int) + 2 + j).toNat = k + 2 + j by omega, HM.out]
              go_wp2_with fail
              refine (chars_digit _ _ _).mono ?_; rintro e w1 ⟨rfl, rfl⟩; rw [show digOk (rawAt M (k + 2 + j)) 16 = true from HOk.out]
              go_wp2_with fail
              go_ret3
              exact ⟨QRes.no HQ.out, rfl⟩
          · obtain rfl : j = D := by omega
            have HOk := Lib.hid (span_stop (isDig 16) (isDig_end 16) (M.drop (k + 2)))
            rw [HDl.out, rawAt_drop] at HOk
            by_cases hj0 : 0 < j
            · by_cases hbig : natOf 16 ((M.drop (k + 2)).take j) ≤ 255
              · have HXj := HX0.out j
                by_cases hend : rawAt M (k + 2 + j) = 92
                · have hendb : (rawAt M (k + 2 + j) == 92) = true := by simp [hend]
                  have HQ := Lib.hid (esc_some1 (M.drop k) q Q0.out Q1.out Q2.out ⟨by rw [HD.out]; exact hj0, by rw [HNm.out]; exact hbig, by rw [HFr.out, HD.out, HXj, hend]⟩)
                  have HXh := Lib.hid HXj
                  clear hend HXj
                  generalize hN : natOf 16 ((M.drop (k + 2)).take j) = N at *
                  have HN := Lib.hid hN
                  clear hN
                  go_wp2_with fail
                  refine (lex_raw _ _ _ _ _ _ L.out (by omega)).mono ?_; rintro e w1 ⟨rfl, rfl⟩; rw [show ((k : Int) + 2 + j).toNat = k + 2 + j by omega, HM.out]
                  go_wp2_with fail
                  refine (chars_digit _ _ _).mono ?_; rintro e w1 ⟨rfl, rfl⟩; rw [show digOk (rawAt M (k + 2 + j)) 16 = false from HOk.out]
                  go_wp2_with fail
                  refine (lex_raw _ _ _ _ _ _ L.out (by omega)).mono ?_; rintro e w1 ⟨rfl, rfl⟩; rw [show ((k : Int) + 2 + j).toNat = k + 2 + j by omega, HM.out]
                  go_wp2_with fail
                  go_ret3
                  exact ⟨QRes.yes (HQ.out.trans (by rw [HNm.out, HFr.out, HD.out])) (by omega), rfl⟩
                · have hendb : (rawAt M (k + 2 + j) == 92) = false := by simp [hend]
                  have HQ := Lib.hid (esc_none1 (M.drop k) q Q0.out Q1.out Q2.out (fun hx => hend (by have := hx.2.2; rw [HFr.out, HD.out, HXj] at this; exact this)))
                  have HXh := Lib.hid HXj
                  clear hend HXj
                  generalize hN : natOf 16 ((M.drop (k + 2)).take j) = N at *
                  have HN := Lib.hid hN
                  clear hN
                  go_wp2_with fail
                  refine (lex_raw _ _ _ _ _ _ L.out (by omega)).mono ?_; rintro e w1 ⟨rfl, rfl⟩; rw [show ((k : Int) + 2 + j).toNat = k + 2 + j by omega, HM.out]
                  go_wp2_with fail
                  refine (chars_digit _ _ _).mono ?_; rintro e w1 ⟨rfl, rfl⟩; rw [show digOk (rawAt M (k + 2 + j)) 16 = false from HOk.out]
                  go_wp2_with fail
                  refine (lex_raw _ _ _ _ _ _ L.out (by omega)).mono ?_; rintro e w1 ⟨rfl, rfl⟩; rw [show ((k : Int) + 2 + j).toNat = k + 2 + j by omega, HM.out]
                  go_wp2_with fail
                  go_ret3
                  exact ⟨QRes.no HQ.out, rfl⟩
              · have HQ := Lib.hid (esc_none1 (M.drop k) q Q0.out Q1.out Q2.out (fun hx => hbig (by have h1 := hx.2.1; rw [HNm.out] at h1; exact h1)))
                generalize hN : natOf 16 ((M.drop (k + 2)).take j) = N at *
                have HN := Lib.hid hN
                clear hN
                go_wp2_with fail
                refine (lex_raw _ _ _ _ _ _ L.out (by omega)).mono ?_; rintro e w1 ⟨rfl, rfl⟩; rw [show ((k : Int) + 2 + j).toNat = k + 2 + j by omega, HM.out]
                go_wp2_with fail
                refine (chars_digit _ _ _).mono ?_; rintro e w1 ⟨rfl, rfl⟩; rw [show digOk (rawAt M (k + 2 + j)) 16 = false from HOk.out]
                go_wp2_with fail
                go_ret3
                exact ⟨QRes.no HQ.out, rfl⟩
            · have HQ := Lib.hid (esc_none1 (M.drop k) q Q0.out Q1.out Q2.out (fun hx => hj0 (by have h1 := hx.1; rw [HD.out] at h1; exact h1)))
              generalize hN : natOf 16 ((M.drop (k + 2)).take j) = N at *
              have HN := Lib.hid hN
              clear hN
              go_wp2_with fail
              refine (lex_raw _ _ _ _ _ _ L.out (by omega)).mono ?_; rintro e w1 ⟨rfl, rfl⟩; rw [show ((k : Int) + 2 + j).toNat = k + 2 + j by omega, HM.out]
              go_wp2_with fail
              refine (chars_digit _ _ _).mono ?_; rintro e w1 ⟨rfl, rfl⟩; rw [show digOk (rawAt M (k + 2 + j)) 16 = false from HOk.out]
              go_wp2_with fail
              go_ret3
              exact ⟨QRes.no HQ.out, rfl⟩
      · have HX0 := HX
        clear HX
        go_enter Tryd.func80, Tryd.ntmps80
        go_wp2_with fail
        refine (lex_raw _ _ _ _ _ _ L.out (by omega)).mono ?_; rintro e w1 ⟨rfl, rfl⟩; rw [Int.toNat_natCast, HM.out]
        go_wp2_with fail
        refine (lex_raw _ _ _ _ _ _ L.out (by omega)).mono ?_; rintro e w1 ⟨rfl, rfl⟩; rw [show ((k : Int) + 1).toNat = k + 1 by omega, HM.out]
        go_wp2_with fail
        refine (chars_unescape _ _).mono ?_; rintro e w1 ⟨rfl, rfl⟩; rw [A4.out]
        go_wp2_with fail
        go_loop [14, 15] (fun n e => ∃ j : Nat, j ≤ D ∧ e = .int .i64 (k + 1 + j : Nat) ∧ n = .int .i64 (natOf 8 ((M.drop (k + 1)).take j)) ∧ natOf 8 ((M.drop (k + 1)).take j) ≤ 5000) (fun _ e => k + 1 + D - (intOf e).toNat)
        case atStart => exact ⟨0, Nat.zero_le _, by go_num, rfl, by simp [natOf]⟩
        case round =>
          obtain ⟨j, hj, rfl, rfl, hn⟩ := hrel
          have HMn := Lib.hid (natOf_mono 8 (by decide) ((M.drop (k + 1)).take D) j)
          have HTk := Lib.hid (show ((M.drop (k + 1)).take D).take j = (M.drop (k + 1)).take j by rw [List.take_take, Nat.min_eq_left hj])
          by_cases hlt : j < D
          · have HSt := Lib.hid (natOf_step 8 (by decide) (by decide) (M.drop (k + 1)) j (by rw [HDl.out]; exact hlt))
            have HR := Lib.hid (rawAt_drop M (k + 1) j)
            have HOk := Lib.hid ((span_rest (isDig 8) (M.drop (k + 1)) j (by rw [HDl.out]; exact hlt)).1)
            rw [HR.out] at HSt HOk
            have hd0 := HSt.out.2.1
            have hd1 := HSt.out.2.2
            have HS1 := Lib.hid HSt.out.1
            clear HSt
            by_cases hbig : natOf 8 ((M.drop (k + 1)).take j) ≤ 255
            · generalize hN : natOf 8 ((M.drop (k + 1)).take j) = N at *
              have HN := Lib.hid hN
              clear hN
              go_wp2_with fail
              refine (lex_raw _ _ _ _ _ _ L.out (by omega)).mono ?_; rintro e w1 ⟨rfl, rfl⟩; rw [show ((k : Int) + 1 + j).toNat = k + 1 + j by omega, HM.out]
              go_wp2_with fail
              refine (chars_digit _ _ _).mono ?_; rintro e w1 ⟨rfl, rfl⟩; rw [show digOk (rawAt M (k + 1 + j)) 8 = true from HOk.out]
              generalize hV : digV (rawAt M (k + 1 + j)) 8 = V at *
              have HV := Lib.hid hV
              clear hV
              go_wp2_with fail
              go_round
              case rel => exact ⟨j + 1, by omega, by go_num, congrArg (Value.int IntKind.i64) HS1.out.symm, by have := HS1.out; omega⟩
              case measure => simp [intOf]; omega
            · have HQ := Lib.hid (esc_none1 (M.drop k) q Q0.out Q1.out Q2.out (fun hx => hbig (by
                have h1 := hx.2.1
                rw [HNm.out] at h1
                have h2 := HMn.out
                rw [HTk.out] at h2
                omega)))
              have hj0 : 0 < j := by
                rcases Nat.eq_zero_or_pos j with h | h
                · subst h; exact absurd (by simp [natOf]) hbig
                · exact h
              generalize hN : natOf 8 ((M.drop (k + 1)).take j) = N at *
              have HN := Lib.hid hN
              clear hN
              go_wp2_with fail
              refine (lex_raw _ _ _ _ _ _ L.out (by omega)).mono ?_; rintro e w1 ⟨rfl, rfl⟩; rw [show ((k : Int) + 1 + j).toNat = k + 1 + j by omega, HM.out]
              go_wp2_with fail
              refine (chars_digit _ _ _).mono ?_; rintro e w1 ⟨rfl, rfl⟩; rw [show digOk (rawAt M (k + 1 + j)) 8 = true from HOk.out]
              go_wp2_with fail
              go_ret3
              exact ⟨QRes.no HQ.out, rfl⟩
          · obtain rfl : j = D := by omega
            have HOk := Lib.hid (span_stop (isDig 8) (isDig_end 8) (M.drop (k + 1)))
            rw [HDl.out, rawAt_drop] at HOk
            by_cases hj0 : 0 < j
            · by_cases hbig : natOf 8 ((M.drop (k + 1)).take j) ≤ 255
              · have HXj := HX0.out j
                by_cases hend : rawAt M (k + 1 + j) = 92
                · have hendb : (rawAt M (k + 1 + j) == 92) = true := by simp [hend]
                  have HQ := Lib.hid (esc_some1 (M.drop k) q Q0.out Q1.out Q2.out ⟨by rw [HD.out]; exact hj0, by rw [HNm.out]; exact hbig, by rw [HFr.out, HD.out, HXj, hend]⟩)
                  have HXh := Lib.hid HXj
                  clear hend HXj
                  generalize hN : natOf 8 ((M.drop (k + 1)).take j) = N at *
                  have HN := Lib.hid hN
                  clear hN
                  go_wp2_with fail
                  refine (lex_raw _ _ _ _ _ _ L.out (by omega)).mono ?_; rintro e w1 ⟨rfl, rfl⟩; rw [show ((k : Int) + 1 + j).toNat = k + 1 + j by omega, HM.out]
                  go_wp2_with fail
                  refine (chars_digit _ _ _).mono ?_; rintro e w1 ⟨rfl, rfl⟩; rw [show digOk (rawAt M (k + 1 + j)) 8 = false from HOk.out]
                  go_wp2_with fail
                  refine (lex_raw _ _ _ _ _ _ L.out (by omega)).mono ?_; rintro e w1 ⟨rfl, rfl⟩; rw [show ((k : Int) + 1 + j).toNat = k + 1 + j by omega, HM.out]
                  go_wp2_with fail
                  go_ret3
                  exact ⟨QRes.yes (HQ.out.trans (by rw [HNm.out, HFr.out, HD.out])) (by omega), rfl⟩
                · have hendb : (rawAt M (k + 1 + j) == 92) = false := by simp [hend]
                  have HQ := Lib.hid (esc_none1 (M.drop k) q Q0.out Q1.out Q2.out (fun hx => hend (by have := hx.2.2; rw [HFr.out, HD.out, HXj] at this; exact this)))
                  have HXh := Lib.hid HXj
                  clear hend HXj
                  generalize hN : natOf 8 ((M.drop (k + 1)).take j) = N at *
                  have HN := Lib.hid hN
                  clear hN
                  go_wp2_with fail
                  refine (lex_raw _ _ _ _ _ _ L.out (by omega)).mono ?_; rintro e w1 ⟨rfl, rfl⟩; rw [show ((k : Int) + 1 + j).toNat = k + 1 + j by omega, HM.out]
                  go_wp2_with fail
                  refine (chars_digit _ _ _).mono ?_; rintro e w1 ⟨rfl, rfl⟩; rw [show digOk (rawAt M (k + 1 + j)) 8 = false from HOk.out]
                  go_wp2_with fail
                  refine (lex_raw _ _ _ _ _ _ L.out (by omega)).mono ?_; rintro e w1 ⟨rfl, rfl⟩; rw [show ((k : Int) + 1 + j).toNat = k + 1 + j by omega, HM.out]
                  go_wp2_with fail
                  go_ret3
                  exact ⟨QRes.no HQ.out, rfl⟩
              · have HQ := Lib.hid (esc_none1 (M.drop k) q Q0.out Q1.out Q2.out (fun hx => hbig (by have h1 := hx.2.1; rw [HNm.out] at h1; exact h1)))
                generalize hN : natOf 8 ((M.drop (k + 1)).take j) = N at *
                have HN := Lib.hid hN
                clear hN
                go_wp2_with fail
                refine (lex_raw _ _ _ _ _ _ L.out (by omega)).mono ?_; rintro e w1 ⟨rfl, rfl⟩; rw [show ((k : Int) + 1 + j).toNat = k + 1 + j by omega, HM.out]
                go_wp2_with fail
                refine (chars_digit _ _ _).mono ?_; rintro e w1 ⟨rfl, rfl⟩; rw [show digOk (rawAt M (k + 1 + j)) 8 = false from HOk.out]
                go_wp2_with fail
                go_ret3
                exact ⟨QRes.no HQ.out, rfl⟩
            · have HQ := Lib.hid (esc_none1 (M.drop k) q Q0.out Q1.out Q2.out (fun hx => hj0 (by have h1 := hx.1; rw [HD.out] at h1; exact h1)))
              generalize hN : natOf 8 ((M.drop (k + 1)).take j) = N at *
              have HN := Lib.hid hN
              clear hN
              go_wp2_with fail
              refine (lex_raw _ _ _ _ _ _ L.out (by omega)).mono ?_; rintro e w1 ⟨rfl, rfl⟩; rw [show ((k : Int) + 1 + j).toNat = k + 1 + j by omega, HM.out]
              go_wp2_with fail
              refine (chars_digit _ _ _).mono ?_; rintro e w1 ⟨rfl, rfl⟩; rw [show digOk (rawAt M (k + 1 + j)) 8 = false from HOk.out]
              go_wp2_with fail
              go_ret3
              exact ⟨QRes.no HQ.out, rfl⟩
    · have A4 := Lib.hid a4
      have HQ := Lib.hid (show quotedS (M.drop k) q = some (uneV (rawAt M (k + 1)), 2) by unfold quotedS; rw [R0.out, R1.out, if_neg A1.out, if_neg A2.out, if_neg (fun h => h A3.out), if_pos a4])
      clear a4
      go_enter Tryd.func80, Tryd.ntmps80
      go_wp2_with fail
      refine (lex_raw _ _ _ _ _ _ L.out (by omega)).mono ?_; rintro e w1 ⟨rfl, rfl⟩; rw [Int.toNat_natCast, HM.out]
      go_wp2_with fail
      refine (lex_raw _ _ _ _ _ _ L.out (by omega)).mono ?_; rintro e w1 ⟨rfl, rfl⟩; rw [show ((k : Int) + 1).toNat = k + 1 by omega, HM.out]
      go_wp2_with fail
      refine (chars_unescape _ _).mono ?_; rintro e w1 ⟨rfl, rfl⟩; rw [A4.out]
      go_wp2_with fail
      go_ret3
      exact ⟨QRes.yes HQ.out rfl, rfl⟩
  · have b3 : (rawAt M k != 92) = true := by simp [a3]
    have HQ := Lib.hid (show quotedS (M.drop k) q = some (rawAt M k, 1) by unfold quotedS; rw [R0.out, if_neg a1, if_neg a2, if_pos a3])
    clear a1 a2 a3
    go_enter Tryd.func80, Tryd.ntmps80
    go_wp2_with fail
    refine (lex_raw _ _ _ _ _ _ L.out (by omega)).mono ?_; rintro e w1 ⟨rfl, rfl⟩; rw [Int.toNat_natCast, HM.out]
    go_wp2_with fail
    go_ret3
    exact ⟨QRes.yes HQ.out rfl, rfl⟩
end Go.Proofs.YtmjeajfakhmakaaDoor
