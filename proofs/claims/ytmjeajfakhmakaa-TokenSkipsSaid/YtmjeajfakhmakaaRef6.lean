/- Contracts of layer 9's reference: the text by value: integer. -/
import Derived.Test.YtmjeajfakhmakaaRef4
import Derived.Test.YtmjeajfakhmakaaRefI
namespace Go.Proofs.Ytmjeajfakhmakaa
open Go.RowKit Hb
set_option maxRecDepth 100000

set_option maxHeartbeats 4000000 in
theorem integer_dec (s : ByteArray) (tab : Int → Int) (ht : TabOk tab) (p : Nat) (hp : p < s.size) (hsz : s.size ≤ 16384) (h : ¬rawAt (cvt tab s.data.toList) p = 48) (w : World) :
    Calls Try.prog 66 #[txtV s tab, .int .i64 p] w fun e w' => (∃ n k : Int, e = .returned (.tuple #[.int .i64 n, .int .i64 k, .bool ((numR (cvt tab s.data.toList) s.data.toList p).err == 0)]) ∧ IntGives (numR (cvt tab s.data.toList) s.data.toList p) n k) ∧ Below w.heap.size w w' := by
  have HT := Lib.hid ht
  clear ht
  have hlen : Hid ((cvt tab s.data.toList).length = s.size) := by show _ = _; rw [cvt_len]; simp
  generalize hM : cvt tab s.data.toList = M at *
  have HM := Lib.hid hM
  clear hM
  have HK := Lib.hid (show numR M s.data.toList p = intR 10 ((M.drop p).take (span (isDig 10) (M.drop p))) p (p + span (isDig 10) (M.drop p) : Nat) by unfold numR; rw [if_neg (fun hh => h hh.1), if_neg (by unfold numBase; rw [if_neg h]; omega)]; simp)
  have d1 : (rawAt M p == 48) = false := by simp [h]
  clear h
  have HDS := Lib.hid (dig_stop 10 M (p))
  have HDG := Lib.hid (dig_step 10 M (p))
  have HST := Lib.hid (sum_step 10 (by decide) (by decide) M (p))
  have hDl := span_le (isDig 10) (M.drop (p))
  generalize hD : span (isDig 10) (M.drop (p)) = D at *
  clear hD
  go_enter Try.func66, Try.ntmps66
  go_wp2_with (first | (refine wpList_box_txt rfl _ s tab rfl rfl ?_; intro b w1 T0 hle hB0) | (with_reducible refine at_load0 ?_; refine wpList_load_txt rfl _ rfl rfl T0 ?_))
  refine (txt_at_of s tab M HM HT _ p (by omega) _).mono ?_; rintro e w2 ⟨rfl, hB2⟩
  have T2 := T0.below hB2 T0.lt
  have hs0 := hB0.size
  go_wp2_with (first | (with_reducible refine at_load0 ?_; refine wpList_load_txt rfl _ rfl rfl T2 ?_) | (with_reducible refine at_load1 ?_; refine wpList_load_txtG _ rfl rfl T2 rfl ?_))
  refine (txt_at_of s tab M HM HT _ (p) (by omega) _).mono ?_; rintro e w3 ⟨rfl, hB3⟩
  have T3 := T2.below hB3 T2.lt
  have hBx : Below w.heap.size w w3 := hB0.trans (trans2 (by omega) hB2 hB3)
  go_wp2_with fail
  go_loopw [11, 15, 16] (fun x sm ft wr => ∃ j : Nat, ∃ S : Int, j ≤ D ∧ x = .int .i64 (p + j : Nat) ∧ sm = .int .u64 S ∧ ft = .bool (decide (natOf 10 ((M.drop (p)).take j) ≤ 9223372036854775808)) ∧ 0 ≤ S ∧ S ≤ 9223372036854775808 ∧ Hid (natOf 10 ((M.drop (p)).take j) ≤ 9223372036854775808 → S = natOf 10 ((M.drop (p)).take j)) ∧ Below w.heap.size w wr ∧ Txt wr b s tab) (fun x _ _ _ => s.size - (intOf x).toNat)
  case atStart => exact ⟨0, 0, Nat.zero_le _, by go_num, rfl, rfl, by omega, by omega, fun _ => rfl, hBx, T3⟩
  case round =>
    obtain ⟨j, S, hj, rfl, rfl, rfl, hS0, hS1, HS, hB, T⟩ := hrel
    have hs := hB.size
    by_cases hlt : j < D
    · obtain ⟨g1, g2⟩ := HDG.out j hlt
      rw [hlen.out] at g2
      obtain ⟨g3, g4, g5⟩ := HST.out j hlt
      have HNO := Lib.hid (sum_no 10 (by decide) (M.drop (p)) j)
      have HG3 := Lib.hid g3
      clear g3
      by_cases f1 : natOf 10 ((M.drop (p)).take j) ≤ 9223372036854775808
      · have HSv := Lib.hid (HS.out f1)
        have f1b : decide (natOf 10 ((M.drop (p)).take j) ≤ 9223372036854775808) = true := by simp; omega
        have hw1 : IntKind.u64.wrap (digV (rawAt M (p + j)) 10) = (digV (rawAt M (p + j)) 10) := IntWalk.u64_in _ (by omega)
        have hw2 : IntKind.u64.wrap (9223372036854775808 - (digV (rawAt M (p + j)) 10)) = 9223372036854775808 - (digV (rawAt M (p + j)) 10) := IntWalk.u64_in _ (by omega)
        have hw3 : IntKind.u64.wrap ((9223372036854775808 - (digV (rawAt M (p + j)) 10)).tdiv 10) = (9223372036854775808 - (digV (rawAt M (p + j)) 10)) / 10 := IntWalk.u64_quo _ _ (by omega)
        by_cases f2 : natOf 10 ((M.drop (p)).take (j + 1)) ≤ 9223372036854775808
        · have hS2 : S * 10 + (digV (rawAt M (p + j)) 10) ≤ 9223372036854775808 := by have := HSv.out; have := HG3.out; omega
          have f2b : decide (S ≤ (9223372036854775808 - (digV (rawAt M (p + j)) 10)) / 10) = true := by simp; omega
          have hw4 : IntKind.u64.wrap (S * 10) = S * 10 := IntWalk.u64_in _ (by omega)
          have hw5 : IntKind.u64.wrap (S * 10 + (digV (rawAt M (p + j)) 10)) = S * 10 + (digV (rawAt M (p + j)) 10) := IntWalk.u64_in _ (by omega)
          have HSw := Lib.hid (show S * 10 + (digV (rawAt M (p + j)) 10) = natOf 10 ((M.drop (p)).take (j + 1)) by have := HSv.out; have := HG3.out; omega)
          have F2 := Lib.hid (show true = decide (natOf 10 ((M.drop (p)).take (j + 1)) ≤ 9223372036854775808) by simp; omega)
          clear f1 f2
          go_wp2_with (first | (with_reducible refine at_load0 ?_; refine wpList_load_txt rfl _ rfl rfl T ?_) | (with_reducible refine at_load1 ?_; refine wpList_load_txtG _ rfl rfl T rfl ?_))
          refine (txt_at_of s tab M HM HT _ (p + j) (by omega) _).mono ?_; rintro e w20 ⟨rfl, hB20⟩
          have T20 := T.below hB20 T.lt
          go_wp2_with fail
          refine (ref_digit _ _ _).mono ?_; rintro e w21 ⟨rfl, rfl⟩
          go_wp2_with fail
          go_roundw
          case rel => exact ⟨j + 1, S * 10 + (digV (rawAt M (p + j)) 10), by omega, by go_num, rfl, congrArg Value.bool F2.out, by omega, hS2, fun _ => HSw.out, hB.trans (hB20.mono (by omega)), T20⟩
          case measure => simp [intOf]; omega
        · have hS2 : ¬S * 10 + (digV (rawAt M (p + j)) 10) ≤ 9223372036854775808 := by have := HSv.out; have := HG3.out; omega
          have f2b : decide (S ≤ (9223372036854775808 - (digV (rawAt M (p + j)) 10)) / 10) = false := by simp; omega
          have F2 := Lib.hid (show false = decide (natOf 10 ((M.drop (p)).take (j + 1)) ≤ 9223372036854775808) by simp; omega)
          have F3 := Lib.hid f2
          clear f1 f2
          go_wp2_with (first | (with_reducible refine at_load0 ?_; refine wpList_load_txt rfl _ rfl rfl T ?_) | (with_reducible refine at_load1 ?_; refine wpList_load_txtG _ rfl rfl T rfl ?_))
          refine (txt_at_of s tab M HM HT _ (p + j) (by omega) _).mono ?_; rintro e w20 ⟨rfl, hB20⟩
          have T20 := T.below hB20 T.lt
          go_wp2_with fail
          refine (ref_digit _ _ _).mono ?_; rintro e w21 ⟨rfl, rfl⟩
          go_wp2_with fail
          go_roundw
          case rel => exact ⟨j + 1, S, by omega, by go_num, rfl, congrArg Value.bool F2.out, hS0, hS1, fun h => absurd h F3.out, hB.trans (hB20.mono (by omega)), T20⟩
          case measure => simp [intOf]; omega
      · have f1b : decide (natOf 10 ((M.drop (p)).take j) ≤ 9223372036854775808) = false := by simp; omega
        have F3 := Lib.hid (HNO.out f1)
        have F2 := Lib.hid (show false = decide (natOf 10 ((M.drop (p)).take (j + 1)) ≤ 9223372036854775808) by have := F3.out; simp; omega)
        clear f1
        go_wp2_with (first | (with_reducible refine at_load0 ?_; refine wpList_load_txt rfl _ rfl rfl T ?_) | (with_reducible refine at_load1 ?_; refine wpList_load_txtG _ rfl rfl T rfl ?_))
        refine (txt_at_of s tab M HM HT _ (p + j) (by omega) _).mono ?_; rintro e w20 ⟨rfl, hB20⟩
        have T20 := T.below hB20 T.lt
        go_wp2_with fail
        refine (ref_digit _ _ _).mono ?_; rintro e w21 ⟨rfl, rfl⟩
        go_wp2_with fail
        go_roundw
        case rel => exact ⟨j + 1, S, by omega, by go_num, rfl, congrArg Value.bool F2.out, hS0, hS1, fun h => absurd h F3.out, hB.trans (hB20.mono (by omega)), T20⟩
        case measure => simp [intOf]; omega
    · obtain rfl : j = D := by omega
      have HDSj := HDS.out
      by_cases f1 : natOf 10 ((M.drop (p)).take j) ≤ 9223372036854775808
      · have f1b : decide (natOf 10 ((M.drop (p)).take j) ≤ 9223372036854775808) = true := by simp; omega
        have HI := Lib.hid (intR_ok 10 ((M.drop (p)).take j) p (p + j : Nat) f1 S (HS.out f1) (wrap64 S) (by unfold wrap64; omega))
        clear f1
        go_wp2_with (first | (with_reducible refine at_load0 ?_; refine wpList_load_txt rfl _ rfl rfl T ?_) | (with_reducible refine at_load1 ?_; refine wpList_load_txtG _ rfl rfl T rfl ?_))
        refine (txt_at_of s tab M HM HT _ (p + j) (by omega) _).mono ?_; rintro e w20 ⟨rfl, hB20⟩
        have T20 := T.below hB20 T.lt
        go_wp2_with fail
        refine (ref_digit _ _ _).mono ?_; rintro e w21 ⟨rfl, rfl⟩
        go_wp2_with fail
        refine bodyPost_ret (v := .tuple #[.int .i64 (wrap64 S), .int .i64 (p + j : Nat), .bool true]) (by simp [results, Try.results66, go_sem]) rfl ⟨⟨_, _, by rw [HK.out, HI.out.1], ?_⟩, hB.trans (hB20.mono (by omega))⟩
        rw [HK.out]; exact HI.out.2
      · have f1b : decide (natOf 10 ((M.drop (p)).take j) ≤ 9223372036854775808) = false := by simp; omega
        have HI := Lib.hid (intR_no 10 ((M.drop (p)).take j) p (p + j : Nat) f1 (wrap64 S) (p + j : Nat))
        clear f1
        go_wp2_with (first | (with_reducible refine at_load0 ?_; refine wpList_load_txt rfl _ rfl rfl T ?_) | (with_reducible refine at_load1 ?_; refine wpList_load_txtG _ rfl rfl T rfl ?_))
        refine (txt_at_of s tab M HM HT _ (p + j) (by omega) _).mono ?_; rintro e w20 ⟨rfl, hB20⟩
        have T20 := T.below hB20 T.lt
        go_wp2_with fail
        refine (ref_digit _ _ _).mono ?_; rintro e w21 ⟨rfl, rfl⟩
        go_wp2_with fail
        refine bodyPost_ret (v := .tuple #[.int .i64 (wrap64 S), .int .i64 (p + j : Nat), .bool false]) (by simp [results, Try.results66, go_sem]) rfl ⟨⟨_, _, by rw [HK.out, HI.out.1], ?_⟩, hB.trans (hB20.mono (by omega))⟩
        rw [HK.out]; exact HI.out.2
set_option maxHeartbeats 4000000 in
theorem integer_quote (s : ByteArray) (tab : Int → Int) (ht : TabOk tab) (p : Nat) (hp : p < s.size) (hsz : s.size ≤ 16384) (h : rawAt (cvt tab s.data.toList) p = 48) (h2 : rawAt (cvt tab s.data.toList) (p + 1) = 39) (w : World) :
    Calls Try.prog 66 #[txtV s tab, .int .i64 p] w fun e w' => (∃ n k : Int, e = .returned (.tuple #[.int .i64 n, .int .i64 k, .bool ((numR (cvt tab s.data.toList) s.data.toList p).err == 0)]) ∧ IntGives (numR (cvt tab s.data.toList) s.data.toList p) n k) ∧ Below w.heap.size w w' := by
  have HT := Lib.hid ht
  clear ht
  have hlen : Hid ((cvt tab s.data.toList).length = s.size) := by show _ = _; rw [cvt_len]; simp
  generalize hM : cvt tab s.data.toList = M at *
  have HM := Lib.hid hM
  clear hM
  have HK := Lib.hid (numR_quote M s.data.toList p h h2)
  have d1 : (rawAt M p == 48) = true := by simp [h]
  have d2 : (rawAt M (p + 1) == 39) = true := by simp [h2]
  clear h h2
  go_enter Try.func66, Try.ntmps66
  go_wp2_with (first | (refine wpList_box_txt rfl _ s tab rfl rfl ?_; intro b w1 T0 hle hB0) | (with_reducible refine at_load0 ?_; refine wpList_load_txt rfl _ rfl rfl T0 ?_))
  refine (txt_at_of s tab M HM HT _ p (by omega) _).mono ?_; rintro e w2 ⟨rfl, hB2⟩
  have T2 := T0.below hB2 T0.lt
  have hs0 := hB0.size
  go_wp2_with (first | (with_reducible refine at_load0 ?_; refine wpList_load_txt rfl _ rfl rfl T2 ?_) | (with_reducible refine at_load1 ?_; refine wpList_load_txtG _ rfl rfl T2 rfl ?_))
  refine (txt_at_of s tab M HM HT _ (p + 1) (by omega) _).mono ?_; rintro e w3 ⟨rfl, hB3⟩
  have T3 := T2.below hB3 T2.lt
  go_wp2_with (first | (with_reducible refine at_load0 ?_; refine wpList_load_txt rfl _ rfl rfl T3 ?_) | (with_reducible refine at_load1 ?_; refine wpList_load_txtG _ rfl rfl T3 rfl ?_))
  refine (txt_quoted s tab (p + 2) (by omega) 39 (.inl rfl) hsz _).mono ?_; rintro e w4 ⟨rfl, hB4⟩
  go_wp2_with fail
  refine bodyPost_ret (v := .tuple #[.int .i64 (quotC s.data.toList (p + 2) 39), .int .i64 (quotE s.data.toList (p + 2) 39), .bool (quotK s.data.toList (p + 2) 39 == 1)]) (by simp [results, Try.results66, go_sem]) rfl ⟨⟨quotC s.data.toList (p + 2) 39, quotE s.data.toList (p + 2) 39, ?_, ?_⟩, hB0.trans (trans3 (by omega) hB2 hB3 hB4)⟩
  · rw [HK.out]
    by_cases hk : quotK s.data.toList (p + 2) 39 = 1
    · rw [if_pos hk, hk]; rfl
    · rw [if_neg hk]; simp [hk, errR]
  · rw [HK.out]
    by_cases hk : quotK s.data.toList (p + 2) 39 = 1
    · rw [if_pos hk]; exact fun _ => ⟨rfl, rfl⟩
    · rw [if_neg hk]; exact fun h => absurd h (by show ¬(7 : Int) = 0; decide)
set_option maxHeartbeats 4000000 in
theorem integer_16_yes (s : ByteArray) (tab : Int → Int) (ht : TabOk tab) (p : Nat) (hp : p < s.size) (hsz : s.size ≤ 16384) (h : rawAt (cvt tab s.data.toList) p = 48) (h2 : rawAt (cvt tab s.data.toList) (p + 1) = 120) (h3 : 0 < span (isDig 16) ((cvt tab s.data.toList).drop (p + 2))) (w : World) :
    Calls Try.prog 66 #[txtV s tab, .int .i64 p] w fun e w' => (∃ n k : Int, e = .returned (.tuple #[.int .i64 n, .int .i64 k, .bool ((numR (cvt tab s.data.toList) s.data.toList p).err == 0)]) ∧ IntGives (numR (cvt tab s.data.toList) s.data.toList p) n k) ∧ Below w.heap.size w w' := by
  have HT := Lib.hid ht
  clear ht
  have hlen : Hid ((cvt tab s.data.toList).length = s.size) := by show _ = _; rw [cvt_len]; simp
  generalize hM : cvt tab s.data.toList = M at *
  have HM := Lib.hid hM
  clear hM
  have hnb : numBase M p = 16 := by unfold numBase; rw [if_pos h, h2]; rfl
  have HK := Lib.hid (show numR M s.data.toList p = intR 16 ((M.drop (p + 2)).take (span (isDig 16) (M.drop (p + 2)))) p (p + 2 + span (isDig 16) (M.drop (p + 2)) : Nat) by unfold numR; rw [if_neg (by omega), hnb, if_pos ⟨by decide, h3⟩]; simp)
  have e3 := (dig_step 16 M (p + 2) 0 h3).1
  rw [Nat.add_zero] at e3
  have d1 : (rawAt M p == 48) = true := by simp [h]
  have d2 : (rawAt M (p + 1) == 39) = false := by simp [h2]
  have x1 : (rawAt M (p + 1) == 120) = true := by simp [h2]
  clear h h2 h3 hnb
  have HDS := Lib.hid (dig_stop 16 M (p + 2))
  have HDG := Lib.hid (dig_step 16 M (p + 2))
  have HST := Lib.hid (sum_step 16 (by decide) (by decide) M (p + 2))
  have hDl := span_le (isDig 16) (M.drop (p + 2))
  generalize hD : span (isDig 16) (M.drop (p + 2)) = D at *
  clear hD
  go_enter Try.func66, Try.ntmps66
  go_wp2_with (first | (refine wpList_box_txt rfl _ s tab rfl rfl ?_; intro b w1 T0 hle hB0) | (with_reducible refine at_load0 ?_; refine wpList_load_txt rfl _ rfl rfl T0 ?_))
  refine (txt_at_of s tab M HM HT _ p (by omega) _).mono ?_; rintro e w2 ⟨rfl, hB2⟩
  have T2 := T0.below hB2 T0.lt
  have hs0 := hB0.size
  go_wp2_with (first | (with_reducible refine at_load0 ?_; refine wpList_load_txt rfl _ rfl rfl T2 ?_) | (with_reducible refine at_load1 ?_; refine wpList_load_txtG _ rfl rfl T2 rfl ?_))
  refine (txt_at_of s tab M HM HT _ (p + 1) (by omega) _).mono ?_; rintro e w3 ⟨rfl, hB3⟩
  have T3 := T2.below hB3 T2.lt
  go_wp2_with (first | (with_reducible refine at_load0 ?_; refine wpList_load_txt rfl _ rfl rfl T3 ?_) | (with_reducible refine at_load1 ?_; refine wpList_load_txtG _ rfl rfl T3 rfl ?_))
  refine (txt_at_of s tab M HM HT _ (p) (by omega) _).mono ?_; rintro e w4 ⟨rfl, hB4⟩
  have T4 := T3.below hB4 T3.lt
  go_wp2_with (first | (with_reducible refine at_load0 ?_; refine wpList_load_txt rfl _ rfl rfl T4 ?_) | (with_reducible refine at_load1 ?_; refine wpList_load_txtG _ rfl rfl T4 rfl ?_))
  refine (txt_at_of s tab M HM HT _ (p + 1) (by omega) _).mono ?_; rintro e w5 ⟨rfl, hB5⟩
  have T5 := T4.below hB5 T4.lt
  go_wp2_with (first | (with_reducible refine at_load0 ?_; refine wpList_load_txt rfl _ rfl rfl T5 ?_) | (with_reducible refine at_load1 ?_; refine wpList_load_txtG _ rfl rfl T5 rfl ?_))
  refine (txt_at_of s tab M HM HT _ (p + 2) (by omega) _).mono ?_; rintro e w6 ⟨rfl, hB6⟩
  have T6 := T5.below hB6 T5.lt
  go_wp2_with fail
  refine (ref_digit _ _ _).mono ?_; rintro e w7 ⟨rfl, rfl⟩
  have hBx : Below w.heap.size w w6 := hB0.trans ((trans3 (Nat.le_refl _) hB2 hB3 hB4 |>.mono (by omega)).trans (trans2 (by have := hB2.size; have := hB3.size; have := hB4.size; omega) hB5 hB6))
  go_wp2_with fail
  go_loopw [11, 15, 16] (fun x sm ft wr => ∃ j : Nat, ∃ S : Int, j ≤ D ∧ x = .int .i64 (p + 2 + j : Nat) ∧ sm = .int .u64 S ∧ ft = .bool (decide (natOf 16 ((M.drop (p + 2)).take j) ≤ 9223372036854775808)) ∧ 0 ≤ S ∧ S ≤ 9223372036854775808 ∧ Hid (natOf 16 ((M.drop (p + 2)).take j) ≤ 9223372036854775808 → S = natOf 16 ((M.drop (p + 2)).take j)) ∧ Below w.heap.size w wr ∧ Txt wr b s tab) (fun x _ _ _ => s.size - (intOf x).toNat)
  case atStart => exact ⟨0, 0, Nat.zero_le _, by go_num, rfl, rfl, by omega, by omega, fun _ => rfl, hBx, T6⟩
  case round =>
    obtain ⟨j, S, hj, rfl, rfl, rfl, hS0, hS1, HS, hB, T⟩ := hrel
    have hs := hB.size
    by_cases hlt : j < D
    · obtain ⟨g1, g2⟩ := HDG.out j hlt
      rw [hlen.out] at g2
      obtain ⟨g3, g4, g5⟩ := HST.out j hlt
      have HNO := Lib.hid (sum_no 16 (by decide) (M.drop (p + 2)) j)
      have HG3 := Lib.hid g3
      clear g3
      by_cases f1 : natOf 16 ((M.drop (p + 2)).take j) ≤ 9223372036854775808
      · have HSv := Lib.hid (HS.out f1)
        have f1b : decide (natOf 16 ((M.drop (p + 2)).take j) ≤ 9223372036854775808) = true := by simp; omega
        have hw1 : IntKind.u64.wrap (digV (rawAt M (p + 2 + j)) 16) = (digV (rawAt M (p + 2 + j)) 16) := IntWalk.u64_in _ (by omega)
        have hw2 : IntKind.u64.wrap (9223372036854775808 - (digV (rawAt M (p + 2 + j)) 16)) = 9223372036854775808 - (digV (rawAt M (p + 2 + j)) 16) := IntWalk.u64_in _ (by omega)
        have hw3 : IntKind.u64.wrap ((9223372036854775808 - (digV (rawAt M (p + 2 + j)) 16)).tdiv 16) = (9223372036854775808 - (digV (rawAt M (p + 2 + j)) 16)) / 16 := IntWalk.u64_quo _ _ (by omega)
        by_cases f2 : natOf 16 ((M.drop (p + 2)).take (j + 1)) ≤ 9223372036854775808
        · have hS2 : S * 16 + (digV (rawAt M (p + 2 + j)) 16) ≤ 9223372036854775808 := by have := HSv.out; have := HG3.out; omega
          have f2b : decide (S ≤ (9223372036854775808 - (digV (rawAt M (p + 2 + j)) 16)) / 16) = true := by simp; omega
          have hw4 : IntKind.u64.wrap (S * 16) = S * 16 := IntWalk.u64_in _ (by omega)
          have hw5 : IntKind.u64.wrap (S * 16 + (digV (rawAt M (p + 2 + j)) 16)) = S * 16 + (digV (rawAt M (p + 2 + j)) 16) := IntWalk.u64_in _ (by omega)
          have HSw := Lib.hid (show S * 16 + (digV (rawAt M (p + 2 + j)) 16) = natOf 16 ((M.drop (p + 2)).take (j + 1)) by have := HSv.out; have := HG3.out; omega)
          have F2 := Lib.hid (show true = decide (natOf 16 ((M.drop (p + 2)).take (j + 1)) ≤ 9223372036854775808) by simp; omega)
          clear f1 f2
          go_wp2_with (first | (with_reducible refine at_load0 ?_; refine wpList_load_txt rfl _ rfl rfl T ?_) | (with_reducible refine at_load1 ?_; refine wpList_load_txtG _ rfl rfl T rfl ?_))
          refine (txt_at_of s tab M HM HT _ (p + 2 + j) (by omega) _).mono ?_; rintro e w20 ⟨rfl, hB20⟩
          have T20 := T.below hB20 T.lt
          go_wp2_with fail
          refine (ref_digit _ _ _).mono ?_; rintro e w21 ⟨rfl, rfl⟩
          go_wp2_with fail
          go_roundw
          case rel => exact ⟨j + 1, S * 16 + (digV (rawAt M (p + 2 + j)) 16), by omega, by go_num, rfl, congrArg Value.bool F2.out, by omega, hS2, fun _ => HSw.out, hB.trans (hB20.mono (by omega)), T20⟩
          case measure => simp [intOf]; omega
        · have hS2 : ¬S * 16 + (digV (rawAt M (p + 2 + j)) 16) ≤ 9223372036854775808 := by have := HSv.out; have := HG3.out; omega
          have f2b : decide (S ≤ (9223372036854775808 - (digV (rawAt M (p + 2 + j)) 16)) / 16) = false := by simp; omega
          have F2 := Lib.hid (show false = decide (natOf 16 ((M.drop (p + 2)).take (j + 1)) ≤ 9223372036854775808) by simp; omega)
          have F3 := Lib.hid f2
          clear f1 f2
          go_wp2_with (first | (with_reducible refine at_load0 ?_; refine wpList_load_txt rfl _ rfl rfl T ?_) | (with_reducible refine at_load1 ?_; refine wpList_load_txtG _ rfl rfl T rfl ?_))
          refine (txt_at_of s tab M HM HT _ (p + 2 + j) (by omega) _).mono ?_; rintro e w20 ⟨rfl, hB20⟩
          have T20 := T.below hB20 T.lt
          go_wp2_with fail
          refine (ref_digit _ _ _).mono ?_; rintro e w21 ⟨rfl, rfl⟩
          go_wp2_with fail
          go_roundw
          case rel => exact ⟨j + 1, S, by omega, by go_num, rfl, congrArg Value.bool F2.out, hS0, hS1, fun h => absurd h F3.out, hB.trans (hB20.mono (by omega)), T20⟩
          case measure => simp [intOf]; omega
      · have f1b : decide (natOf 16 ((M.drop (p + 2)).take j) ≤ 9223372036854775808) = false := by simp; omega
        have F3 := Lib.hid (HNO.out f1)
        have F2 := Lib.hid (show false = decide (natOf 16 ((M.drop (p + 2)).take (j + 1)) ≤ 9223372036854775808) by have := F3.out; simp; omega)
        clear f1
        go_wp2_with (first | (with_reducible refine at_load0 ?_; refine wpList_load_txt rfl _ rfl rfl T ?_) | (with_reducible refine at_load1 ?_; refine wpList_load_txtG _ rfl rfl T rfl ?_))
        refine (txt_at_of s tab M HM HT _ (p + 2 + j) (by omega) _).mono ?_; rintro e w20 ⟨rfl, hB20⟩
        have T20 := T.below hB20 T.lt
        go_wp2_with fail
        refine (ref_digit _ _ _).mono ?_; rintro e w21 ⟨rfl, rfl⟩
        go_wp2_with fail
        go_roundw
        case rel => exact ⟨j + 1, S, by omega, by go_num, rfl, congrArg Value.bool F2.out, hS0, hS1, fun h => absurd h F3.out, hB.trans (hB20.mono (by omega)), T20⟩
        case measure => simp [intOf]; omega
    · obtain rfl : j = D := by omega
      have HDSj := HDS.out
      by_cases f1 : natOf 16 ((M.drop (p + 2)).take j) ≤ 9223372036854775808
      · have f1b : decide (natOf 16 ((M.drop (p + 2)).take j) ≤ 9223372036854775808) = true := by simp; omega
        have HI := Lib.hid (intR_ok 16 ((M.drop (p + 2)).take j) p (p + 2 + j : Nat) f1 S (HS.out f1) (wrap64 S) (by unfold wrap64; omega))
        clear f1
        go_wp2_with (first | (with_reducible refine at_load0 ?_; refine wpList_load_txt rfl _ rfl rfl T ?_) | (with_reducible refine at_load1 ?_; refine wpList_load_txtG _ rfl rfl T rfl ?_))
        refine (txt_at_of s tab M HM HT _ (p + 2 + j) (by omega) _).mono ?_; rintro e w20 ⟨rfl, hB20⟩
        have T20 := T.below hB20 T.lt
        go_wp2_with fail
        refine (ref_digit _ _ _).mono ?_; rintro e w21 ⟨rfl, rfl⟩
        go_wp2_with fail
        refine bodyPost_ret (v := .tuple #[.int .i64 (wrap64 S), .int .i64 (p + 2 + j : Nat), .bool true]) (by simp [results, Try.results66, go_sem]) rfl ⟨⟨_, _, by rw [HK.out, HI.out.1], ?_⟩, hB.trans (hB20.mono (by omega))⟩
        rw [HK.out]; exact HI.out.2
      · have f1b : decide (natOf 16 ((M.drop (p + 2)).take j) ≤ 9223372036854775808) = false := by simp; omega
        have HI := Lib.hid (intR_no 16 ((M.drop (p + 2)).take j) p (p + 2 + j : Nat) f1 (wrap64 S) (p + 2 + j : Nat))
        clear f1
        go_wp2_with (first | (with_reducible refine at_load0 ?_; refine wpList_load_txt rfl _ rfl rfl T ?_) | (with_reducible refine at_load1 ?_; refine wpList_load_txtG _ rfl rfl T rfl ?_))
        refine (txt_at_of s tab M HM HT _ (p + 2 + j) (by omega) _).mono ?_; rintro e w20 ⟨rfl, hB20⟩
        have T20 := T.below hB20 T.lt
        go_wp2_with fail
        refine (ref_digit _ _ _).mono ?_; rintro e w21 ⟨rfl, rfl⟩
        go_wp2_with fail
        refine bodyPost_ret (v := .tuple #[.int .i64 (wrap64 S), .int .i64 (p + 2 + j : Nat), .bool false]) (by simp [results, Try.results66, go_sem]) rfl ⟨⟨_, _, by rw [HK.out, HI.out.1], ?_⟩, hB.trans (hB20.mono (by omega))⟩
        rw [HK.out]; exact HI.out.2
set_option maxHeartbeats 4000000 in
theorem integer_16_no (s : ByteArray) (tab : Int → Int) (ht : TabOk tab) (p : Nat) (hp : p < s.size) (hsz : s.size ≤ 16384) (h : rawAt (cvt tab s.data.toList) p = 48) (h2 : rawAt (cvt tab s.data.toList) (p + 1) = 120) (h3 : ¬0 < span (isDig 16) ((cvt tab s.data.toList).drop (p + 2))) (w : World) :
    Calls Try.prog 66 #[txtV s tab, .int .i64 p] w fun e w' => (∃ n k : Int, e = .returned (.tuple #[.int .i64 n, .int .i64 k, .bool ((numR (cvt tab s.data.toList) s.data.toList p).err == 0)]) ∧ IntGives (numR (cvt tab s.data.toList) s.data.toList p) n k) ∧ Below w.heap.size w w' := by
  have HT := Lib.hid ht
  clear ht
  have hlen : Hid ((cvt tab s.data.toList).length = s.size) := by show _ = _; rw [cvt_len]; simp
  generalize hM : cvt tab s.data.toList = M at *
  have HM := Lib.hid hM
  clear hM
  have hnb : numBase M p = 16 := by unfold numBase; rw [if_pos h, h2]; rfl
  have HK := Lib.hid (show numR M s.data.toList p = intR 10 ((M.drop p).take (span (isDig 10) (M.drop p))) p (p + span (isDig 10) (M.drop p) : Nat) by unfold numR; rw [if_neg (by omega), hnb, if_neg (fun hh => h3 hh.2)]; simp)
  have e3 := dig_stop 16 M (p + 2)
  rw [show span (isDig 16) (M.drop (p + 2)) = 0 by omega, Nat.add_zero] at e3
  have d1 : (rawAt M p == 48) = true := by simp [h]
  have d2 : (rawAt M (p + 1) == 39) = false := by simp [h2]
  have x1 : (rawAt M (p + 1) == 120) = true := by simp [h2]
  clear h h2 h3 hnb
  have HDS := Lib.hid (dig_stop 10 M (p))
  have HDG := Lib.hid (dig_step 10 M (p))
  have HST := Lib.hid (sum_step 10 (by decide) (by decide) M (p))
  have hDl := span_le (isDig 10) (M.drop (p))
  generalize hD : span (isDig 10) (M.drop (p)) = D at *
  clear hD
  go_enter Try.func66, Try.ntmps66
  go_wp2_with (first | (refine wpList_box_txt rfl _ s tab rfl rfl ?_; intro b w1 T0 hle hB0) | (with_reducible refine at_load0 ?_; refine wpList_load_txt rfl _ rfl rfl T0 ?_))
  refine (txt_at_of s tab M HM HT _ p (by omega) _).mono ?_; rintro e w2 ⟨rfl, hB2⟩
  have T2 := T0.below hB2 T0.lt
  have hs0 := hB0.size
  go_wp2_with (first | (with_reducible refine at_load0 ?_; refine wpList_load_txt rfl _ rfl rfl T2 ?_) | (with_reducible refine at_load1 ?_; refine wpList_load_txtG _ rfl rfl T2 rfl ?_))
  refine (txt_at_of s tab M HM HT _ (p + 1) (by omega) _).mono ?_; rintro e w3 ⟨rfl, hB3⟩
  have T3 := T2.below hB3 T2.lt
  go_wp2_with (first | (with_reducible refine at_load0 ?_; refine wpList_load_txt rfl _ rfl rfl T3 ?_) | (with_reducible refine at_load1 ?_; refine wpList_load_txtG _ rfl rfl T3 rfl ?_))
  refine (txt_at_of s tab M HM HT _ (p) (by omega) _).mono ?_; rintro e w4 ⟨rfl, hB4⟩
  have T4 := T3.below hB4 T3.lt
  go_wp2_with (first | (with_reducible refine at_load0 ?_; refine wpList_load_txt rfl _ rfl rfl T4 ?_) | (with_reducible refine at_load1 ?_; refine wpList_load_txtG _ rfl rfl T4 rfl ?_))
  refine (txt_at_of s tab M HM HT _ (p + 1) (by omega) _).mono ?_; rintro e w5 ⟨rfl, hB5⟩
  have T5 := T4.below hB5 T4.lt
  go_wp2_with (first | (with_reducible refine at_load0 ?_; refine wpList_load_txt rfl _ rfl rfl T5 ?_) | (with_reducible refine at_load1 ?_; refine wpList_load_txtG _ rfl rfl T5 rfl ?_))
  refine (txt_at_of s tab M HM HT _ (p + 2) (by omega) _).mono ?_; rintro e w6 ⟨rfl, hB6⟩
  have T6 := T5.below hB6 T5.lt
  go_wp2_with fail
  refine (ref_digit _ _ _).mono ?_; rintro e w7 ⟨rfl, rfl⟩
  have hBx : Below w.heap.size w w6 := hB0.trans ((trans3 (Nat.le_refl _) hB2 hB3 hB4 |>.mono (by omega)).trans (trans2 (by have := hB2.size; have := hB3.size; have := hB4.size; omega) hB5 hB6))
  go_wp2_with fail
  go_loopw [11, 15, 16] (fun x sm ft wr => ∃ j : Nat, ∃ S : Int, j ≤ D ∧ x = .int .i64 (p + j : Nat) ∧ sm = .int .u64 S ∧ ft = .bool (decide (natOf 10 ((M.drop (p)).take j) ≤ 9223372036854775808)) ∧ 0 ≤ S ∧ S ≤ 9223372036854775808 ∧ Hid (natOf 10 ((M.drop (p)).take j) ≤ 9223372036854775808 → S = natOf 10 ((M.drop (p)).take j)) ∧ Below w.heap.size w wr ∧ Txt wr b s tab) (fun x _ _ _ => s.size - (intOf x).toNat)
  case atStart => exact ⟨0, 0, Nat.zero_le _, by go_num, rfl, rfl, by omega, by omega, fun _ => rfl, hBx, T6⟩
  case round =>
    obtain ⟨j, S, hj, rfl, rfl, rfl, hS0, hS1, HS, hB, T⟩ := hrel
    have hs := hB.size
    by_cases hlt : j < D
    · obtain ⟨g1, g2⟩ := HDG.out j hlt
      rw [hlen.out] at g2
      obtain ⟨g3, g4, g5⟩ := HST.out j hlt
      have HNO := Lib.hid (sum_no 10 (by decide) (M.drop (p)) j)
      have HG3 := Lib.hid g3
      clear g3
      by_cases f1 : natOf 10 ((M.drop (p)).take j) ≤ 9223372036854775808
      · have HSv := Lib.hid (HS.out f1)
        have f1b : decide (natOf 10 ((M.drop (p)).take j) ≤ 9223372036854775808) = true := by simp; omega
        have hw1 : IntKind.u64.wrap (digV (rawAt M (p + j)) 10) = (digV (rawAt M (p + j)) 10) := IntWalk.u64_in _ (by omega)
        have hw2 : IntKind.u64.wrap (9223372036854775808 - (digV (rawAt M (p + j)) 10)) = 9223372036854775808 - (digV (rawAt M (p + j)) 10) := IntWalk.u64_in _ (by omega)
        have hw3 : IntKind.u64.wrap ((9223372036854775808 - (digV (rawAt M (p + j)) 10)).tdiv 10) = (9223372036854775808 - (digV (rawAt M (p + j)) 10)) / 10 := IntWalk.u64_quo _ _ (by omega)
        by_cases f2 : natOf 10 ((M.drop (p)).take (j + 1)) ≤ 9223372036854775808
        · have hS2 : S * 10 + (digV (rawAt M (p + j)) 10) ≤ 9223372036854775808 := by have := HSv.out; have := HG3.out; omega
          have f2b : decide (S ≤ (9223372036854775808 - (digV (rawAt M (p + j)) 10)) / 10) = true := by simp; omega
          have hw4 : IntKind.u64.wrap (S * 10) = S * 10 := IntWalk.u64_in _ (by omega)
          have hw5 : IntKind.u64.wrap (S * 10 + (digV (rawAt M (p + j)) 10)) = S * 10 + (digV (rawAt M (p + j)) 10) := IntWalk.u64_in _ (by omega)
          have HSw := Lib.hid (show S * 10 + (digV (rawAt M (p + j)) 10) = natOf 10 ((M.drop (p)).take (j + 1)) by have := HSv.out; have := HG3.out; omega)
          have F2 := Lib.hid (show true = decide (natOf 10 ((M.drop (p)).take (j + 1)) ≤ 9223372036854775808) by simp; omega)
          clear f1 f2
          go_wp2_with (first | (with_reducible refine at_load0 ?_; refine wpList_load_txt rfl _ rfl rfl T ?_) | (with_reducible refine at_load1 ?_; refine wpList_load_txtG _ rfl rfl T rfl ?_))
          refine (txt_at_of s tab M HM HT _ (p + j) (by omega) _).mono ?_; rintro e w20 ⟨rfl, hB20⟩
          have T20 := T.below hB20 T.lt
          go_wp2_with fail
          refine (ref_digit _ _ _).mono ?_; rintro e w21 ⟨rfl, rfl⟩
          go_wp2_with fail
          go_roundw
          case rel => exact ⟨j + 1, S * 10 + (digV (rawAt M (p + j)) 10), by omega, by go_num, rfl, congrArg Value.bool F2.out, by omega, hS2, fun _ => HSw.out, hB.trans (hB20.mono (by omega)), T20⟩
          case measure => simp [intOf]; omega
        · have hS2 : ¬S * 10 + (digV (rawAt M (p + j)) 10) ≤ 9223372036854775808 := by have := HSv.out; have := HG3.out; omega
          have f2b : decide (S ≤ (9223372036854775808 - (digV (rawAt M (p + j)) 10)) / 10) = false := by simp; omega
          have F2 := Lib.hid (show false = decide (natOf 10 ((M.drop (p)).take (j + 1)) ≤ 9223372036854775808) by simp; omega)
          have F3 := Lib.hid f2
          clear f1 f2
          go_wp2_with (first | (with_reducible refine at_load0 ?_; refine wpList_load_txt rfl _ rfl rfl T ?_) | (with_reducible refine at_load1 ?_; refine wpList_load_txtG _ rfl rfl T rfl ?_))
          refine (txt_at_of s tab M HM HT _ (p + j) (by omega) _).mono ?_; rintro e w20 ⟨rfl, hB20⟩
          have T20 := T.below hB20 T.lt
          go_wp2_with fail
          refine (ref_digit _ _ _).mono ?_; rintro e w21 ⟨rfl, rfl⟩
          go_wp2_with fail
          go_roundw
          case rel => exact ⟨j + 1, S, by omega, by go_num, rfl, congrArg Value.bool F2.out, hS0, hS1, fun h => absurd h F3.out, hB.trans (hB20.mono (by omega)), T20⟩
          case measure => simp [intOf]; omega
      · have f1b : decide (natOf 10 ((M.drop (p)).take j) ≤ 9223372036854775808) = false := by simp; omega
        have F3 := Lib.hid (HNO.out f1)
        have F2 := Lib.hid (show false = decide (natOf 10 ((M.drop (p)).take (j + 1)) ≤ 9223372036854775808) by have := F3.out; simp; omega)
        clear f1
        go_wp2_with (first | (with_reducible refine at_load0 ?_; refine wpList_load_txt rfl _ rfl rfl T ?_) | (with_reducible refine at_load1 ?_; refine wpList_load_txtG _ rfl rfl T rfl ?_))
        refine (txt_at_of s tab M HM HT _ (p + j) (by omega) _).mono ?_; rintro e w20 ⟨rfl, hB20⟩
        have T20 := T.below hB20 T.lt
        go_wp2_with fail
        refine (ref_digit _ _ _).mono ?_; rintro e w21 ⟨rfl, rfl⟩
        go_wp2_with fail
        go_roundw
        case rel => exact ⟨j + 1, S, by omega, by go_num, rfl, congrArg Value.bool F2.out, hS0, hS1, fun h => absurd h F3.out, hB.trans (hB20.mono (by omega)), T20⟩
        case measure => simp [intOf]; omega
    · obtain rfl : j = D := by omega
      have HDSj := HDS.out
      by_cases f1 : natOf 10 ((M.drop (p)).take j) ≤ 9223372036854775808
      · have f1b : decide (natOf 10 ((M.drop (p)).take j) ≤ 9223372036854775808) = true := by simp; omega
        have HI := Lib.hid (intR_ok 10 ((M.drop (p)).take j) p (p + j : Nat) f1 S (HS.out f1) (wrap64 S) (by unfold wrap64; omega))
        clear f1
        go_wp2_with (first | (with_reducible refine at_load0 ?_; refine wpList_load_txt rfl _ rfl rfl T ?_) | (with_reducible refine at_load1 ?_; refine wpList_load_txtG _ rfl rfl T rfl ?_))
        refine (txt_at_of s tab M HM HT _ (p + j) (by omega) _).mono ?_; rintro e w20 ⟨rfl, hB20⟩
        have T20 := T.below hB20 T.lt
        go_wp2_with fail
        refine (ref_digit _ _ _).mono ?_; rintro e w21 ⟨rfl, rfl⟩
        go_wp2_with fail
        refine bodyPost_ret (v := .tuple #[.int .i64 (wrap64 S), .int .i64 (p + j : Nat), .bool true]) (by simp [results, Try.results66, go_sem]) rfl ⟨⟨_, _, by rw [HK.out, HI.out.1], ?_⟩, hB.trans (hB20.mono (by omega))⟩
        rw [HK.out]; exact HI.out.2
      · have f1b : decide (natOf 10 ((M.drop (p)).take j) ≤ 9223372036854775808) = false := by simp; omega
        have HI := Lib.hid (intR_no 10 ((M.drop (p)).take j) p (p + j : Nat) f1 (wrap64 S) (p + j : Nat))
        clear f1
        go_wp2_with (first | (with_reducible refine at_load0 ?_; refine wpList_load_txt rfl _ rfl rfl T ?_) | (with_reducible refine at_load1 ?_; refine wpList_load_txtG _ rfl rfl T rfl ?_))
        refine (txt_at_of s tab M HM HT _ (p + j) (by omega) _).mono ?_; rintro e w20 ⟨rfl, hB20⟩
        have T20 := T.below hB20 T.lt
        go_wp2_with fail
        refine (ref_digit _ _ _).mono ?_; rintro e w21 ⟨rfl, rfl⟩
        go_wp2_with fail
        refine bodyPost_ret (v := .tuple #[.int .i64 (wrap64 S), .int .i64 (p + j : Nat), .bool false]) (by simp [results, Try.results66, go_sem]) rfl ⟨⟨_, _, by rw [HK.out, HI.out.1], ?_⟩, hB.trans (hB20.mono (by omega))⟩
        rw [HK.out]; exact HI.out.2
set_option maxHeartbeats 4000000 in
theorem integer_8_yes (s : ByteArray) (tab : Int → Int) (ht : TabOk tab) (p : Nat) (hp : p < s.size) (hsz : s.size ≤ 16384) (h : rawAt (cvt tab s.data.toList) p = 48) (h2 : rawAt (cvt tab s.data.toList) (p + 1) = 111) (h3 : 0 < span (isDig 8) ((cvt tab s.data.toList).drop (p + 2))) (w : World) :
    Calls Try.prog 66 #[txtV s tab, .int .i64 p] w fun e w' => (∃ n k : Int, e = .returned (.tuple #[.int .i64 n, .int .i64 k, .bool ((numR (cvt tab s.data.toList) s.data.toList p).err == 0)]) ∧ IntGives (numR (cvt tab s.data.toList) s.data.toList p) n k) ∧ Below w.heap.size w w' := by
  have HT := Lib.hid ht
  clear ht
  have hlen : Hid ((cvt tab s.data.toList).length = s.size) := by show _ = _; rw [cvt_len]; simp
  generalize hM : cvt tab s.data.toList = M at *
  have HM := Lib.hid hM
  clear hM
  have hnb : numBase M p = 8 := by unfold numBase; rw [if_pos h, h2]; rfl
  have HK := Lib.hid (show numR M s.data.toList p = intR 8 ((M.drop (p + 2)).take (span (isDig 8) (M.drop (p + 2)))) p (p + 2 + span (isDig 8) (M.drop (p + 2)) : Nat) by unfold numR; rw [if_neg (by omega), hnb, if_pos ⟨by decide, h3⟩]; simp)
  have e3 := (dig_step 8 M (p + 2) 0 h3).1
  rw [Nat.add_zero] at e3
  have d1 : (rawAt M p == 48) = true := by simp [h]
  have d2 : (rawAt M (p + 1) == 39) = false := by simp [h2]
  have x1 : (rawAt M (p + 1) == 120) = false := by simp [h2]
  have x2 : (rawAt M (p + 1) == 111) = true := by simp [h2]
  clear h h2 h3 hnb
  have HDS := Lib.hid (dig_stop 8 M (p + 2))
  have HDG := Lib.hid (dig_step 8 M (p + 2))
  have HST := Lib.hid (sum_step 8 (by decide) (by decide) M (p + 2))
  have hDl := span_le (isDig 8) (M.drop (p + 2))
  generalize hD : span (isDig 8) (M.drop (p + 2)) = D at *
  clear hD
  go_enter Try.func66, Try.ntmps66
  go_wp2_with (first | (refine wpList_box_txt rfl _ s tab rfl rfl ?_; intro b w1 T0 hle hB0) | (with_reducible refine at_load0 ?_; refine wpList_load_txt rfl _ rfl rfl T0 ?_))
  refine (txt_at_of s tab M HM HT _ p (by omega) _).mono ?_; rintro e w2 ⟨rfl, hB2⟩
  have T2 := T0.below hB2 T0.lt
  have hs0 := hB0.size
  go_wp2_with (first | (with_reducible refine at_load0 ?_; refine wpList_load_txt rfl _ rfl rfl T2 ?_) | (with_reducible refine at_load1 ?_; refine wpList_load_txtG _ rfl rfl T2 rfl ?_))
  refine (txt_at_of s tab M HM HT _ (p + 1) (by omega) _).mono ?_; rintro e w3 ⟨rfl, hB3⟩
  have T3 := T2.below hB3 T2.lt
  go_wp2_with (first | (with_reducible refine at_load0 ?_; refine wpList_load_txt rfl _ rfl rfl T3 ?_) | (with_reducible refine at_load1 ?_; refine wpList_load_txtG _ rfl rfl T3 rfl ?_))
  refine (txt_at_of s tab M HM HT _ (p) (by omega) _).mono ?_; rintro e w4 ⟨rfl, hB4⟩
  have T4 := T3.below hB4 T3.lt
  go_wp2_with (first | (with_reducible refine at_load0 ?_; refine wpList_load_txt rfl _ rfl rfl T4 ?_) | (with_reducible refine at_load1 ?_; refine wpList_load_txtG _ rfl rfl T4 rfl ?_))
  refine (txt_at_of s tab M HM HT _ (p + 1) (by omega) _).mono ?_; rintro e w5 ⟨rfl, hB5⟩
  have T5 := T4.below hB5 T4.lt
  go_wp2_with (first | (with_reducible refine at_load0 ?_; refine wpList_load_txt rfl _ rfl rfl T5 ?_) | (with_reducible refine at_load1 ?_; refine wpList_load_txtG _ rfl rfl T5 rfl ?_))
  refine (txt_at_of s tab M HM HT _ (p + 2) (by omega) _).mono ?_; rintro e w6 ⟨rfl, hB6⟩
  have T6 := T5.below hB6 T5.lt
  go_wp2_with fail
  refine (ref_digit _ _ _).mono ?_; rintro e w7 ⟨rfl, rfl⟩
  have hBx : Below w.heap.size w w6 := hB0.trans ((trans3 (Nat.le_refl _) hB2 hB3 hB4 |>.mono (by omega)).trans (trans2 (by have := hB2.size; have := hB3.size; have := hB4.size; omega) hB5 hB6))
  go_wp2_with fail
  go_loopw [11, 15, 16] (fun x sm ft wr => ∃ j : Nat, ∃ S : Int, j ≤ D ∧ x = .int .i64 (p + 2 + j : Nat) ∧ sm = .int .u64 S ∧ ft = .bool (decide (natOf 8 ((M.drop (p + 2)).take j) ≤ 9223372036854775808)) ∧ 0 ≤ S ∧ S ≤ 9223372036854775808 ∧ Hid (natOf 8 ((M.drop (p + 2)).take j) ≤ 9223372036854775808 → S = natOf 8 ((M.drop (p + 2)).take j)) ∧ Below w.heap.size w wr ∧ Txt wr b s tab) (fun x _ _ _ => s.size - (intOf x).toNat)
  case atStart => exact ⟨0, 0, Nat.zero_le _, by go_num, rfl, rfl, by omega, by omega, fun _ => rfl, hBx, T6⟩
  case round =>
    obtain ⟨j, S, hj, rfl, rfl, rfl, hS0, hS1, HS, hB, T⟩ := hrel
    have hs := hB.size
    by_cases hlt : j < D
    · obtain ⟨g1, g2⟩ := HDG.out j hlt
      rw [hlen.out] at g2
      obtain ⟨g3, g4, g5⟩ := HST.out j hlt
      have HNO := Lib.hid (sum_no 8 (by decide) (M.drop (p + 2)) j)
      have HG3 := Lib.hid g3
      clear g3
      by_cases f1 : natOf 8 ((M.drop (p + 2)).take j) ≤ 9223372036854775808
      · have HSv := Lib.hid (HS.out f1)
        have f1b : decide (natOf 8 ((M.drop (p + 2)).take j) ≤ 9223372036854775808) = true := by simp; omega
        have hw1 : IntKind.u64.wrap (digV (rawAt M (p + 2 + j)) 8) = (digV (rawAt M (p + 2 + j)) 8) := IntWalk.u64_in _ (by omega)
        have hw2 : IntKind.u64.wrap (9223372036854775808 - (digV (rawAt M (p + 2 + j)) 8)) = 9223372036854775808 - (digV (rawAt M (p + 2 + j)) 8) := IntWalk.u64_in _ (by omega)
        have hw3 : IntKind.u64.wrap ((9223372036854775808 - (digV (rawAt M (p + 2 + j)) 8)).tdiv 8) = (9223372036854775808 - (digV (rawAt M (p + 2 + j)) 8)) / 8 := IntWalk.u64_quo _ _ (by omega)
        by_cases f2 : natOf 8 ((M.drop (p + 2)).take (j + 1)) ≤ 9223372036854775808
        · have hS2 : S * 8 + (digV (rawAt M (p + 2 + j)) 8) ≤ 9223372036854775808 := by have := HSv.out; have := HG3.out; omega
          have f2b : decide (S ≤ (9223372036854775808 - (digV (rawAt M (p + 2 + j)) 8)) / 8) = true := by simp; omega
          have hw4 : IntKind.u64.wrap (S * 8) = S * 8 := IntWalk.u64_in _ (by omega)
          have hw5 : IntKind.u64.wrap (S * 8 + (digV (rawAt M (p + 2 + j)) 8)) = S * 8 + (digV (rawAt M (p + 2 + j)) 8) := IntWalk.u64_in _ (by omega)
          have HSw := Lib.hid (show S * 8 + (digV (rawAt M (p + 2 + j)) 8) = natOf 8 ((M.drop (p + 2)).take (j + 1)) by have := HSv.out; have := HG3.out; omega)
          have F2 := Lib.hid (show true = decide (natOf 8 ((M.drop (p + 2)).take (j + 1)) ≤ 9223372036854775808) by simp; omega)
          clear f1 f2
          go_wp2_with (first | (with_reducible refine at_load0 ?_; refine wpList_load_txt rfl _ rfl rfl T ?_) | (with_reducible refine at_load1 ?_; refine wpList_load_txtG _ rfl rfl T rfl ?_))
          refine (txt_at_of s tab M HM HT _ (p + 2 + j) (by omega) _).mono ?_; rintro e w20 ⟨rfl, hB20⟩
          have T20 := T.below hB20 T.lt
          go_wp2_with fail
          refine (ref_digit _ _ _).mono ?_; rintro e w21 ⟨rfl, rfl⟩
          go_wp2_with fail
          go_roundw
          case rel => exact ⟨j + 1, S * 8 + (digV (rawAt M (p + 2 + j)) 8), by omega, by go_num, rfl, congrArg Value.bool F2.out, by omega, hS2, fun _ => HSw.out, hB.trans (hB20.mono (by omega)), T20⟩
          case measure => simp [intOf]; omega
        · have hS2 : ¬S * 8 + (digV (rawAt M (p + 2 + j)) 8) ≤ 9223372036854775808 := by have := HSv.out; have := HG3.out; omega
          have f2b : decide (S ≤ (9223372036854775808 - (digV (rawAt M (p + 2 + j)) 8)) / 8) = false := by simp; omega
          have F2 := Lib.hid (show false = decide (natOf 8 ((M.drop (p + 2)).take (j + 1)) ≤ 9223372036854775808) by simp; omega)
          have F3 := Lib.hid f2
          clear f1 f2
          go_wp2_with (first | (with_reducible refine at_load0 ?_; refine wpList_load_txt rfl _ rfl rfl T ?_) | (with_reducible refine at_load1 ?_; refine wpList_load_txtG _ rfl rfl T rfl ?_))
          refine (txt_at_of s tab M HM HT _ (p + 2 + j) (by omega) _).mono ?_; rintro e w20 ⟨rfl, hB20⟩
          have T20 := T.below hB20 T.lt
          go_wp2_with fail
          refine (ref_digit _ _ _).mono ?_; rintro e w21 ⟨rfl, rfl⟩
          go_wp2_with fail
          go_roundw
          case rel => exact ⟨j + 1, S, by omega, by go_num, rfl, congrArg Value.bool F2.out, hS0, hS1, fun h => absurd h F3.out, hB.trans (hB20.mono (by omega)), T20⟩
          case measure => simp [intOf]; omega
      · have f1b : decide (natOf 8 ((M.drop (p + 2)).take j) ≤ 9223372036854775808) = false := by simp; omega
        have F3 := Lib.hid (HNO.out f1)
        have F2 := Lib.hid (show false = decide (natOf 8 ((M.drop (p + 2)).take (j + 1)) ≤ 9223372036854775808) by have := F3.out; simp; omega)
        clear f1
        go_wp2_with (first | (with_reducible refine at_load0 ?_; refine wpList_load_txt rfl _ rfl rfl T ?_) | (with_reducible refine at_load1 ?_; refine wpList_load_txtG _ rfl rfl T rfl ?_))
        refine (txt_at_of s tab M HM HT _ (p + 2 + j) (by omega) _).mono ?_; rintro e w20 ⟨rfl, hB20⟩
        have T20 := T.below hB20 T.lt
        go_wp2_with fail
        refine (ref_digit _ _ _).mono ?_; rintro e w21 ⟨rfl, rfl⟩
        go_wp2_with fail
        go_roundw
        case rel => exact ⟨j + 1, S, by omega, by go_num, rfl, congrArg Value.bool F2.out, hS0, hS1, fun h => absurd h F3.out, hB.trans (hB20.mono (by omega)), T20⟩
        case measure => simp [intOf]; omega
    · obtain rfl : j = D := by omega
      have HDSj := HDS.out
      by_cases f1 : natOf 8 ((M.drop (p + 2)).take j) ≤ 9223372036854775808
      · have f1b : decide (natOf 8 ((M.drop (p + 2)).take j) ≤ 9223372036854775808) = true := by simp; omega
        have HI := Lib.hid (intR_ok 8 ((M.drop (p + 2)).take j) p (p + 2 + j : Nat) f1 S (HS.out f1) (wrap64 S) (by unfold wrap64; omega))
        clear f1
        go_wp2_with (first | (with_reducible refine at_load0 ?_; refine wpList_load_txt rfl _ rfl rfl T ?_) | (with_reducible refine at_load1 ?_; refine wpList_load_txtG _ rfl rfl T rfl ?_))
        refine (txt_at_of s tab M HM HT _ (p + 2 + j) (by omega) _).mono ?_; rintro e w20 ⟨rfl, hB20⟩
        have T20 := T.below hB20 T.lt
        go_wp2_with fail
        refine (ref_digit _ _ _).mono ?_; rintro e w21 ⟨rfl, rfl⟩
        go_wp2_with fail
        refine bodyPost_ret (v := .tuple #[.int .i64 (wrap64 S), .int .i64 (p + 2 + j : Nat), .bool true]) (by simp [results, Try.results66, go_sem]) rfl ⟨⟨_, _, by rw [HK.out, HI.out.1], ?_⟩, hB.trans (hB20.mono (by omega))⟩
        rw [HK.out]; exact HI.out.2
      · have f1b : decide (natOf 8 ((M.drop (p + 2)).take j) ≤ 9223372036854775808) = false := by simp; omega
        have HI := Lib.hid (intR_no 8 ((M.drop (p + 2)).take j) p (p + 2 + j : Nat) f1 (wrap64 S) (p + 2 + j : Nat))
        clear f1
        go_wp2_with (first | (with_reducible refine at_load0 ?_; refine wpList_load_txt rfl _ rfl rfl T ?_) | (with_reducible refine at_load1 ?_; refine wpList_load_txtG _ rfl rfl T rfl ?_))
        refine (txt_at_of s tab M HM HT _ (p + 2 + j) (by omega) _).mono ?_; rintro e w20 ⟨rfl, hB20⟩
        have T20 := T.below hB20 T.lt
        go_wp2_with fail
        refine (ref_digit _ _ _).mono ?_; rintro e w21 ⟨rfl, rfl⟩
        go_wp2_with fail
        refine bodyPost_ret (v := .tuple #[.int .i64 (wrap64 S), .int .i64 (p + 2 + j : Nat), .bool false]) (by simp [results, Try.results66, go_sem]) rfl ⟨⟨_, _, by rw [HK.out, HI.out.1], ?_⟩, hB.trans (hB20.mono (by omega))⟩
        rw [HK.out]; exact HI.out.2
set_option maxHeartbeats 4000000 in
theorem integer_8_no (s : ByteArray) (tab : Int → Int) (ht : TabOk tab) (p : Nat) (hp : p < s.size) (hsz : s.size ≤ 16384) (h : rawAt (cvt tab s.data.toList) p = 48) (h2 : rawAt (cvt tab s.data.toList) (p + 1) = 111) (h3 : ¬0 < span (isDig 8) ((cvt tab s.data.toList).drop (p + 2))) (w : World) :
    Calls Try.prog 66 #[txtV s tab, .int .i64 p] w fun e w' => (∃ n k : Int, e = .returned (.tuple #[.int .i64 n, .int .i64 k, .bool ((numR (cvt tab s.data.toList) s.data.toList p).err == 0)]) ∧ IntGives (numR (cvt tab s.data.toList) s.data.toList p) n k) ∧ Below w.heap.size w w' := by
  have HT := Lib.hid ht
  clear ht
  have hlen : Hid ((cvt tab s.data.toList).length = s.size) := by show _ = _; rw [cvt_len]; simp
  generalize hM : cvt tab s.data.toList = M at *
  have HM := Lib.hid hM
  clear hM
  have hnb : numBase M p = 8 := by unfold numBase; rw [if_pos h, h2]; rfl
  have HK := Lib.hid (show numR M s.data.toList p = intR 10 ((M.drop p).take (span (isDig 10) (M.drop p))) p (p + span (isDig 10) (M.drop p) : Nat) by unfold numR; rw [if_neg (by omega), hnb, if_neg (fun hh => h3 hh.2)]; simp)
  have e3 := dig_stop 8 M (p + 2)
  rw [show span (isDig 8) (M.drop (p + 2)) = 0 by omega, Nat.add_zero] at e3
  have d1 : (rawAt M p == 48) = true := by simp [h]
  have d2 : (rawAt M (p + 1) == 39) = false := by simp [h2]
  have x1 : (rawAt M (p + 1) == 120) = false := by simp [h2]
  have x2 : (rawAt M (p + 1) == 111) = true := by simp [h2]
  clear h h2 h3 hnb
  have HDS := Lib.hid (dig_stop 10 M (p))
  have HDG := Lib.hid (dig_step 10 M (p))
  have HST := Lib.hid (sum_step 10 (by decide) (by decide) M (p))
  have hDl := span_le (isDig 10) (M.drop (p))
  generalize hD : span (isDig 10) (M.drop (p)) = D at *
  clear hD
  go_enter Try.func66, Try.ntmps66
  go_wp2_with (first | (refine wpList_box_txt rfl _ s tab rfl rfl ?_; intro b w1 T0 hle hB0) | (with_reducible refine at_load0 ?_; refine wpList_load_txt rfl _ rfl rfl T0 ?_))
  refine (txt_at_of s tab M HM HT _ p (by omega) _).mono ?_; rintro e w2 ⟨rfl, hB2⟩
  have T2 := T0.below hB2 T0.lt
  have hs0 := hB0.size
  go_wp2_with (first | (with_reducible refine at_load0 ?_; refine wpList_load_txt rfl _ rfl rfl T2 ?_) | (with_reducible refine at_load1 ?_; refine wpList_load_txtG _ rfl rfl T2 rfl ?_))
  refine (txt_at_of s tab M HM HT _ (p + 1) (by omega) _).mono ?_; rintro e w3 ⟨rfl, hB3⟩
  have T3 := T2.below hB3 T2.lt
  go_wp2_with (first | (with_reducible refine at_load0 ?_; refine wpList_load_txt rfl _ rfl rfl T3 ?_) | (with_reducible refine at_load1 ?_; refine wpList_load_txtG _ rfl rfl T3 rfl ?_))
  refine (txt_at_of s tab M HM HT _ (p) (by omega) _).mono ?_; rintro e w4 ⟨rfl, hB4⟩
  have T4 := T3.below hB4 T3.lt
  go_wp2_with (first | (with_reducible refine at_load0 ?_; refine wpList_load_txt rfl _ rfl rfl T4 ?_) | (with_reducible refine at_load1 ?_; refine wpList_load_txtG _ rfl rfl T4 rfl ?_))
  refine (txt_at_of s tab M HM HT _ (p + 1) (by omega) _).mono ?_; rintro e w5 ⟨rfl, hB5⟩
  have T5 := T4.below hB5 T4.lt
  go_wp2_with (first | (with_reducible refine at_load0 ?_; refine wpList_load_txt rfl _ rfl rfl T5 ?_) | (with_reducible refine at_load1 ?_; refine wpList_load_txtG _ rfl rfl T5 rfl ?_))
  refine (txt_at_of s tab M HM HT _ (p + 2) (by omega) _).mono ?_; rintro e w6 ⟨rfl, hB6⟩
  have T6 := T5.below hB6 T5.lt
  go_wp2_with fail
  refine (ref_digit _ _ _).mono ?_; rintro e w7 ⟨rfl, rfl⟩
  have hBx : Below w.heap.size w w6 := hB0.trans ((trans3 (Nat.le_refl _) hB2 hB3 hB4 |>.mono (by omega)).trans (trans2 (by have := hB2.size; have := hB3.size; have := hB4.size; omega) hB5 hB6))
  go_wp2_with fail
  go_loopw [11, 15, 16] (fun x sm ft wr => ∃ j : Nat, ∃ S : Int, j ≤ D ∧ x = .int .i64 (p + j : Nat) ∧ sm = .int .u64 S ∧ ft = .bool (decide (natOf 10 ((M.drop (p)).take j) ≤ 9223372036854775808)) ∧ 0 ≤ S ∧ S ≤ 9223372036854775808 ∧ Hid (natOf 10 ((M.drop (p)).take j) ≤ 9223372036854775808 → S = natOf 10 ((M.drop (p)).take j)) ∧ Below w.heap.size w wr ∧ Txt wr b s tab) (fun x _ _ _ => s.size - (intOf x).toNat)
  case atStart => exact ⟨0, 0, Nat.zero_le _, by go_num, rfl, rfl, by omega, by omega, fun _ => rfl, hBx, T6⟩
  case round =>
    obtain ⟨j, S, hj, rfl, rfl, rfl, hS0, hS1, HS, hB, T⟩ := hrel
    have hs := hB.size
    by_cases hlt : j < D
    · obtain ⟨g1, g2⟩ := HDG.out j hlt
      rw [hlen.out] at g2
      obtain ⟨g3, g4, g5⟩ := HST.out j hlt
      have HNO := Lib.hid (sum_no 10 (by decide) (M.drop (p)) j)
      have HG3 := Lib.hid g3
      clear g3
      by_cases f1 : natOf 10 ((M.drop (p)).take j) ≤ 9223372036854775808
      · have HSv := Lib.hid (HS.out f1)
        have f1b : decide (natOf 10 ((M.drop (p)).take j) ≤ 9223372036854775808) = true := by simp; omega
        have hw1 : IntKind.u64.wrap (digV (rawAt M (p + j)) 10) = (digV (rawAt M (p + j)) 10) := IntWalk.u64_in _ (by omega)
        have hw2 : IntKind.u64.wrap (9223372036854775808 - (digV (rawAt M (p + j)) 10)) = 9223372036854775808 - (digV (rawAt M (p + j)) 10) := IntWalk.u64_in _ (by omega)
        have hw3 : IntKind.u64.wrap ((9223372036854775808 - (digV (rawAt M (p + j)) 10)).tdiv 10) = (9223372036854775808 - (digV (rawAt M (p + j)) 10)) / 10 := IntWalk.u64_quo _ _ (by omega)
        by_cases f2 : natOf 10 ((M.drop (p)).take (j + 1)) ≤ 9223372036854775808
        · have hS2 : S * 10 + (digV (rawAt M (p + j)) 10) ≤ 9223372036854775808 := by have := HSv.out; have := HG3.out; omega
          have f2b : decide (S ≤ (9223372036854775808 - (digV (rawAt M (p + j)) 10)) / 10) = true := by simp; omega
          have hw4 : IntKind.u64.wrap (S * 10) = S * 10 := IntWalk.u64_in _ (by omega)
          have hw5 : IntKind.u64.wrap (S * 10 + (digV (rawAt M (p + j)) 10)) = S * 10 + (digV (rawAt M (p + j)) 10) := IntWalk.u64_in _ (by omega)
          have HSw := Lib.hid (show S * 10 + (digV (rawAt M (p + j)) 10) = natOf 10 ((M.drop (p)).take (j + 1)) by have := HSv.out; have := HG3.out; omega)
          have F2 := Lib.hid (show true = decide (natOf 10 ((M.drop (p)).take (j + 1)) ≤ 9223372036854775808) by simp; omega)
          clear f1 f2
          go_wp2_with (first | (with_reducible refine at_load0 ?_; refine wpList_load_txt rfl _ rfl rfl T ?_) | (with_reducible refine at_load1 ?_; refine wpList_load_txtG _ rfl rfl T rfl ?_))
          refine (txt_at_of s tab M HM HT _ (p + j) (by omega) _).mono ?_; rintro e w20 ⟨rfl, hB20⟩
          have T20 := T.below hB20 T.lt
          go_wp2_with fail
          refine (ref_digit _ _ _).mono ?_; rintro e w21 ⟨rfl, rfl⟩
          go_wp2_with fail
          go_roundw
          case rel => exact ⟨j + 1, S * 10 + (digV (rawAt M (p + j)) 10), by omega, by go_num, rfl, congrArg Value.bool F2.out, by omega, hS2, fun _ => HSw.out, hB.trans (hB20.mono (by omega)), T20⟩
          case measure => simp [intOf]; omega
        · have hS2 : ¬S * 10 + (digV (rawAt M (p + j)) 10) ≤ 9223372036854775808 := by have := HSv.out; have := HG3.out; omega
          have f2b : decide (S ≤ (9223372036854775808 - (digV (rawAt M (p + j)) 10)) / 10) = false := by simp; omega
          have F2 := Lib.hid (show false = decide (natOf 10 ((M.drop (p)).take (j + 1)) ≤ 9223372036854775808) by simp; omega)
          have F3 := Lib.hid f2
          clear f1 f2
          go_wp2_with (first | (with_reducible refine at_load0 ?_; refine wpList_load_txt rfl _ rfl rfl T ?_) | (with_reducible refine at_load1 ?_; refine wpList_load_txtG _ rfl rfl T rfl ?_))
          refine (txt_at_of s tab M HM HT _ (p + j) (by omega) _).mono ?_; rintro e w20 ⟨rfl, hB20⟩
          have T20 := T.below hB20 T.lt
          go_wp2_with fail
          refine (ref_digit _ _ _).mono ?_; rintro e w21 ⟨rfl, rfl⟩
          go_wp2_with fail
          go_roundw
          case rel => exact ⟨j + 1, S, by omega, by go_num, rfl, congrArg Value.bool F2.out, hS0, hS1, fun h => absurd h F3.out, hB.trans (hB20.mono (by omega)), T20⟩
          case measure => simp [intOf]; omega
      · have f1b : decide (natOf 10 ((M.drop (p)).take j) ≤ 9223372036854775808) = false := by simp; omega
        have F3 := Lib.hid (HNO.out f1)
        have F2 := Lib.hid (show false = decide (natOf 10 ((M.drop (p)).take (j + 1)) ≤ 9223372036854775808) by have := F3.out; simp; omega)
        clear f1
        go_wp2_with (first | (with_reducible refine at_load0 ?_; refine wpList_load_txt rfl _ rfl rfl T ?_) | (with_reducible refine at_load1 ?_; refine wpList_load_txtG _ rfl rfl T rfl ?_))
        refine (txt_at_of s tab M HM HT _ (p + j) (by omega) _).mono ?_; rintro e w20 ⟨rfl, hB20⟩
        have T20 := T.below hB20 T.lt
        go_wp2_with fail
        refine (ref_digit _ _ _).mono ?_; rintro e w21 ⟨rfl, rfl⟩
        go_wp2_with fail
        go_roundw
        case rel => exact ⟨j + 1, S, by omega, by go_num, rfl, congrArg Value.bool F2.out, hS0, hS1, fun h => absurd h F3.out, hB.trans (hB20.mono (by omega)), T20⟩
        case measure => simp [intOf]; omega
    · obtain rfl : j = D := by omega
      have HDSj := HDS.out
      by_cases f1 : natOf 10 ((M.drop (p)).take j) ≤ 9223372036854775808
      · have f1b : decide (natOf 10 ((M.drop (p)).take j) ≤ 9223372036854775808) = true := by simp; omega
        have HI := Lib.hid (intR_ok 10 ((M.drop (p)).take j) p (p + j : Nat) f1 S (HS.out f1) (wrap64 S) (by unfold wrap64; omega))
        clear f1
        go_wp2_with (first | (with_reducible refine at_load0 ?_; refine wpList_load_txt rfl _ rfl rfl T ?_) | (with_reducible refine at_load1 ?_; refine wpList_load_txtG _ rfl rfl T rfl ?_))
        refine (txt_at_of s tab M HM HT _ (p + j) (by omega) _).mono ?_; rintro e w20 ⟨rfl, hB20⟩
        have T20 := T.below hB20 T.lt
        go_wp2_with fail
        refine (ref_digit _ _ _).mono ?_; rintro e w21 ⟨rfl, rfl⟩
        go_wp2_with fail
        refine bodyPost_ret (v := .tuple #[.int .i64 (wrap64 S), .int .i64 (p + j : Nat), .bool true]) (by simp [results, Try.results66, go_sem]) rfl ⟨⟨_, _, by rw [HK.out, HI.out.1], ?_⟩, hB.trans (hB20.mono (by omega))⟩
        rw [HK.out]; exact HI.out.2
      · have f1b : decide (natOf 10 ((M.drop (p)).take j) ≤ 9223372036854775808) = false := by simp; omega
        have HI := Lib.hid (intR_no 10 ((M.drop (p)).take j) p (p + j : Nat) f1 (wrap64 S) (p + j : Nat))
        clear f1
        go_wp2_with (first | (with_reducible refine at_load0 ?_; refine wpList_load_txt rfl _ rfl rfl T ?_) | (with_reducible refine at_load1 ?_; refine wpList_load_txtG _ rfl rfl T rfl ?_))
        refine (txt_at_of s tab M HM HT _ (p + j) (by omega) _).mono ?_; rintro e w20 ⟨rfl, hB20⟩
        have T20 := T.below hB20 T.lt
        go_wp2_with fail
        refine (ref_digit _ _ _).mono ?_; rintro e w21 ⟨rfl, rfl⟩
        go_wp2_with fail
        refine bodyPost_ret (v := .tuple #[.int .i64 (wrap64 S), .int .i64 (p + j : Nat), .bool false]) (by simp [results, Try.results66, go_sem]) rfl ⟨⟨_, _, by rw [HK.out, HI.out.1], ?_⟩, hB.trans (hB20.mono (by omega))⟩
        rw [HK.out]; exact HI.out.2
set_option maxHeartbeats 4000000 in
theorem integer_2_yes (s : ByteArray) (tab : Int → Int) (ht : TabOk tab) (p : Nat) (hp : p < s.size) (hsz : s.size ≤ 16384) (h : rawAt (cvt tab s.data.toList) p = 48) (h2 : rawAt (cvt tab s.data.toList) (p + 1) = 98) (h3 : 0 < span (isDig 2) ((cvt tab s.data.toList).drop (p + 2))) (w : World) :
    Calls Try.prog 66 #[txtV s tab, .int .i64 p] w fun e w' => (∃ n k : Int, e = .returned (.tuple #[.int .i64 n, .int .i64 k, .bool ((numR (cvt tab s.data.toList) s.data.toList p).err == 0)]) ∧ IntGives (numR (cvt tab s.data.toList) s.data.toList p) n k) ∧ Below w.heap.size w w' := by
  have HT := Lib.hid ht
  clear ht
  have hlen : Hid ((cvt tab s.data.toList).length = s.size) := by show _ = _; rw [cvt_len]; simp
  generalize hM : cvt tab s.data.toList = M at *
  have HM := Lib.hid hM
  clear hM
  have hnb : numBase M p = 2 := by unfold numBase; rw [if_pos h, h2]; rfl
  have HK := Lib.hid (show numR M s.data.toList p = intR 2 ((M.drop (p + 2)).take (span (isDig 2) (M.drop (p + 2)))) p (p + 2 + span (isDig 2) (M.drop (p + 2)) : Nat) by unfold numR; rw [if_neg (by omega), hnb, if_pos ⟨by decide, h3⟩]; simp)
  have e3 := (dig_step 2 M (p + 2) 0 h3).1
  rw [Nat.add_zero] at e3
  have d1 : (rawAt M p == 48) = true := by simp [h]
  have d2 : (rawAt M (p + 1) == 39) = false := by simp [h2]
  have x1 : (rawAt M (p + 1) == 120) = false := by simp [h2]
  have x2 : (rawAt M (p + 1) == 111) = false := by simp [h2]
  have x3 : (rawAt M (p + 1) == 98) = true := by simp [h2]
  clear h h2 h3 hnb
  have HDS := Lib.hid (dig_stop 2 M (p + 2))
  have HDG := Lib.hid (dig_step 2 M (p + 2))
  have HST := Lib.hid (sum_step 2 (by decide) (by decide) M (p + 2))
  have hDl := span_le (isDig 2) (M.drop (p + 2))
  generalize hD : span (isDig 2) (M.drop (p + 2)) = D at *
  clear hD
  go_enter Try.func66, Try.ntmps66
  go_wp2_with (first | (refine wpList_box_txt rfl _ s tab rfl rfl ?_; intro b w1 T0 hle hB0) | (with_reducible refine at_load0 ?_; refine wpList_load_txt rfl _ rfl rfl T0 ?_))
  refine (txt_at_of s tab M HM HT _ p (by omega) _).mono ?_; rintro e w2 ⟨rfl, hB2⟩
  have T2 := T0.below hB2 T0.lt
  have hs0 := hB0.size
  go_wp2_with (first | (with_reducible refine at_load0 ?_; refine wpList_load_txt rfl _ rfl rfl T2 ?_) | (with_reducible refine at_load1 ?_; refine wpList_load_txtG _ rfl rfl T2 rfl ?_))
  refine (txt_at_of s tab M HM HT _ (p + 1) (by omega) _).mono ?_; rintro e w3 ⟨rfl, hB3⟩
  have T3 := T2.below hB3 T2.lt
  go_wp2_with (first | (with_reducible refine at_load0 ?_; refine wpList_load_txt rfl _ rfl rfl T3 ?_) | (with_reducible refine at_load1 ?_; refine wpList_load_txtG _ rfl rfl T3 rfl ?_))
  refine (txt_at_of s tab M HM HT _ (p) (by omega) _).mono ?_; rintro e w4 ⟨rfl, hB4⟩
  have T4 := T3.below hB4 T3.lt
  go_wp2_with (first | (with_reducible refine at_load0 ?_; refine wpList_load_txt rfl _ rfl rfl T4 ?_) | (with_reducible refine at_load1 ?_; refine wpList_load_txtG _ rfl rfl T4 rfl ?_))
  refine (txt_at_of s tab M HM HT _ (p + 1) (by omega) _).mono ?_; rintro e w5 ⟨rfl, hB5⟩
  have T5 := T4.below hB5 T4.lt
  go_wp2_with (first | (with_reducible refine at_load0 ?_; refine wpList_load_txt rfl _ rfl rfl T5 ?_) | (with_reducible refine at_load1 ?_; refine wpList_load_txtG _ rfl rfl T5 rfl ?_))
  refine (txt_at_of s tab M HM HT _ (p + 2) (by omega) _).mono ?_; rintro e w6 ⟨rfl, hB6⟩
  have T6 := T5.below hB6 T5.lt
  go_wp2_with fail
  refine (ref_digit _ _ _).mono ?_; rintro e w7 ⟨rfl, rfl⟩
  have hBx : Below w.heap.size w w6 := hB0.trans ((trans3 (Nat.le_refl _) hB2 hB3 hB4 |>.mono (by omega)).trans (trans2 (by have := hB2.size; have := hB3.size; have := hB4.size; omega) hB5 hB6))
  go_wp2_with fail
  go_loopw [11, 15, 16] (fun x sm ft wr => ∃ j : Nat, ∃ S : Int, j ≤ D ∧ x = .int .i64 (p + 2 + j : Nat) ∧ sm = .int .u64 S ∧ ft = .bool (decide (natOf 2 ((M.drop (p + 2)).take j) ≤ 9223372036854775808)) ∧ 0 ≤ S ∧ S ≤ 9223372036854775808 ∧ Hid (natOf 2 ((M.drop (p + 2)).take j) ≤ 9223372036854775808 → S = natOf 2 ((M.drop (p + 2)).take j)) ∧ Below w.heap.size w wr ∧ Txt wr b s tab) (fun x _ _ _ => s.size - (intOf x).toNat)
  case atStart => exact ⟨0, 0, Nat.zero_le _, by go_num, rfl, rfl, by omega, by omega, fun _ => rfl, hBx, T6⟩
  case round =>
    obtain ⟨j, S, hj, rfl, rfl, rfl, hS0, hS1, HS, hB, T⟩ := hrel
    have hs := hB.size
    by_cases hlt : j < D
    · obtain ⟨g1, g2⟩ := HDG.out j hlt
      rw [hlen.out] at g2
      obtain ⟨g3, g4, g5⟩ := HST.out j hlt
      have HNO := Lib.hid (sum_no 2 (by decide) (M.drop (p + 2)) j)
      have HG3 := Lib.hid g3
      clear g3
      by_cases f1 : natOf 2 ((M.drop (p + 2)).take j) ≤ 9223372036854775808
      · have HSv := Lib.hid (HS.out f1)
        have f1b : decide (natOf 2 ((M.drop (p + 2)).take j) ≤ 9223372036854775808) = true := by simp; omega
        have hw1 : IntKind.u64.wrap (digV (rawAt M (p + 2 + j)) 2) = (digV (rawAt M (p + 2 + j)) 2) := IntWalk.u64_in _ (by omega)
        have hw2 : IntKind.u64.wrap (9223372036854775808 - (digV (rawAt M (p + 2 + j)) 2)) = 9223372036854775808 - (digV (rawAt M (p + 2 + j)) 2) := IntWalk.u64_in _ (by omega)
        have hw3 : IntKind.u64.wrap ((9223372036854775808 - (digV (rawAt M (p + 2 + j)) 2)).tdiv 2) = (9223372036854775808 - (digV (rawAt M (p + 2 + j)) 2)) / 2 := IntWalk.u64_quo _ _ (by omega)
        by_cases f2 : natOf 2 ((M.drop (p + 2)).take (j + 1)) ≤ 9223372036854775808
        · have hS2 : S * 2 + (digV (rawAt M (p + 2 + j)) 2) ≤ 9223372036854775808 := by have := HSv.out; have := HG3.out; omega
          have f2b : decide (S ≤ (9223372036854775808 - (digV (rawAt M (p + 2 + j)) 2)) / 2) = true := by simp; omega
          have hw4 : IntKind.u64.wrap (S * 2) = S * 2 := IntWalk.u64_in _ (by omega)
          have hw5 : IntKind.u64.wrap (S * 2 + (digV (rawAt M (p + 2 + j)) 2)) = S * 2 + (digV (rawAt M (p + 2 + j)) 2) := IntWalk.u64_in _ (by omega)
          have HSw := Lib.hid (show S * 2 + (digV (rawAt M (p + 2 + j)) 2) = natOf 2 ((M.drop (p + 2)).take (j + 1)) by have := HSv.out; have := HG3.out; omega)
          have F2 := Lib.hid (show true = decide (natOf 2 ((M.drop (p + 2)).take (j + 1)) ≤ 9223372036854775808) by simp; omega)
          clear f1 f2
          go_wp2_with (first | (with_reducible refine at_load0 ?_; refine wpList_load_txt rfl _ rfl rfl T ?_) | (with_reducible refine at_load1 ?_; refine wpList_load_txtG _ rfl rfl T rfl ?_))
          refine (txt_at_of s tab M HM HT _ (p + 2 + j) (by omega) _).mono ?_; rintro e w20 ⟨rfl, hB20⟩
          have T20 := T.below hB20 T.lt
          go_wp2_with fail
          refine (ref_digit _ _ _).mono ?_; rintro e w21 ⟨rfl, rfl⟩
          go_wp2_with fail
          go_roundw
          case rel => exact ⟨j + 1, S * 2 + (digV (rawAt M (p + 2 + j)) 2), by omega, by go_num, rfl, congrArg Value.bool F2.out, by omega, hS2, fun _ => HSw.out, hB.trans (hB20.mono (by omega)), T20⟩
          case measure => simp [intOf]; omega
        · have hS2 : ¬S * 2 + (digV (rawAt M (p + 2 + j)) 2) ≤ 9223372036854775808 := by have := HSv.out; have := HG3.out; omega
          have f2b : decide (S ≤ (9223372036854775808 - (digV (rawAt M (p + 2 + j)) 2)) / 2) = false := by simp; omega
          have F2 := Lib.hid (show false = decide (natOf 2 ((M.drop (p + 2)).take (j + 1)) ≤ 9223372036854775808) by simp; omega)
          have F3 := Lib.hid f2
          clear f1 f2
          go_wp2_with (first | (with_reducible refine at_load0 ?_; refine wpList_load_txt rfl _ rfl rfl T ?_) | (with_reducible refine at_load1 ?_; refine wpList_load_txtG _ rfl rfl T rfl ?_))
          refine (txt_at_of s tab M HM HT _ (p + 2 + j) (by omega) _).mono ?_; rintro e w20 ⟨rfl, hB20⟩
          have T20 := T.below hB20 T.lt
          go_wp2_with fail
          refine (ref_digit _ _ _).mono ?_; rintro e w21 ⟨rfl, rfl⟩
          go_wp2_with fail
          go_roundw
          case rel => exact ⟨j + 1, S, by omega, by go_num, rfl, congrArg Value.bool F2.out, hS0, hS1, fun h => absurd h F3.out, hB.trans (hB20.mono (by omega)), T20⟩
          case measure => simp [intOf]; omega
      · have f1b : decide (natOf 2 ((M.drop (p + 2)).take j) ≤ 9223372036854775808) = false := by simp; omega
        have F3 := Lib.hid (HNO.out f1)
        have F2 := Lib.hid (show false = decide (natOf 2 ((M.drop (p + 2)).take (j + 1)) ≤ 9223372036854775808) by have := F3.out; simp; omega)
        clear f1
        go_wp2_with (first | (with_reducible refine at_load0 ?_; refine wpList_load_txt rfl _ rfl rfl T ?_) | (with_reducible refine at_load1 ?_; refine wpList_load_txtG _ rfl rfl T rfl ?_))
        refine (txt_at_of s tab M HM HT _ (p + 2 + j) (by omega) _).mono ?_; rintro e w20 ⟨rfl, hB20⟩
        have T20 := T.below hB20 T.lt
        go_wp2_with fail
        refine (ref_digit _ _ _).mono ?_; rintro e w21 ⟨rfl, rfl⟩
        go_wp2_with fail
        go_roundw
        case rel => exact ⟨j + 1, S, by omega, by go_num, rfl, congrArg Value.bool F2.out, hS0, hS1, fun h => absurd h F3.out, hB.trans (hB20.mono (by omega)), T20⟩
        case measure => simp [intOf]; omega
    · obtain rfl : j = D := by omega
      have HDSj := HDS.out
      by_cases f1 : natOf 2 ((M.drop (p + 2)).take j) ≤ 9223372036854775808
      · have f1b : decide (natOf 2 ((M.drop (p + 2)).take j) ≤ 9223372036854775808) = true := by simp; omega
        have HI := Lib.hid (intR_ok 2 ((M.drop (p + 2)).take j) p (p + 2 + j : Nat) f1 S (HS.out f1) (wrap64 S) (by unfold wrap64; omega))
        clear f1
        go_wp2_with (first | (with_reducible refine at_load0 ?_; refine wpList_load_txt rfl _ rfl rfl T ?_) | (with_reducible refine at_load1 ?_; refine wpList_load_txtG _ rfl rfl T rfl ?_))
        refine (txt_at_of s tab M HM HT _ (p + 2 + j) (by omega) _).mono ?_; rintro e w20 ⟨rfl, hB20⟩
        have T20 := T.below hB20 T.lt
        go_wp2_with fail
        refine (ref_digit _ _ _).mono ?_; rintro e w21 ⟨rfl, rfl⟩
        go_wp2_with fail
        refine bodyPost_ret (v := .tuple #[.int .i64 (wrap64 S), .int .i64 (p + 2 + j : Nat), .bool true]) (by simp [results, Try.results66, go_sem]) rfl ⟨⟨_, _, by rw [HK.out, HI.out.1], ?_⟩, hB.trans (hB20.mono (by omega))⟩
        rw [HK.out]; exact HI.out.2
      · have f1b : decide (natOf 2 ((M.drop (p + 2)).take j) ≤ 9223372036854775808) = false := by simp; omega
        have HI := Lib.hid (intR_no 2 ((M.drop (p + 2)).take j) p (p + 2 + j : Nat) f1 (wrap64 S) (p + 2 + j : Nat))
        clear f1
        go_wp2_with (first | (with_reducible refine at_load0 ?_; refine wpList_load_txt rfl _ rfl rfl T ?_) | (with_reducible refine at_load1 ?_; refine wpList_load_txtG _ rfl rfl T rfl ?_))
        refine (txt_at_of s tab M HM HT _ (p + 2 + j) (by omega) _).mono ?_; rintro e w20 ⟨rfl, hB20⟩
        have T20 := T.below hB20 T.lt
        go_wp2_with fail
        refine (ref_digit _ _ _).mono ?_; rintro e w21 ⟨rfl, rfl⟩
        go_wp2_with fail
        refine bodyPost_ret (v := .tuple #[.int .i64 (wrap64 S), .int .i64 (p + 2 + j : Nat), .bool false]) (by simp [results, Try.results66, go_sem]) rfl ⟨⟨_, _, by rw [HK.out, HI.out.1], ?_⟩, hB.trans (hB20.mono (by omega))⟩
        rw [HK.out]; exact HI.out.2
set_option maxHeartbeats 4000000 in
theorem integer_2_no (s : ByteArray) (tab : Int → Int) (ht : TabOk tab) (p : Nat) (hp : p < s.size) (hsz : s.size ≤ 16384) (h : rawAt (cvt tab s.data.toList) p = 48) (h2 : rawAt (cvt tab s.data.toList) (p + 1) = 98) (h3 : ¬0 < span (isDig 2) ((cvt tab s.data.toList).drop (p + 2))) (w : World) :
    Calls Try.prog 66 #[txtV s tab, .int .i64 p] w fun e w' => (∃ n k : Int, e = .returned (.tuple #[.int .i64 n, .int .i64 k, .bool ((numR (cvt tab s.data.toList) s.data.toList p).err == 0)]) ∧ IntGives (numR (cvt tab s.data.toList) s.data.toList p) n k) ∧ Below w.heap.size w w' := by
  have HT := Lib.hid ht
  clear ht
  have hlen : Hid ((cvt tab s.data.toList).length = s.size) := by show _ = _; rw [cvt_len]; simp
  generalize hM : cvt tab s.data.toList = M at *
  have HM := Lib.hid hM
  clear hM
  have hnb : numBase M p = 2 := by unfold numBase; rw [if_pos h, h2]; rfl
  have HK := Lib.hid (show numR M s.data.toList p = intR 10 ((M.drop p).take (span (isDig 10) (M.drop p))) p (p + span (isDig 10) (M.drop p) : Nat) by unfold numR; rw [if_neg (by omega), hnb, if_neg (fun hh => h3 hh.2)]; simp)
  have e3 := dig_stop 2 M (p + 2)
  rw [show span (isDig 2) (M.drop (p + 2)) = 0 by omega, Nat.add_zero] at e3
  have d1 : (rawAt M p == 48) = true := by simp [h]
  have d2 : (rawAt M (p + 1) == 39) = false := by simp [h2]
  have x1 : (rawAt M (p + 1) == 120) = false := by simp [h2]
  have x2 : (rawAt M (p + 1) == 111) = false := by simp [h2]
  have x3 : (rawAt M (p + 1) == 98) = true := by simp [h2]
  clear h h2 h3 hnb
  have HDS := Lib.hid (dig_stop 10 M (p))
  have HDG := Lib.hid (dig_step 10 M (p))
  have HST := Lib.hid (sum_step 10 (by decide) (by decide) M (p))
  have hDl := span_le (isDig 10) (M.drop (p))
  generalize hD : span (isDig 10) (M.drop (p)) = D at *
  clear hD
  go_enter Try.func66, Try.ntmps66
  go_wp2_with (first | (refine wpList_box_txt rfl _ s tab rfl rfl ?_; intro b w1 T0 hle hB0) | (with_reducible refine at_load0 ?_; refine wpList_load_txt rfl _ rfl rfl T0 ?_))
  refine (txt_at_of s tab M HM HT _ p (by omega) _).mono ?_; rintro e w2 ⟨rfl, hB2⟩
  have T2 := T0.below hB2 T0.lt
  have hs0 := hB0.size
  go_wp2_with (first | (with_reducible refine at_load0 ?_; refine wpList_load_txt rfl _ rfl rfl T2 ?_) | (with_reducible refine at_load1 ?_; refine wpList_load_txtG _ rfl rfl T2 rfl ?_))
  refine (txt_at_of s tab M HM HT _ (p + 1) (by omega) _).mono ?_; rintro e w3 ⟨rfl, hB3⟩
  have T3 := T2.below hB3 T2.lt
  go_wp2_with (first | (with_reducible refine at_load0 ?_; refine wpList_load_txt rfl _ rfl rfl T3 ?_) | (with_reducible refine at_load1 ?_; refine wpList_load_txtG _ rfl rfl T3 rfl ?_))
  refine (txt_at_of s tab M HM HT _ (p) (by omega) _).mono ?_; rintro e w4 ⟨rfl, hB4⟩
  have T4 := T3.below hB4 T3.lt
  go_wp2_with (first | (with_reducible refine at_load0 ?_; refine wpList_load_txt rfl _ rfl rfl T4 ?_) | (with_reducible refine at_load1 ?_; refine wpList_load_txtG _ rfl rfl T4 rfl ?_))
  refine (txt_at_of s tab M HM HT _ (p + 1) (by omega) _).mono ?_; rintro e w5 ⟨rfl, hB5⟩
  have T5 := T4.below hB5 T4.lt
  go_wp2_with (first | (with_reducible refine at_load0 ?_; refine wpList_load_txt rfl _ rfl rfl T5 ?_) | (with_reducible refine at_load1 ?_; refine wpList_load_txtG _ rfl rfl T5 rfl ?_))
  refine (txt_at_of s tab M HM HT _ (p + 2) (by omega) _).mono ?_; rintro e w6 ⟨rfl, hB6⟩
  have T6 := T5.below hB6 T5.lt
  go_wp2_with fail
  refine (ref_digit _ _ _).mono ?_; rintro e w7 ⟨rfl, rfl⟩
  have hBx : Below w.heap.size w w6 := hB0.trans ((trans3 (Nat.le_refl _) hB2 hB3 hB4 |>.mono (by omega)).trans (trans2 (by have := hB2.size; have := hB3.size; have := hB4.size; omega) hB5 hB6))
  go_wp2_with fail
  go_loopw [11, 15, 16] (fun x sm ft wr => ∃ j : Nat, ∃ S : Int, j ≤ D ∧ x = .int .i64 (p + j : Nat) ∧ sm = .int .u64 S ∧ ft = .bool (decide (natOf 10 ((M.drop (p)).take j) ≤ 9223372036854775808)) ∧ 0 ≤ S ∧ S ≤ 9223372036854775808 ∧ Hid (natOf 10 ((M.drop (p)).take j) ≤ 9223372036854775808 → S = natOf 10 ((M.drop (p)).take j)) ∧ Below w.heap.size w wr ∧ Txt wr b s tab) (fun x _ _ _ => s.size - (intOf x).toNat)
  case atStart => exact ⟨0, 0, Nat.zero_le _, by go_num, rfl, rfl, by omega, by omega, fun _ => rfl, hBx, T6⟩
  case round =>
    obtain ⟨j, S, hj, rfl, rfl, rfl, hS0, hS1, HS, hB, T⟩ := hrel
    have hs := hB.size
    by_cases hlt : j < D
    · obtain ⟨g1, g2⟩ := HDG.out j hlt
      rw [hlen.out] at g2
      obtain ⟨g3, g4, g5⟩ := HST.out j hlt
      have HNO := Lib.hid (sum_no 10 (by decide) (M.drop (p)) j)
      have HG3 := Lib.hid g3
      clear g3
      by_cases f1 : natOf 10 ((M.drop (p)).take j) ≤ 9223372036854775808
      · have HSv := Lib.hid (HS.out f1)
        have f1b : decide (natOf 10 ((M.drop (p)).take j) ≤ 9223372036854775808) = true := by simp; omega
        have hw1 : IntKind.u64.wrap (digV (rawAt M (p + j)) 10) = (digV (rawAt M (p + j)) 10) := IntWalk.u64_in _ (by omega)
        have hw2 : IntKind.u64.wrap (9223372036854775808 - (digV (rawAt M (p + j)) 10)) = 9223372036854775808 - (digV (rawAt M (p + j)) 10) := IntWalk.u64_in _ (by omega)
        have hw3 : IntKind.u64.wrap ((9223372036854775808 - (digV (rawAt M (p + j)) 10)).tdiv 10) = (9223372036854775808 - (digV (rawAt M (p + j)) 10)) / 10 := IntWalk.u64_quo _ _ (by omega)
        by_cases f2 : natOf 10 ((M.drop (p)).take (j + 1)) ≤ 9223372036854775808
        · have hS2 : S * 10 + (digV (rawAt M (p + j)) 10) ≤ 9223372036854775808 := by have := HSv.out; have := HG3.out; omega
          have f2b : decide (S ≤ (9223372036854775808 - (digV (rawAt M (p + j)) 10)) / 10) = true := by simp; omega
          have hw4 : IntKind.u64.wrap (S * 10) = S * 10 := IntWalk.u64_in _ (by omega)
          have hw5 : IntKind.u64.wrap (S * 10 + (digV (rawAt M (p + j)) 10)) = S * 10 + (digV (rawAt M (p + j)) 10) := IntWalk.u64_in _ (by omega)
          have HSw := Lib.hid (show S * 10 + (digV (rawAt M (p + j)) 10) = natOf 10 ((M.drop (p)).take (j + 1)) by have := HSv.out; have := HG3.out; omega)
          have F2 := Lib.hid (show true = decide (natOf 10 ((M.drop (p)).take (j + 1)) ≤ 9223372036854775808) by simp; omega)
          clear f1 f2
          go_wp2_with (first | (with_reducible refine at_load0 ?_; refine wpList_load_txt rfl _ rfl rfl T ?_) | (with_reducible refine at_load1 ?_; refine wpList_load_txtG _ rfl rfl T rfl ?_))
          refine (txt_at_of s tab M HM HT _ (p + j) (by omega) _).mono ?_; rintro e w20 ⟨rfl, hB20⟩
          have T20 := T.below hB20 T.lt
          go_wp2_with fail
          refine (ref_digit _ _ _).mono ?_; rintro e w21 ⟨rfl, rfl⟩
          go_wp2_with fail
          go_roundw
          case rel => exact ⟨j + 1, S * 10 + (digV (rawAt M (p + j)) 10), by omega, by go_num, rfl, congrArg Value.bool F2.out, by omega, hS2, fun _ => HSw.out, hB.trans (hB20.mono (by omega)), T20⟩
          case measure => simp [intOf]; omega
        · have hS2 : ¬S * 10 + (digV (rawAt M (p + j)) 10) ≤ 9223372036854775808 := by have := HSv.out; have := HG3.out; omega
          have f2b : decide (S ≤ (9223372036854775808 - (digV (rawAt M (p + j)) 10)) / 10) = false := by simp; omega
          have F2 := Lib.hid (show false = decide (natOf 10 ((M.drop (p)).take (j + 1)) ≤ 9223372036854775808) by simp; omega)
          have F3 := Lib.hid f2
          clear f1 f2
          go_wp2_with (first | (with_reducible refine at_load0 ?_; refine wpList_load_txt rfl _ rfl rfl T ?_) | (with_reducible refine at_load1 ?_; refine wpList_load_txtG _ rfl rfl T rfl ?_))
          refine (txt_at_of s tab M HM HT _ (p + j) (by omega) _).mono ?_; rintro e w20 ⟨rfl, hB20⟩
          have T20 := T.below hB20 T.lt
          go_wp2_with fail
          refine (ref_digit _ _ _).mono ?_; rintro e w21 ⟨rfl, rfl⟩
          go_wp2_with fail
          go_roundw
          case rel => exact ⟨j + 1, S, by omega, by go_num, rfl, congrArg Value.bool F2.out, hS0, hS1, fun h => absurd h F3.out, hB.trans (hB20.mono (by omega)), T20⟩
          case measure => simp [intOf]; omega
      · have f1b : decide (natOf 10 ((M.drop (p)).take j) ≤ 9223372036854775808) = false := by simp; omega
        have F3 := Lib.hid (HNO.out f1)
        have F2 := Lib.hid (show false = decide (natOf 10 ((M.drop (p)).take (j + 1)) ≤ 9223372036854775808) by have := F3.out; simp; omega)
        clear f1
        go_wp2_with (first | (with_reducible refine at_load0 ?_; refine wpList_load_txt rfl _ rfl rfl T ?_) | (with_reducible refine at_load1 ?_; refine wpList_load_txtG _ rfl rfl T rfl ?_))
        refine (txt_at_of s tab M HM HT _ (p + j) (by omega) _).mono ?_; rintro e w20 ⟨rfl, hB20⟩
        have T20 := T.below hB20 T.lt
        go_wp2_with fail
        refine (ref_digit _ _ _).mono ?_; rintro e w21 ⟨rfl, rfl⟩
        go_wp2_with fail
        go_roundw
        case rel => exact ⟨j + 1, S, by omega, by go_num, rfl, congrArg Value.bool F2.out, hS0, hS1, fun h => absurd h F3.out, hB.trans (hB20.mono (by omega)), T20⟩
        case measure => simp [intOf]; omega
    · obtain rfl : j = D := by omega
      have HDSj := HDS.out
      by_cases f1 : natOf 10 ((M.drop (p)).take j) ≤ 9223372036854775808
      · have f1b : decide (natOf 10 ((M.drop (p)).take j) ≤ 9223372036854775808) = true := by simp; omega
        have HI := Lib.hid (intR_ok 10 ((M.drop (p)).take j) p (p + j : Nat) f1 S (HS.out f1) (wrap64 S) (by unfold wrap64; omega))
        clear f1
        go_wp2_with (first | (with_reducible refine at_load0 ?_; refine wpList_load_txt rfl _ rfl rfl T ?_) | (with_reducible refine at_load1 ?_; refine wpList_load_txtG _ rfl rfl T rfl ?_))
        refine (txt_at_of s tab M HM HT _ (p + j) (by omega) _).mono ?_; rintro e w20 ⟨rfl, hB20⟩
        have T20 := T.below hB20 T.lt
        go_wp2_with fail
        refine (ref_digit _ _ _).mono ?_; rintro e w21 ⟨rfl, rfl⟩
        go_wp2_with fail
        refine bodyPost_ret (v := .tuple #[.int .i64 (wrap64 S), .int .i64 (p + j : Nat), .bool true]) (by simp [results, Try.results66, go_sem]) rfl ⟨⟨_, _, by rw [HK.out, HI.out.1], ?_⟩, hB.trans (hB20.mono (by omega))⟩
        rw [HK.out]; exact HI.out.2
      · have f1b : decide (natOf 10 ((M.drop (p)).take j) ≤ 9223372036854775808) = false := by simp; omega
        have HI := Lib.hid (intR_no 10 ((M.drop (p)).take j) p (p + j : Nat) f1 (wrap64 S) (p + j : Nat))
        clear f1
        go_wp2_with (first | (with_reducible refine at_load0 ?_; refine wpList_load_txt rfl _ rfl rfl T ?_) | (with_reducible refine at_load1 ?_; refine wpList_load_txtG _ rfl rfl T rfl ?_))
        refine (txt_at_of s tab M HM HT _ (p + j) (by omega) _).mono ?_; rintro e w20 ⟨rfl, hB20⟩
        have T20 := T.below hB20 T.lt
        go_wp2_with fail
        refine (ref_digit _ _ _).mono ?_; rintro e w21 ⟨rfl, rfl⟩
        go_wp2_with fail
        refine bodyPost_ret (v := .tuple #[.int .i64 (wrap64 S), .int .i64 (p + j : Nat), .bool false]) (by simp [results, Try.results66, go_sem]) rfl ⟨⟨_, _, by rw [HK.out, HI.out.1], ?_⟩, hB.trans (hB20.mono (by omega))⟩
        rw [HK.out]; exact HI.out.2
set_option maxHeartbeats 4000000 in
theorem integer_other (s : ByteArray) (tab : Int → Int) (ht : TabOk tab) (p : Nat) (hp : p < s.size) (hsz : s.size ≤ 16384) (h : rawAt (cvt tab s.data.toList) p = 48) (h0 : ¬rawAt (cvt tab s.data.toList) (p + 1) = 39) (h2 : ¬rawAt (cvt tab s.data.toList) (p + 1) = 120) (h3 : ¬rawAt (cvt tab s.data.toList) (p + 1) = 111) (h4 : ¬rawAt (cvt tab s.data.toList) (p + 1) = 98) (w : World) :
    Calls Try.prog 66 #[txtV s tab, .int .i64 p] w fun e w' => (∃ n k : Int, e = .returned (.tuple #[.int .i64 n, .int .i64 k, .bool ((numR (cvt tab s.data.toList) s.data.toList p).err == 0)]) ∧ IntGives (numR (cvt tab s.data.toList) s.data.toList p) n k) ∧ Below w.heap.size w w' := by
  have HT := Lib.hid ht
  clear ht
  have hlen : Hid ((cvt tab s.data.toList).length = s.size) := by show _ = _; rw [cvt_len]; simp
  generalize hM : cvt tab s.data.toList = M at *
  have HM := Lib.hid hM
  clear hM
  have hnb : numBase M p = 0 := by unfold numBase; rw [if_pos h, if_neg h2, if_neg h3, if_neg h4]
  have HK := Lib.hid (show numR M s.data.toList p = intR 10 ((M.drop p).take (span (isDig 10) (M.drop p))) p (p + span (isDig 10) (M.drop p) : Nat) by unfold numR; rw [if_neg (fun hh => h0 hh.2), hnb, if_neg (by omega)]; simp)
  have e3 : digOk (rawAt M (p + 2)) 0 = false := by unfold digOk dig; rw [if_pos (by omega)]; rfl
  have d1 : (rawAt M p == 48) = true := by simp [h]
  have d2 : (rawAt M (p + 1) == 39) = false := by simp [h0]
  have x1 : (rawAt M (p + 1) == 120) = false := by simp [h2]
  have x2 : (rawAt M (p + 1) == 111) = false := by simp [h3]
  have x3 : (rawAt M (p + 1) == 98) = false := by simp [h4]
  clear h h0 h2 h3 h4 hnb
  have HDS := Lib.hid (dig_stop 10 M (p))
  have HDG := Lib.hid (dig_step 10 M (p))
  have HST := Lib.hid (sum_step 10 (by decide) (by decide) M (p))
  have hDl := span_le (isDig 10) (M.drop (p))
  generalize hD : span (isDig 10) (M.drop (p)) = D at *
  clear hD
  go_enter Try.func66, Try.ntmps66
  go_wp2_with (first | (refine wpList_box_txt rfl _ s tab rfl rfl ?_; intro b w1 T0 hle hB0) | (with_reducible refine at_load0 ?_; refine wpList_load_txt rfl _ rfl rfl T0 ?_))
  refine (txt_at_of s tab M HM HT _ p (by omega) _).mono ?_; rintro e w2 ⟨rfl, hB2⟩
  have T2 := T0.below hB2 T0.lt
  have hs0 := hB0.size
  go_wp2_with (first | (with_reducible refine at_load0 ?_; refine wpList_load_txt rfl _ rfl rfl T2 ?_) | (with_reducible refine at_load1 ?_; refine wpList_load_txtG _ rfl rfl T2 rfl ?_))
  refine (txt_at_of s tab M HM HT _ (p + 1) (by omega) _).mono ?_; rintro e w3 ⟨rfl, hB3⟩
  have T3 := T2.below hB3 T2.lt
  go_wp2_with (first | (with_reducible refine at_load0 ?_; refine wpList_load_txt rfl _ rfl rfl T3 ?_) | (with_reducible refine at_load1 ?_; refine wpList_load_txtG _ rfl rfl T3 rfl ?_))
  refine (txt_at_of s tab M HM HT _ (p) (by omega) _).mono ?_; rintro e w4 ⟨rfl, hB4⟩
  have T4 := T3.below hB4 T3.lt
  go_wp2_with (first | (with_reducible refine at_load0 ?_; refine wpList_load_txt rfl _ rfl rfl T4 ?_) | (with_reducible refine at_load1 ?_; refine wpList_load_txtG _ rfl rfl T4 rfl ?_))
  refine (txt_at_of s tab M HM HT _ (p + 1) (by omega) _).mono ?_; rintro e w5 ⟨rfl, hB5⟩
  have T5 := T4.below hB5 T4.lt
  go_wp2_with (first | (with_reducible refine at_load0 ?_; refine wpList_load_txt rfl _ rfl rfl T5 ?_) | (with_reducible refine at_load1 ?_; refine wpList_load_txtG _ rfl rfl T5 rfl ?_))
  refine (txt_at_of s tab M HM HT _ (p + 2) (by omega) _).mono ?_; rintro e w6 ⟨rfl, hB6⟩
  have T6 := T5.below hB6 T5.lt
  go_wp2_with fail
  refine (ref_digit _ _ _).mono ?_; rintro e w7 ⟨rfl, rfl⟩
  have hBx : Below w.heap.size w w6 := hB0.trans ((trans3 (Nat.le_refl _) hB2 hB3 hB4 |>.mono (by omega)).trans (trans2 (by have := hB2.size; have := hB3.size; have := hB4.size; omega) hB5 hB6))
  go_wp2_with fail
  go_loopw [11, 15, 16] (fun x sm ft wr => ∃ j : Nat, ∃ S : Int, j ≤ D ∧ x = .int .i64 (p + j : Nat) ∧ sm = .int .u64 S ∧ ft = .bool (decide (natOf 10 ((M.drop (p)).take j) ≤ 9223372036854775808)) ∧ 0 ≤ S ∧ S ≤ 9223372036854775808 ∧ Hid (natOf 10 ((M.drop (p)).take j) ≤ 9223372036854775808 → S = natOf 10 ((M.drop (p)).take j)) ∧ Below w.heap.size w wr ∧ Txt wr b s tab) (fun x _ _ _ => s.size - (intOf x).toNat)
  case atStart => exact ⟨0, 0, Nat.zero_le _, by go_num, rfl, rfl, by omega, by omega, fun _ => rfl, hBx, T6⟩
  case round =>
    obtain ⟨j, S, hj, rfl, rfl, rfl, hS0, hS1, HS, hB, T⟩ := hrel
    have hs := hB.size
    by_cases hlt : j < D
    · obtain ⟨g1, g2⟩ := HDG.out j hlt
      rw [hlen.out] at g2
      obtain ⟨g3, g4, g5⟩ := HST.out j hlt
      have HNO := Lib.hid (sum_no 10 (by decide) (M.drop (p)) j)
      have HG3 := Lib.hid g3
      clear g3
      by_cases f1 : natOf 10 ((M.drop (p)).take j) ≤ 9223372036854775808
      · have HSv := Lib.hid (HS.out f1)
        have f1b : decide (natOf 10 ((M.drop (p)).take j) ≤ 9223372036854775808) = true := by simp; omega
        have hw1 : IntKind.u64.wrap (digV (rawAt M (p + j)) 10) = (digV (rawAt M (p + j)) 10) := IntWalk.u64_in _ (by omega)
        have hw2 : IntKind.u64.wrap (9223372036854775808 - (digV (rawAt M (p + j)) 10)) = 9223372036854775808 - (digV (rawAt M (p + j)) 10) := IntWalk.u64_in _ (by omega)
        have hw3 : IntKind.u64.wrap ((9223372036854775808 - (digV (rawAt M (p + j)) 10)).tdiv 10) = (9223372036854775808 - (digV (rawAt M (p + j)) 10)) / 10 := IntWalk.u64_quo _ _ (by omega)
        by_cases f2 : natOf 10 ((M.drop (p)).take (j + 1)) ≤ 9223372036854775808
        · have hS2 : S * 10 + (digV (rawAt M (p + j)) 10) ≤ 9223372036854775808 := by have := HSv.out; have := HG3.out; omega
          have f2b : decide (S ≤ (9223372036854775808 - (digV (rawAt M (p + j)) 10)) / 10) = true := by simp; omega
          have hw4 : IntKind.u64.wrap (S * 10) = S * 10 := IntWalk.u64_in _ (by omega)
          have hw5 : IntKind.u64.wrap (S * 10 + (digV (rawAt M (p + j)) 10)) = S * 10 + (digV (rawAt M (p + j)) 10) := IntWalk.u64_in _ (by omega)
          have HSw := Lib.hid (show S * 10 + (digV (rawAt M (p + j)) 10) = natOf 10 ((M.drop (p)).take (j + 1)) by have := HSv.out; have := HG3.out; omega)
          have F2 := Lib.hid (show true = decide (natOf 10 ((M.drop (p)).take (j + 1)) ≤ 9223372036854775808) by simp; omega)
          clear f1 f2
          go_wp2_with (first | (with_reducible refine at_load0 ?_; refine wpList_load_txt rfl _ rfl rfl T ?_) | (with_reducible refine at_load1 ?_; refine wpList_load_txtG _ rfl rfl T rfl ?_))
          refine (txt_at_of s tab M HM HT _ (p + j) (by omega) _).mono ?_; rintro e w20 ⟨rfl, hB20⟩
          have T20 := T.below hB20 T.lt
          go_wp2_with fail
          refine (ref_digit _ _ _).mono ?_; rintro e w21 ⟨rfl, rfl⟩
          go_wp2_with fail
          go_roundw
          case rel => exact ⟨j + 1, S * 10 + (digV (rawAt M (p + j)) 10), by omega, by go_num, rfl, congrArg Value.bool F2.out, by omega, hS2, fun _ => HSw.out, hB.trans (hB20.mono (by omega)), T20⟩
          case measure => simp [intOf]; omega
        · have hS2 : ¬S * 10 + (digV (rawAt M (p + j)) 10) ≤ 9223372036854775808 := by have := HSv.out; have := HG3.out; omega
          have f2b : decide (S ≤ (9223372036854775808 - (digV (rawAt M (p + j)) 10)) / 10) = false := by simp; omega
          have F2 := Lib.hid (show false = decide (natOf 10 ((M.drop (p)).take (j + 1)) ≤ 9223372036854775808) by simp; omega)
          have F3 := Lib.hid f2
          clear f1 f2
          go_wp2_with (first | (with_reducible refine at_load0 ?_; refine wpList_load_txt rfl _ rfl rfl T ?_) | (with_reducible refine at_load1 ?_; refine wpList_load_txtG _ rfl rfl T rfl ?_))
          refine (txt_at_of s tab M HM HT _ (p + j) (by omega) _).mono ?_; rintro e w20 ⟨rfl, hB20⟩
          have T20 := T.below hB20 T.lt
          go_wp2_with fail
          refine (ref_digit _ _ _).mono ?_; rintro e w21 ⟨rfl, rfl⟩
          go_wp2_with fail
          go_roundw
          case rel => exact ⟨j + 1, S, by omega, by go_num, rfl, congrArg Value.bool F2.out, hS0, hS1, fun h => absurd h F3.out, hB.trans (hB20.mono (by omega)), T20⟩
          case measure => simp [intOf]; omega
      · have f1b : decide (natOf 10 ((M.drop (p)).take j) ≤ 9223372036854775808) = false := by simp; omega
        have F3 := Lib.hid (HNO.out f1)
        have F2 := Lib.hid (show false = decide (natOf 10 ((M.drop (p)).take (j + 1)) ≤ 9223372036854775808) by have := F3.out; simp; omega)
        clear f1
        go_wp2_with (first | (with_reducible refine at_load0 ?_; refine wpList_load_txt rfl _ rfl rfl T ?_) | (with_reducible refine at_load1 ?_; refine wpList_load_txtG _ rfl rfl T rfl ?_))
        refine (txt_at_of s tab M HM HT _ (p + j) (by omega) _).mono ?_; rintro e w20 ⟨rfl, hB20⟩
        have T20 := T.below hB20 T.lt
        go_wp2_with fail
        refine (ref_digit _ _ _).mono ?_; rintro e w21 ⟨rfl, rfl⟩
        go_wp2_with fail
        go_roundw
        case rel => exact ⟨j + 1, S, by omega, by go_num, rfl, congrArg Value.bool F2.out, hS0, hS1, fun h => absurd h F3.out, hB.trans (hB20.mono (by omega)), T20⟩
        case measure => simp [intOf]; omega
    · obtain rfl : j = D := by omega
      have HDSj := HDS.out
      by_cases f1 : natOf 10 ((M.drop (p)).take j) ≤ 9223372036854775808
      · have f1b : decide (natOf 10 ((M.drop (p)).take j) ≤ 9223372036854775808) = true := by simp; omega
        have HI := Lib.hid (intR_ok 10 ((M.drop (p)).take j) p (p + j : Nat) f1 S (HS.out f1) (wrap64 S) (by unfold wrap64; omega))
        clear f1
        go_wp2_with (first | (with_reducible refine at_load0 ?_; refine wpList_load_txt rfl _ rfl rfl T ?_) | (with_reducible refine at_load1 ?_; refine wpList_load_txtG _ rfl rfl T rfl ?_))
        refine (txt_at_of s tab M HM HT _ (p + j) (by omega) _).mono ?_; rintro e w20 ⟨rfl, hB20⟩
        have T20 := T.below hB20 T.lt
        go_wp2_with fail
        refine (ref_digit _ _ _).mono ?_; rintro e w21 ⟨rfl, rfl⟩
        go_wp2_with fail
        refine bodyPost_ret (v := .tuple #[.int .i64 (wrap64 S), .int .i64 (p + j : Nat), .bool true]) (by simp [results, Try.results66, go_sem]) rfl ⟨⟨_, _, by rw [HK.out, HI.out.1], ?_⟩, hB.trans (hB20.mono (by omega))⟩
        rw [HK.out]; exact HI.out.2
      · have f1b : decide (natOf 10 ((M.drop (p)).take j) ≤ 9223372036854775808) = false := by simp; omega
        have HI := Lib.hid (intR_no 10 ((M.drop (p)).take j) p (p + j : Nat) f1 (wrap64 S) (p + j : Nat))
        clear f1
        go_wp2_with (first | (with_reducible refine at_load0 ?_; refine wpList_load_txt rfl _ rfl rfl T ?_) | (with_reducible refine at_load1 ?_; refine wpList_load_txtG _ rfl rfl T rfl ?_))
        refine (txt_at_of s tab M HM HT _ (p + j) (by omega) _).mono ?_; rintro e w20 ⟨rfl, hB20⟩
        have T20 := T.below hB20 T.lt
        go_wp2_with fail
        refine (ref_digit _ _ _).mono ?_; rintro e w21 ⟨rfl, rfl⟩
        go_wp2_with fail
        refine bodyPost_ret (v := .tuple #[.int .i64 (wrap64 S), .int .i64 (p + j : Nat), .bool false]) (by simp [results, Try.results66, go_sem]) rfl ⟨⟨_, _, by rw [HK.out, HI.out.1], ?_⟩, hB.trans (hB20.mono (by omega))⟩
        rw [HK.out]; exact HI.out.2

theorem txt_integer (s : ByteArray) (tab : Int → Int) (ht : TabOk tab) (p : Nat) (hp : p < s.size) (hsz : s.size ≤ 16384) (w : World) :
    Calls Try.prog 66 #[txtV s tab, .int .i64 p] w fun e w' => (∃ n k : Int, e = .returned (.tuple #[.int .i64 n, .int .i64 k, .bool ((numR (cvt tab s.data.toList) s.data.toList p).err == 0)]) ∧ IntGives (numR (cvt tab s.data.toList) s.data.toList p) n k) ∧ Below w.heap.size w w' := by
  by_cases h : rawAt (cvt tab s.data.toList) p = 48
  · by_cases h0 : rawAt (cvt tab s.data.toList) (p + 1) = 39
    · exact integer_quote s tab ht p hp hsz h h0 w
    by_cases h1 : rawAt (cvt tab s.data.toList) (p + 1) = 120
    · by_cases h2 : 0 < span (isDig 16) ((cvt tab s.data.toList).drop (p + 2))
      · exact integer_16_yes s tab ht p hp hsz h h1 h2 w
      · exact integer_16_no s tab ht p hp hsz h h1 h2 w
    by_cases h3 : rawAt (cvt tab s.data.toList) (p + 1) = 111
    · by_cases h2 : 0 < span (isDig 8) ((cvt tab s.data.toList).drop (p + 2))
      · exact integer_8_yes s tab ht p hp hsz h h3 h2 w
      · exact integer_8_no s tab ht p hp hsz h h3 h2 w
    by_cases h4 : rawAt (cvt tab s.data.toList) (p + 1) = 98
    · by_cases h2 : 0 < span (isDig 2) ((cvt tab s.data.toList).drop (p + 2))
      · exact integer_2_yes s tab ht p hp hsz h h4 h2 w
      · exact integer_2_no s tab ht p hp hsz h h4 h2 w
    · exact integer_other s tab ht p hp hsz h h0 h1 h3 h4 w
  · exact integer_dec s tab ht p hp hsz h w
end Go.Proofs.Ytmjeajfakhmakaa
