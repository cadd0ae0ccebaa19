/- Contracts of layer 9's reference: the text by value: quoted. -/
import Derived.Test.YtmjeajfakhmakaaRef3
namespace Go.Proofs.Ytmjeajfakhmakaa
open Go.RowKit Hb
set_option maxRecDepth 100000

set_option maxHeartbeats 1600000 in
theorem quoted_end (s : ByteArray) (tab : Int → Int) (k : Nat) (_hk : k ≤ 16400) (q : Int) (_hq : q = 39 ∨ q = 34) (h : rawAt s.data.toList k < 0 ∨ rawAt s.data.toList k = 10) (w : World) :
    Calls Try.prog 76 #[txtV s tab, .int .i64 k, .int .i64 q] w fun e w' => e = .returned (.tuple #[.int .i64 (quotC s.data.toList k q), .int .i64 (quotE s.data.toList k q), .int .i64 (quotK s.data.toList k q)]) ∧ Below w.heap.size w w' := by
  have HQ := Lib.hid (quot_end s.data.toList k q h)
  have hd : decide (rawAt s.data.toList k < 0) = true ∨ (decide (rawAt s.data.toList k < 0) = false ∧ (rawAt s.data.toList k == 10) = true) := by
    by_cases a : rawAt s.data.toList k < 0
    · left; simp; exact a
    · right; refine ⟨by simp; omega, by simp; omega⟩
  clear h
  rcases hd with d1 | ⟨d1, d2⟩
  all_goals
    go_enter Try.func76, Try.ntmps76
    go_wp2_with (first | (refine wpList_box_txt rfl _ s tab rfl rfl ?_; intro b w1 T0 hle hB0) | (with_reducible refine at_load0 ?_; refine wpList_load_txt rfl _ rfl rfl T0 ?_))
    refine (txt_raw_of s tab _ k (by omega) _).mono ?_; rintro e w2 ⟨rfl, hB2⟩
    have T2 := T0.below hB2 T0.lt
    have hs1 := hB0.size
    go_wp2_with fail
    refine bodyPost_ret (v := .tuple #[.int .i64 (0), .int .i64 (k : Nat), .int .i64 0]) (by simp [results, Try.results76, go_sem]) rfl ⟨by rw [HQ.out.c, HQ.out.e, HQ.out.k], hB0.trans (hB2.mono (by omega))⟩
set_option maxHeartbeats 1600000 in
theorem quoted_two (s : ByteArray) (tab : Int → Int) (k : Nat) (_hk : k ≤ 16400) (q : Int) (_hq : q = 39 ∨ q = 34) (h1 : rawAt s.data.toList k = q) (h2 : rawAt s.data.toList (k + 1) = q) (w : World) :
    Calls Try.prog 76 #[txtV s tab, .int .i64 k, .int .i64 q] w fun e w' => e = .returned (.tuple #[.int .i64 (quotC s.data.toList k q), .int .i64 (quotE s.data.toList k q), .int .i64 (quotK s.data.toList k q)]) ∧ Below w.heap.size w w' := by
  have HQ := Lib.hid (quot_quote2 s.data.toList k q _hq h1 h2)
  have d1 : decide (rawAt s.data.toList k < 0) = false := by simp; omega
  have d2 : (rawAt s.data.toList k == 10) = false := by simp; omega
  have d3 : (rawAt s.data.toList k == q) = true := by simp [h1]
  have d4 : (rawAt s.data.toList (k + 1) == q) = true := by simp [h2]
  clear h1 h2
  go_enter Try.func76, Try.ntmps76
  go_wp2_with (first | (refine wpList_box_txt rfl _ s tab rfl rfl ?_; intro b w1 T0 hle hB0) | (with_reducible refine at_load0 ?_; refine wpList_load_txt rfl _ rfl rfl T0 ?_))
  refine (txt_raw_of s tab _ k (by omega) _).mono ?_; rintro e w2 ⟨rfl, hB2⟩
  have T2 := T0.below hB2 T0.lt
  have hs1 := hB0.size
  go_wp2_with (first | (with_reducible refine at_load0 ?_; refine wpList_load_txt rfl _ rfl rfl T2 ?_) | (with_reducible refine at_load1 ?_; refine wpList_load_txtG _ rfl rfl T2 rfl ?_))
  refine (txt_raw_of s tab _ (k + 1) (by omega) _).mono ?_; rintro e w3 ⟨rfl, hB3⟩
  have T3 := T2.below hB3 T2.lt
  go_wp2_with fail
  refine bodyPost_ret (v := .tuple #[.int .i64 (q), .int .i64 (k + 2 : Nat), .int .i64 1]) (by simp [results, Try.results76, go_sem]) rfl ⟨by rw [HQ.out.c, HQ.out.e, HQ.out.k], hB0.trans (trans2 (by omega) hB2 hB3)⟩
set_option maxHeartbeats 1600000 in
theorem quoted_one (s : ByteArray) (tab : Int → Int) (k : Nat) (_hk : k ≤ 16400) (q : Int) (_hq : q = 39 ∨ q = 34) (h1 : rawAt s.data.toList k = q) (h2 : ¬rawAt s.data.toList (k + 1) = q) (w : World) :
    Calls Try.prog 76 #[txtV s tab, .int .i64 k, .int .i64 q] w fun e w' => e = .returned (.tuple #[.int .i64 (quotC s.data.toList k q), .int .i64 (quotE s.data.toList k q), .int .i64 (quotK s.data.toList k q)]) ∧ Below w.heap.size w w' := by
  have HQ := Lib.hid (quot_quote1 s.data.toList k q _hq h1 h2)
  have d1 : decide (rawAt s.data.toList k < 0) = false := by simp; omega
  have d2 : (rawAt s.data.toList k == 10) = false := by simp; omega
  have d3 : (rawAt s.data.toList k == q) = true := by simp [h1]
  have d4 : (rawAt s.data.toList (k + 1) == q) = false := by simp [h2]
  clear h1 h2
  go_enter Try.func76, Try.ntmps76
  go_wp2_with (first | (refine wpList_box_txt rfl _ s tab rfl rfl ?_; intro b w1 T0 hle hB0) | (with_reducible refine at_load0 ?_; refine wpList_load_txt rfl _ rfl rfl T0 ?_))
  refine (txt_raw_of s tab _ k (by omega) _).mono ?_; rintro e w2 ⟨rfl, hB2⟩
  have T2 := T0.below hB2 T0.lt
  have hs1 := hB0.size
  go_wp2_with (first | (with_reducible refine at_load0 ?_; refine wpList_load_txt rfl _ rfl rfl T2 ?_) | (with_reducible refine at_load1 ?_; refine wpList_load_txtG _ rfl rfl T2 rfl ?_))
  refine (txt_raw_of s tab _ (k + 1) (by omega) _).mono ?_; rintro e w3 ⟨rfl, hB3⟩
  have T3 := T2.below hB3 T2.lt
  go_wp2_with fail
  refine bodyPost_ret (v := .tuple #[.int .i64 (0), .int .i64 (k : Nat), .int .i64 0]) (by simp [results, Try.results76, go_sem]) rfl ⟨by rw [HQ.out.c, HQ.out.e, HQ.out.k], hB0.trans (trans2 (by omega) hB2 hB3)⟩
set_option maxHeartbeats 1600000 in
theorem quoted_plain (s : ByteArray) (tab : Int → Int) (k : Nat) (_hk : k ≤ 16400) (q : Int) (_hq : q = 39 ∨ q = 34) (h0 : ¬(rawAt s.data.toList k < 0 ∨ rawAt s.data.toList k = 10)) (h1 : ¬rawAt s.data.toList k = q) (h2 : ¬rawAt s.data.toList k = 92) (w : World) :
    Calls Try.prog 76 #[txtV s tab, .int .i64 k, .int .i64 q] w fun e w' => e = .returned (.tuple #[.int .i64 (quotC s.data.toList k q), .int .i64 (quotE s.data.toList k q), .int .i64 (quotK s.data.toList k q)]) ∧ Below w.heap.size w w' := by
  have HQ := Lib.hid (quot_plain s.data.toList k q h0 h1 h2)
  have d1 : decide (rawAt s.data.toList k < 0) = false := by simp; omega
  have d2 : (rawAt s.data.toList k == 10) = false := by simp; omega
  have d3 : (rawAt s.data.toList k == q) = false := by simp [h1]
  have d4 : (rawAt s.data.toList k != 92) = true := by simp [h2]
  clear h0 h1 h2
  go_enter Try.func76, Try.ntmps76
  go_wp2_with (first | (refine wpList_box_txt rfl _ s tab rfl rfl ?_; intro b w1 T0 hle hB0) | (with_reducible refine at_load0 ?_; refine wpList_load_txt rfl _ rfl rfl T0 ?_))
  refine (txt_raw_of s tab _ k (by omega) _).mono ?_; rintro e w2 ⟨rfl, hB2⟩
  have T2 := T0.below hB2 T0.lt
  have hs1 := hB0.size
  go_wp2_with fail
  refine bodyPost_ret (v := .tuple #[.int .i64 (rawAt s.data.toList k), .int .i64 (k + 1 : Nat), .int .i64 1]) (by simp [results, Try.results76, go_sem]) rfl ⟨by rw [HQ.out.c, HQ.out.e, HQ.out.k], hB0.trans (hB2.mono (by omega))⟩
set_option maxHeartbeats 1600000 in
theorem quoted_cont (s : ByteArray) (tab : Int → Int) (k : Nat) (_hk : k ≤ 16400) (q : Int) (_hq : q = 39 ∨ q = 34) (h1 : rawAt s.data.toList k = 92) (h2 : rawAt s.data.toList (k + 1) = 10) (w : World) :
    Calls Try.prog 76 #[txtV s tab, .int .i64 k, .int .i64 q] w fun e w' => e = .returned (.tuple #[.int .i64 (quotC s.data.toList k q), .int .i64 (quotE s.data.toList k q), .int .i64 (quotK s.data.toList k q)]) ∧ Below w.heap.size w w' := by
  have HQ := Lib.hid (quot_cont s.data.toList k q h1 h2)
  have d1 : decide (rawAt s.data.toList k < 0) = false := by simp; omega
  have d2 : (rawAt s.data.toList k == 10) = false := by simp; omega
  have d3 : (rawAt s.data.toList k == q) = false := by simp; omega
  have d4 : (rawAt s.data.toList k != 92) = false := by simp [h1]
  have d5 : (rawAt s.data.toList (k + 1) == 10) = true := by simp [h2]
  clear h1 h2
  go_enter Try.func76, Try.ntmps76
  go_wp2_with (first | (refine wpList_box_txt rfl _ s tab rfl rfl ?_; intro b w1 T0 hle hB0) | (with_reducible refine at_load0 ?_; refine wpList_load_txt rfl _ rfl rfl T0 ?_))
  refine (txt_raw_of s tab _ k (by omega) _).mono ?_; rintro e w2 ⟨rfl, hB2⟩
  have T2 := T0.below hB2 T0.lt
  have hs1 := hB0.size
  go_wp2_with (first | (with_reducible refine at_load0 ?_; refine wpList_load_txt rfl _ rfl rfl T2 ?_) | (with_reducible refine at_load1 ?_; refine wpList_load_txtG _ rfl rfl T2 rfl ?_))
  refine (txt_raw_of s tab _ (k + 1) (by omega) _).mono ?_; rintro e w3 ⟨rfl, hB3⟩
  have T3 := T2.below hB3 T2.lt
  go_wp2_with fail
  refine bodyPost_ret (v := .tuple #[.int .i64 (0), .int .i64 (k + 2 : Nat), .int .i64 2]) (by simp [results, Try.results76, go_sem]) rfl ⟨by rw [HQ.out.c, HQ.out.e, HQ.out.k], hB0.trans (trans2 (by omega) hB2 hB3)⟩
set_option maxHeartbeats 1600000 in
theorem quoted_une (s : ByteArray) (tab : Int → Int) (k : Nat) (_hk : k ≤ 16400) (q : Int) (_hq : q = 39 ∨ q = 34) (h1 : rawAt s.data.toList k = 92) (h2 : ¬rawAt s.data.toList (k + 1) = 10) (h3 : uneOk (rawAt s.data.toList (k + 1)) = true) (w : World) :
    Calls Try.prog 76 #[txtV s tab, .int .i64 k, .int .i64 q] w fun e w' => e = .returned (.tuple #[.int .i64 (quotC s.data.toList k q), .int .i64 (quotE s.data.toList k q), .int .i64 (quotK s.data.toList k q)]) ∧ Below w.heap.size w w' := by
  have HQ := Lib.hid (quot_une s.data.toList k q _hq h1 h2 h3)
  have d1 : decide (rawAt s.data.toList k < 0) = false := by simp; omega
  have d2 : (rawAt s.data.toList k == 10) = false := by simp; omega
  have d3 : (rawAt s.data.toList k == q) = false := by simp; omega
  have d4 : (rawAt s.data.toList k != 92) = false := by simp [h1]
  have d5 : (rawAt s.data.toList (k + 1) == 10) = false := by simp [h2]
  clear h1 h2
  go_enter Try.func76, Try.ntmps76
  go_wp2_with (first | (refine wpList_box_txt rfl _ s tab rfl rfl ?_; intro b w1 T0 hle hB0) | (with_reducible refine at_load0 ?_; refine wpList_load_txt rfl _ rfl rfl T0 ?_))
  refine (txt_raw_of s tab _ k (by omega) _).mono ?_; rintro e w2 ⟨rfl, hB2⟩
  have T2 := T0.below hB2 T0.lt
  have hs1 := hB0.size
  go_wp2_with (first | (with_reducible refine at_load0 ?_; refine wpList_load_txt rfl _ rfl rfl T2 ?_) | (with_reducible refine at_load1 ?_; refine wpList_load_txtG _ rfl rfl T2 rfl ?_))
  refine (txt_raw_of s tab _ (k + 1) (by omega) _).mono ?_; rintro e w3 ⟨rfl, hB3⟩
  have T3 := T2.below hB3 T2.lt
  go_wp2_with fail
  refine (ref_unescape _ _).mono ?_; rintro e w4 ⟨rfl, rfl⟩
  go_wp2_with fail
  refine bodyPost_ret (v := .tuple #[.int .i64 (uneV (rawAt s.data.toList (k + 1))), .int .i64 (k + 2 : Nat), .int .i64 1]) (by simp [results, Try.results76, go_sem]) rfl ⟨by rw [HQ.out.c, HQ.out.e, HQ.out.k], hB0.trans (trans2 (by omega) hB2 hB3)⟩
set_option maxHeartbeats 1600000 in
theorem quoted_hex (s : ByteArray) (tab : Int → Int) (k : Nat) (_hk : k ≤ 16400) (q : Int) (_hq : q = 39 ∨ q = 34) (hsz : s.size ≤ 16384) (h1 : rawAt s.data.toList k = 92) (h2 : ¬rawAt s.data.toList (k + 1) = 10) (h3 : uneOk (rawAt s.data.toList (k + 1)) = false) (h4 : rawAt s.data.toList (k + 1) = 120) (w : World) :
    Calls Try.prog 76 #[txtV s tab, .int .i64 k, .int .i64 q] w fun e w' => e = .returned (.tuple #[.int .i64 (quotC s.data.toList k q), .int .i64 (quotE s.data.toList k q), .int .i64 (quotK s.data.toList k q)]) ∧ Below w.heap.size w w' := by
  have HQ0 := Lib.hid (quot_esc s.data.toList k q 16 2 _hq h1 h2 h3 (by rw [if_pos h4]) (by rw [if_pos h4]))
  have d1 : decide (rawAt s.data.toList k < 0) = false := by simp; omega
  have d2 : (rawAt s.data.toList k == 10) = false := by simp; omega
  have d3 : (rawAt s.data.toList k == q) = false := by simp; omega
  have d4 : (rawAt s.data.toList k != 92) = false := by simp [h1]
  have d5 : (rawAt s.data.toList (k + 1) == 10) = false := by simp [h2]
  have d6 : (rawAt s.data.toList (k + 1) == 120) = true := by simp [h4]
  clear h1 h2 h4
  have HDS := Lib.hid (dig_stop 16 s.data.toList (k + 2))
  have HDG := Lib.hid (dig_step 16 s.data.toList (k + 2))
  have HCL := Lib.hid (clamp_step 16 (by decide) (by decide) (s.data.toList.drop (k + 2)))
  have HSZ : Hid (s.data.toList.length = s.size) := size_data s
  have hDl := span_le (isDig 16) (s.data.toList.drop (k + 2))
  rw [List.length_drop, size_data] at hDl
  generalize hD : span (isDig 16) (s.data.toList.drop (k + 2)) = D at *
  clear hD
  go_enter Try.func76, Try.ntmps76
  go_wp2_with (first | (refine wpList_box_txt rfl _ s tab rfl rfl ?_; intro b w1 T0 hle hB0) | (with_reducible refine at_load0 ?_; refine wpList_load_txt rfl _ rfl rfl T0 ?_))
  refine (txt_raw_of s tab _ k (by omega) _).mono ?_; rintro e w2 ⟨rfl, hB2⟩
  have T2 := T0.below hB2 T0.lt
  have hs1 := hB0.size
  go_wp2_with (first | (with_reducible refine at_load0 ?_; refine wpList_load_txt rfl _ rfl rfl T2 ?_) | (with_reducible refine at_load1 ?_; refine wpList_load_txtG _ rfl rfl T2 rfl ?_))
  refine (txt_raw_of s tab _ (k + 1) (by omega) _).mono ?_; rintro e w3 ⟨rfl, hB3⟩
  have T3 := T2.below hB3 T2.lt
  go_wp2_with fail
  refine (ref_unescape _ _).mono ?_; rintro e w4 ⟨rfl, rfl⟩
  have hBx := hB0.trans (trans2 (by omega) hB2 hB3)
  clear hB2 hB3 T0 T2 hB0
  go_wp2_with fail
  go_loopw [14, 15, 16] (fun x n d wr => ∃ j : Nat, j ≤ D ∧ x = .int .i64 (k + 2 + j : Nat) ∧ n = .int .i64 (clampN 16 (s.data.toList.drop (k + 2)) j) ∧ d = .int .i64 j ∧ Below w.heap.size w wr ∧ Txt wr b s tab) (fun x _ _ _ => s.size - (intOf x).toNat)
  case atStart => exact ⟨0, Nat.zero_le _, by go_num, by rfl, rfl, hBx, T3⟩
  case round =>
    obtain ⟨j, hj, rfl, rfl, rfl, hB, T⟩ := hrel
    have hs := hB.size
    have hc0 : (clampN 16 (s.data.toList.drop (k + 2)) j : Int) ≤ 256 := by unfold clampN; omega
    by_cases hlt : j < D
    · obtain ⟨g1, g2⟩ := HDG.out j hlt
      rw [HSZ.out] at g2
      obtain ⟨g3, g4, g5⟩ := HCL.out j hlt
      rw [rawAt_drop] at g3 g4 g5
      have HG3 := Lib.hid g3
      clear g3
      go_wp2_with (first | (with_reducible refine at_load0 ?_; refine wpList_load_txt rfl _ rfl rfl T ?_) | (with_reducible refine at_load1 ?_; refine wpList_load_txtG _ rfl rfl T rfl ?_))
      refine (txt_raw_of s tab _ (k + 2 + j) (by omega) _).mono ?_; rintro e w5 ⟨rfl, hB5⟩
      have T5 := T.below hB5 T.lt
      go_wp2_with fail
      refine (ref_digit _ _ _).mono ?_; rintro e w6 ⟨rfl, rfl⟩
      go_wp2_with fail
      go_roundw
      case rel => exact ⟨j + 1, by omega, by go_num, by rw [HG3.out]; refine congrArg _ ?_; split <;> omega, by go_num, hB.trans (hB5.mono (by omega)), T5⟩
      case measure => simp [intOf]; omega
    · obtain rfl : j = D := by omega
      have hcl : (clampN 16 (s.data.toList.drop (k + 2)) j : Int) = min (natOf 16 ((s.data.toList.drop (k + 2)).take j) : Int) 256 := by unfold clampN; omega
      have HDSj := HDS.out
      by_cases z1 : j = 0
      · have y1 : ((j : Int) == 0) = true := by simp; omega
        have HQ := Lib.hid (HQ0.out.2 (fun hh => by omega))
        clear z1 hcl
        go_wp2_with (first | (with_reducible refine at_load0 ?_; refine wpList_load_txt rfl _ rfl rfl T ?_) | (with_reducible refine at_load1 ?_; refine wpList_load_txtG _ rfl rfl T rfl ?_))
        refine (txt_raw_of s tab _ (k + 2 + j) (by omega) _).mono ?_; rintro e w5 ⟨rfl, hB5⟩
        have T5 := T.below hB5 T.lt
        go_wp2_with fail
        refine (ref_digit _ _ _).mono ?_; rintro e w6 ⟨rfl, rfl⟩
        go_wp2_with fail
        refine bodyPost_ret (v := .tuple #[.int .i64 (0), .int .i64 (k : Nat), .int .i64 0]) (by simp [results, Try.results76, go_sem]) rfl ⟨by rw [HQ.out.c, HQ.out.e, HQ.out.k], hB.trans (hB5.mono (by omega))⟩
      have y1 : ((j : Int) == 0) = false := by simp; omega
      by_cases z2 : natOf 16 ((s.data.toList.drop (k + 2)).take j) ≤ 255
      · have y2 : decide (255 < (clampN 16 (s.data.toList.drop (k + 2)) j : Int)) = false := by simp; omega
        by_cases z3 : rawAt s.data.toList (k + 2 + j) = 92
        · have y3 : (rawAt s.data.toList (k + 2 + j) != 92) = false := by simp [z3]
          have HQ := Lib.hid (HQ0.out.1 (by omega) z2 z3)
          have hcv := Lib.hid (show clampN 16 (s.data.toList.drop (k + 2)) j = natOf 16 ((s.data.toList.drop (k + 2)).take j) by unfold clampN; omega)
          rw [← hcv.out] at HQ
          clear z1 z2 z3 hcl
          go_wp2_with (first | (with_reducible refine at_load0 ?_; refine wpList_load_txt rfl _ rfl rfl T ?_) | (with_reducible refine at_load1 ?_; refine wpList_load_txtG _ rfl rfl T rfl ?_))
          refine (txt_raw_of s tab _ (k + 2 + j) (by omega) _).mono ?_; rintro e w5 ⟨rfl, hB5⟩
          have T5 := T.below hB5 T.lt
          go_wp2_with fail
          refine (ref_digit _ _ _).mono ?_; rintro e w6 ⟨rfl, rfl⟩
          go_wp2_with (first | (with_reducible refine at_load0 ?_; refine wpList_load_txt rfl _ rfl rfl T5 ?_) | (with_reducible refine at_load1 ?_; refine wpList_load_txtG _ rfl rfl T5 rfl ?_))
          refine (txt_raw_of s tab _ (k + 2 + j) (by omega) _).mono ?_; rintro e w7 ⟨rfl, hB7⟩
          have T7 := T5.below hB7 T5.lt
          go_wp2_with fail
          refine bodyPost_ret (v := .tuple #[.int .i64 (clampN 16 (s.data.toList.drop (k + 2)) j : Nat), .int .i64 (k + 2 + j + 1 : Nat), .int .i64 1]) (by simp [results, Try.results76, go_sem]) rfl ⟨by rw [HQ.out.c, HQ.out.e, HQ.out.k], hB.trans (trans2 (by omega) hB5 hB7)⟩
        · have y3 : (rawAt s.data.toList (k + 2 + j) != 92) = true := by simp [z3]
          have HQ := Lib.hid (HQ0.out.2 (fun hh => z3 hh.2.2))
          clear z1 z2 z3 hcl
          go_wp2_with (first | (with_reducible refine at_load0 ?_; refine wpList_load_txt rfl _ rfl rfl T ?_) | (with_reducible refine at_load1 ?_; refine wpList_load_txtG _ rfl rfl T rfl ?_))
          refine (txt_raw_of s tab _ (k + 2 + j) (by omega) _).mono ?_; rintro e w5 ⟨rfl, hB5⟩
          have T5 := T.below hB5 T.lt
          go_wp2_with fail
          refine (ref_digit _ _ _).mono ?_; rintro e w6 ⟨rfl, rfl⟩
          go_wp2_with (first | (with_reducible refine at_load0 ?_; refine wpList_load_txt rfl _ rfl rfl T5 ?_) | (with_reducible refine at_load1 ?_; refine wpList_load_txtG _ rfl rfl T5 rfl ?_))
          refine (txt_raw_of s tab _ (k + 2 + j) (by omega) _).mono ?_; rintro e w7 ⟨rfl, hB7⟩
          have T7 := T5.below hB7 T5.lt
          go_wp2_with fail
          refine bodyPost_ret (v := .tuple #[.int .i64 (0), .int .i64 (k : Nat), .int .i64 0]) (by simp [results, Try.results76, go_sem]) rfl ⟨by rw [HQ.out.c, HQ.out.e, HQ.out.k], hB.trans (trans2 (by omega) hB5 hB7)⟩
      · have y2 : decide (255 < (clampN 16 (s.data.toList.drop (k + 2)) j : Int)) = true := by simp; omega
        have HQ := Lib.hid (HQ0.out.2 (fun hh => z2 hh.2.1))
        clear z1 z2 hcl
        go_wp2_with (first | (with_reducible refine at_load0 ?_; refine wpList_load_txt rfl _ rfl rfl T ?_) | (with_reducible refine at_load1 ?_; refine wpList_load_txtG _ rfl rfl T rfl ?_))
        refine (txt_raw_of s tab _ (k + 2 + j) (by omega) _).mono ?_; rintro e w5 ⟨rfl, hB5⟩
        have T5 := T.below hB5 T.lt
        go_wp2_with fail
        refine (ref_digit _ _ _).mono ?_; rintro e w6 ⟨rfl, rfl⟩
        go_wp2_with fail
        refine bodyPost_ret (v := .tuple #[.int .i64 (0), .int .i64 (k : Nat), .int .i64 0]) (by simp [results, Try.results76, go_sem]) rfl ⟨by rw [HQ.out.c, HQ.out.e, HQ.out.k], hB.trans (hB5.mono (by omega))⟩
set_option maxHeartbeats 1600000 in
theorem quoted_oct (s : ByteArray) (tab : Int → Int) (k : Nat) (_hk : k ≤ 16400) (q : Int) (_hq : q = 39 ∨ q = 34) (hsz : s.size ≤ 16384) (h1 : rawAt s.data.toList k = 92) (h2 : ¬rawAt s.data.toList (k + 1) = 10) (h3 : uneOk (rawAt s.data.toList (k + 1)) = false) (h4 : ¬rawAt s.data.toList (k + 1) = 120) (w : World) :
    Calls Try.prog 76 #[txtV s tab, .int .i64 k, .int .i64 q] w fun e w' => e = .returned (.tuple #[.int .i64 (quotC s.data.toList k q), .int .i64 (quotE s.data.toList k q), .int .i64 (quotK s.data.toList k q)]) ∧ Below w.heap.size w w' := by
  have HQ0 := Lib.hid (quot_esc s.data.toList k q 8 1 _hq h1 h2 h3 (by rw [if_neg h4]) (by rw [if_neg h4]))
  have d1 : decide (rawAt s.data.toList k < 0) = false := by simp; omega
  have d2 : (rawAt s.data.toList k == 10) = false := by simp; omega
  have d3 : (rawAt s.data.toList k == q) = false := by simp; omega
  have d4 : (rawAt s.data.toList k != 92) = false := by simp [h1]
  have d5 : (rawAt s.data.toList (k + 1) == 10) = false := by simp [h2]
  have d6 : (rawAt s.data.toList (k + 1) == 120) = false := by simp [h4]
  clear h1 h2 h4
  have HDS := Lib.hid (dig_stop 8 s.data.toList (k + 1))
  have HDG := Lib.hid (dig_step 8 s.data.toList (k + 1))
  have HCL := Lib.hid (clamp_step 8 (by decide) (by decide) (s.data.toList.drop (k + 1)))
  have HSZ : Hid (s.data.toList.length = s.size) := size_data s
  have hDl := span_le (isDig 8) (s.data.toList.drop (k + 1))
  rw [List.length_drop, size_data] at hDl
  generalize hD : span (isDig 8) (s.data.toList.drop (k + 1)) = D at *
  clear hD
  go_enter Try.func76, Try.ntmps76
  go_wp2_with (first | (refine wpList_box_txt rfl _ s tab rfl rfl ?_; intro b w1 T0 hle hB0) | (with_reducible refine at_load0 ?_; refine wpList_load_txt rfl _ rfl rfl T0 ?_))
  refine (txt_raw_of s tab _ k (by omega) _).mono ?_; rintro e w2 ⟨rfl, hB2⟩
  have T2 := T0.below hB2 T0.lt
  have hs1 := hB0.size
  go_wp2_with (first | (with_reducible refine at_load0 ?_; refine wpList_load_txt rfl _ rfl rfl T2 ?_) | (with_reducible refine at_load1 ?_; refine wpList_load_txtG _ rfl rfl T2 rfl ?_))
  refine (txt_raw_of s tab _ (k + 1) (by omega) _).mono ?_; rintro e w3 ⟨rfl, hB3⟩
  have T3 := T2.below hB3 T2.lt
  go_wp2_with fail
  refine (ref_unescape _ _).mono ?_; rintro e w4 ⟨rfl, rfl⟩
  have hBx := hB0.trans (trans2 (by omega) hB2 hB3)
  clear hB2 hB3 T0 T2 hB0
  go_wp2_with fail
  go_loopw [14, 15, 16] (fun x n d wr => ∃ j : Nat, j ≤ D ∧ x = .int .i64 (k + 1 + j : Nat) ∧ n = .int .i64 (clampN 8 (s.data.toList.drop (k + 1)) j) ∧ d = .int .i64 j ∧ Below w.heap.size w wr ∧ Txt wr b s tab) (fun x _ _ _ => s.size - (intOf x).toNat)
  case atStart => exact ⟨0, Nat.zero_le _, by go_num, by rfl, rfl, hBx, T3⟩
  case round =>
    obtain ⟨j, hj, rfl, rfl, rfl, hB, T⟩ := hrel
    have hs := hB.size
    have hc0 : (clampN 8 (s.data.toList.drop (k + 1)) j : Int) ≤ 256 := by unfold clampN; omega
    by_cases hlt : j < D
    · obtain ⟨g1, g2⟩ := HDG.out j hlt
      rw [HSZ.out] at g2
      obtain ⟨g3, g4, g5⟩ := HCL.out j hlt
      rw [rawAt_drop] at g3 g4 g5
      have HG3 := Lib.hid g3
      clear g3
      go_wp2_with (first | (with_reducible refine at_load0 ?_; refine wpList_load_txt rfl _ rfl rfl T ?_) | (with_reducible refine at_load1 ?_; refine wpList_load_txtG _ rfl rfl T rfl ?_))
      refine (txt_raw_of s tab _ (k + 1 + j) (by omega) _).mono ?_; rintro e w5 ⟨rfl, hB5⟩
      have T5 := T.below hB5 T.lt
      go_wp2_with fail
      refine (ref_digit _ _ _).mono ?_; rintro e w6 ⟨rfl, rfl⟩
      go_wp2_with fail
      go_roundw
      case rel => exact ⟨j + 1, by omega, by go_num, by rw [HG3.out]; refine congrArg _ ?_; split <;> omega, by go_num, hB.trans (hB5.mono (by omega)), T5⟩
      case measure => simp [intOf]; omega
    · obtain rfl : j = D := by omega
      have hcl : (clampN 8 (s.data.toList.drop (k + 1)) j : Int) = min (natOf 8 ((s.data.toList.drop (k + 1)).take j) : Int) 256 := by unfold clampN; omega
      have HDSj := HDS.out
      by_cases z1 : j = 0
      · have y1 : ((j : Int) == 0) = true := by simp; omega
        have HQ := Lib.hid (HQ0.out.2 (fun hh => by omega))
        clear z1 hcl
        go_wp2_with (first | (with_reducible refine at_load0 ?_; refine wpList_load_txt rfl _ rfl rfl T ?_) | (with_reducible refine at_load1 ?_; refine wpList_load_txtG _ rfl rfl T rfl ?_))
        refine (txt_raw_of s tab _ (k + 1 + j) (by omega) _).mono ?_; rintro e w5 ⟨rfl, hB5⟩
        have T5 := T.below hB5 T.lt
        go_wp2_with fail
        refine (ref_digit _ _ _).mono ?_; rintro e w6 ⟨rfl, rfl⟩
        go_wp2_with fail
        refine bodyPost_ret (v := .tuple #[.int .i64 (0), .int .i64 (k : Nat), .int .i64 0]) (by simp [results, Try.results76, go_sem]) rfl ⟨by rw [HQ.out.c, HQ.out.e, HQ.out.k], hB.trans (hB5.mono (by omega))⟩
      have y1 : ((j : Int) == 0) = false := by simp; omega
      by_cases z2 : natOf 8 ((s.data.toList.drop (k + 1)).take j) ≤ 255
      · have y2 : decide (255 < (clampN 8 (s.data.toList.drop (k + 1)) j : Int)) = false := by simp; omega
        by_cases z3 : rawAt s.data.toList (k + 1 + j) = 92
        · have y3 : (rawAt s.data.toList (k + 1 + j) != 92) = false := by simp [z3]
          have HQ := Lib.hid (HQ0.out.1 (by omega) z2 z3)
          have hcv := Lib.hid (show clampN 8 (s.data.toList.drop (k + 1)) j = natOf 8 ((s.data.toList.drop (k + 1)).take j) by unfold clampN; omega)
          rw [← hcv.out] at HQ
          clear z1 z2 z3 hcl
          go_wp2_with (first | (with_reducible refine at_load0 ?_; refine wpList_load_txt rfl _ rfl rfl T ?_) | (with_reducible refine at_load1 ?_; refine wpList_load_txtG _ rfl rfl T rfl ?_))
          refine (txt_raw_of s tab _ (k + 1 + j) (by omega) _).mono ?_; rintro e w5 ⟨rfl, hB5⟩
          have T5 := T.below hB5 T.lt
          go_wp2_with fail
          refine (ref_digit _ _ _).mono ?_; rintro e w6 ⟨rfl, rfl⟩
          go_wp2_with (first | (with_reducible refine at_load0 ?_; refine wpList_load_txt rfl _ rfl rfl T5 ?_) | (with_reducible refine at_load1 ?_; refine wpList_load_txtG _ rfl rfl T5 rfl ?_))
          refine (txt_raw_of s tab _ (k + 1 + j) (by omega) _).mono ?_; rintro e w7 ⟨rfl, hB7⟩
          have T7 := T5.below hB7 T5.lt
          go_wp2_with fail
          refine bodyPost_ret (v := .tuple #[.int .i64 (clampN 8 (s.data.toList.drop (k + 1)) j : Nat), .int .i64 (k + 1 + j + 1 : Nat), .int .i64 1]) (by simp [results, Try.results76, go_sem]) rfl ⟨by rw [HQ.out.c, HQ.out.e, HQ.out.k], hB.trans (trans2 (by omega) hB5 hB7)⟩
        · have y3 : (rawAt s.data.toList (k + 1 + j) != 92) = true := by simp [z3]
          have HQ := Lib.hid (HQ0.out.2 (fun hh => z3 hh.2.2))
          clear z1 z2 z3 hcl
          go_wp2_with (first | (with_reducible refine at_load0 ?_; refine wpList_load_txt rfl _ rfl rfl T ?_) | (with_reducible refine at_load1 ?_; refine wpList_load_txtG _ rfl rfl T rfl ?_))
          refine (txt_raw_of s tab _ (k + 1 + j) (by omega) _).mono ?_; rintro e w5 ⟨rfl, hB5⟩
          have T5 := T.below hB5 T.lt
          go_wp2_with fail
          refine (ref_digit _ _ _).mono ?_; rintro e w6 ⟨rfl, rfl⟩
          go_wp2_with (first | (with_reducible refine at_load0 ?_; refine wpList_load_txt rfl _ rfl rfl T5 ?_) | (with_reducible refine at_load1 ?_; refine wpList_load_txtG _ rfl rfl T5 rfl ?_))
          refine (txt_raw_of s tab _ (k + 1 + j) (by omega) _).mono ?_; rintro e w7 ⟨rfl, hB7⟩
          have T7 := T5.below hB7 T5.lt
          go_wp2_with fail
          refine bodyPost_ret (v := .tuple #[.int .i64 (0), .int .i64 (k : Nat), .int .i64 0]) (by simp [results, Try.results76, go_sem]) rfl ⟨by rw [HQ.out.c, HQ.out.e, HQ.out.k], hB.trans (trans2 (by omega) hB5 hB7)⟩
      · have y2 : decide (255 < (clampN 8 (s.data.toList.drop (k + 1)) j : Int)) = true := by simp; omega
        have HQ := Lib.hid (HQ0.out.2 (fun hh => z2 hh.2.1))
        clear z1 z2 hcl
        go_wp2_with (first | (with_reducible refine at_load0 ?_; refine wpList_load_txt rfl _ rfl rfl T ?_) | (with_reducible refine at_load1 ?_; refine wpList_load_txtG _ rfl rfl T rfl ?_))
        refine (txt_raw_of s tab _ (k + 1 + j) (by omega) _).mono ?_; rintro e w5 ⟨rfl, hB5⟩
        have T5 := T.below hB5 T.lt
        go_wp2_with fail
        refine (ref_digit _ _ _).mono ?_; rintro e w6 ⟨rfl, rfl⟩
        go_wp2_with fail
        refine bodyPost_ret (v := .tuple #[.int .i64 (0), .int .i64 (k : Nat), .int .i64 0]) (by simp [results, Try.results76, go_sem]) rfl ⟨by rw [HQ.out.c, HQ.out.e, HQ.out.k], hB.trans (hB5.mono (by omega))⟩

theorem txt_quoted (s : ByteArray) (tab : Int → Int) (k : Nat) (hk : k ≤ 16400) (q : Int) (hq : q = 39 ∨ q = 34) (hsz : s.size ≤ 16384) (w : World) :
    Calls Try.prog 76 #[txtV s tab, .int .i64 k, .int .i64 q] w fun e w' => e = .returned (.tuple #[.int .i64 (quotC s.data.toList k q), .int .i64 (quotE s.data.toList k q), .int .i64 (quotK s.data.toList k q)]) ∧ Below w.heap.size w w' := by
  by_cases a0 : rawAt s.data.toList k < 0 ∨ rawAt s.data.toList k = 10
  · exact quoted_end s tab k hk q hq a0 w
  by_cases a1 : rawAt s.data.toList k = q
  · by_cases a2 : rawAt s.data.toList (k + 1) = q
    · exact quoted_two s tab k hk q hq a1 a2 w
    · exact quoted_one s tab k hk q hq a1 a2 w
  by_cases a2 : rawAt s.data.toList k = 92
  · by_cases a3 : rawAt s.data.toList (k + 1) = 10
    · exact quoted_cont s tab k hk q hq a2 a3 w
    cases a4 : uneOk (rawAt s.data.toList (k + 1)) with
    | true => exact quoted_une s tab k hk q hq a2 a3 a4 w
    | false =>
      by_cases a5 : rawAt s.data.toList (k + 1) = 120
      · exact quoted_hex s tab k hk q hq hsz a2 a3 a4 a5 w
      · exact quoted_oct s tab k hk q hq hsz a2 a3 a4 a5 w
  · exact quoted_plain s tab k hk q hq a0 a1 a2 w
end Go.Proofs.Ytmjeajfakhmakaa
