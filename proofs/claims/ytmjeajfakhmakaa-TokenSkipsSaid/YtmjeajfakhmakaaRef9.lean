/- Contracts of layer 9's reference: token: dots, integers, items. -/
import Derived.Test.YtmjeajfakhmakaaRef7
namespace Go.Proofs.Ytmjeajfakhmakaa
open Go.RowKit Hb
set_option maxRecDepth 100000

set_option maxHeartbeats 1600000 in
theorem token_dot_long (s : ByteArray) (tab : Int → Int) (ht : TabOk tab) (p : Nat) (hp : p < s.size) (hsz : s.size ≤ 16384) (c46 : (rawAt (cvt tab s.data.toList) p == 46) = true) (k2 : (cls (rawAt (cvt tab s.data.toList) p) == 2) = false) (k3 : (cls (rawAt (cvt tab s.data.toList) p) == 3) = false) (k5 : (cls (rawAt (cvt tab s.data.toList) p) == 5) = true) (d1 : decide (rawAt (cvt tab s.data.toList) (p + 1) < 0) = false) (d2 : (rawAt (cvt tab s.data.toList) (p + 1) == 37) = false) (d3 : (cls (rawAt (cvt tab s.data.toList) (p + 1)) == 1) = false) (hl : 100 < (((cvt tab s.data.toList).drop p).take (span isSym ((cvt tab s.data.toList).drop p))).length) (w : World) :
    Calls Try.prog 44 #[txtV s tab, .int .i64 p] w fun e w' => Gives (errR 2) e ∧ Below w.heap.size w w' := by
  have HT := Lib.hid ht
  clear ht
  have hlen : Hid ((cvt tab s.data.toList).length = s.size) := by show _ = _; rw [cvt_len]; simp
  generalize hM : cvt tab s.data.toList = M at *
  have HM := Lib.hid hM
  clear hM
  have hc0 : 0 ≤ rawAt M p := by have := rawAt_neg M p; have := hlen.out; omega
  have hc1 := rawAt_hi M p
  have hw8 : IntKind.u8.wrap (rawAt M p) = rawAt M p := IntWalk.u8_in _ (by omega)
  have hsl := span_le alnum (M.drop p)
  have hsl2 := span_le isSym (M.drop p)
  rw [List.length_drop, hlen.out] at hsl hsl2
  have hln : decide ((100 : Int) < (((M.drop p).take (span isSym (M.drop p))).length : Int)) = true := decide_eq_true (by omega)
  clear hl
  go_enter Try.func44, Try.ntmps44
  go_wp2_with (first | (refine wpList_box_txt rfl _ s tab rfl rfl ?_; intro b w1 T0 hle hB0; have T1 := T0.below ((Below.refl _ _).alloc (Nat.le_refl _) tokZero) T0.lt; unfold tokZero at T1) | (with_reducible refine at_load0 ?_; refine wpList_load_txt rfl _ rfl rfl T1 ?_))
  refine (txt_at_of s tab M HM HT _ p (by omega) _).mono ?_; rintro e w2 ⟨rfl, hB2⟩
  have hs0 := hB0.size
  have hbl := T0.lt
  have T2 := T1.below hB2 T1.lt
  have hBr : Below (w1.alloc tokZero).heap.size (w1.alloc tokZero) w2 := hB2
  have hl12 : w1.heap.size < w2.heap.size := Nat.lt_of_lt_of_le (by simp) hB2.size
  have hl13 : w1.heap.size < w2.heap.size + 1 := by omega
  obtain ⟨t0, t1, t2, t3, t4, t5, t6⟩ := tok_cells hBr (by simp)
  have hBw : Below w.heap.size w w2 := (hB0.alloc hs0 tokZero).trans (hBr.mono (by simp; omega))
  clear hB0 hB2 T1
  go_wp2_with fail
  refine (ref_class _ _).mono ?_; rintro e w3 ⟨rfl, rfl⟩
  have hcv := fun w' => conv_new1 (P := Try.prog) 44 9 5 Try.underlying44 Try.underlying5 Try.underlying9 (rawAt M p) hc0 hc1 w'
  go_wp2_with (first | (with_reducible refine at_load0 ?_; refine wpList_load_txt rfl _ rfl rfl (T2.below (two_new (Below.refl w2.heap.size w2) (Nat.le_refl _) _ _) T2.lt) ?_) | (with_reducible refine at_load1 ?_; refine wpList_load_txtG _ rfl rfl (T2.below (two_new (Below.refl w2.heap.size w2) (Nat.le_refl _) _ _) T2.lt) rfl ?_))
  refine (txt_at_of s tab M HM HT _ (p + 1) (by omega) _).mono ?_; rintro e w4 ⟨rfl, hB4⟩
  have T4 := Txt.below (T2.below (two_new (Below.refl w2.heap.size w2) (Nat.le_refl _) _ _) T2.lt) hB4 (by simp; have := T2.lt; omega)
  go_wp2_with (first | (with_reducible refine at_load0 ?_; refine wpList_load_txt rfl _ rfl rfl T4 ?_) | (with_reducible refine at_load1 ?_; refine wpList_load_txtG _ rfl rfl T4 rfl ?_))
  refine (txt_at_of s tab M HM HT _ (p + 1) (by omega) _).mono ?_; rintro e w5 ⟨rfl, hB5⟩
  have T5 := T4.below hB5 T4.lt
  go_wp2_with (first | (with_reducible refine at_load0 ?_; refine wpList_load_txt rfl _ rfl rfl T5 ?_) | (with_reducible refine at_load1 ?_; refine wpList_load_txtG _ rfl rfl T5 rfl ?_))
  refine (txt_at_of s tab M HM HT _ (p + 1) (by omega) _).mono ?_; rintro e w6 ⟨rfl, hB6⟩
  have T6 := T5.below hB6 T5.lt
  have hBq := trans3 (Nat.le_refl _) hB4 hB5 hB6
  go_wp2_with fail
  refine (ref_layout _ _).mono ?_; rintro e w9 ⟨rfl, rfl⟩
  obtain ⟨g0, g1, g2, g3, g4, g5, g6, gl⟩ := cells_after hBq
  have hBx : Below w2.heap.size w2 w6 := (two_new (Below.refl w2.heap.size w2) (Nat.le_refl _) _ _).trans (hBq.mono (by simp; omega))
  go_wp2_with (first | (with_reducible refine at_load0 ?_; refine wpList_load_txt rfl _ rfl rfl (T6.same (by simp [World.setCell]) (Below.heap_setCell _ _ _ _ (by have := T2.lt; dsimp only; omega))) ?_) | (with_reducible refine at_load1 ?_; refine wpList_load_txtG _ rfl rfl (T6.same (by simp [World.setCell]) (Below.heap_setCell _ _ _ _ (by have := T2.lt; dsimp only; omega))) rfl ?_))
  refine (txt_run_sym s tab HT.out p hsz (by omega) _).mono ?_; rintro e w4' ⟨rfl, hB7⟩; rw [HM.out]
  obtain ⟨k0, k1, k2', k3', k4', k5', k6, kl⟩ := cells_set g0 g1 g2 g3 g4 g5 g6 gl hB7
  clear g0 g1 g2 g3 g4 g5 g6
  have hBx7 : Below w2.heap.size w2 w4' := (hBx.setCell (p := ⟨_, _, none⟩) (by dsimp only; omega) _).trans (hB7.mono (by rw [size_set]; omega))
  clear hBx hB7 hBq hB4 hB5 hB6 T4 T5 T6
  have hBx := hBx7
  clear hBx7
  clear t0 t1 t2 t3 t4 t5 t6
  obtain ⟨t0, t1, t2, t3, t4, t5, t6⟩ := tok_cells (hBr.trans (hBx.mono (by simp; omega))) (by simp)
  generalize hX : (M.drop p).take (span isSym (M.drop p)) = X at *
  have HX := Lib.hid hX
  clear hX
  clear hBr T2 hcv
  have hBy := hBw.trans (hBx.mono (by omega))
  have hl4 : w2.heap.size ≤ w4'.heap.size := by omega
  have hl14 : w1.heap.size < w4'.heap.size := by omega
  go_wp2_with fail
  refine bodyPost_ret (v := tokTup (errR 2)) (by simp [tokTup, errR, results, Try.results44, go_sem, t0, t1, t2, t3, t4, t5]) rfl ⟨rfl, by repeat (first | with_reducible exact hBy | with_reducible refine Below.setCell ?_ (by dsimp only; omega) _ | with_reducible refine Below.alloc ?_ (by simp [World.setCell]; omega) _)⟩
set_option maxHeartbeats 1600000 in
theorem token_dot (s : ByteArray) (tab : Int → Int) (ht : TabOk tab) (p : Nat) (hp : p < s.size) (hsz : s.size ≤ 16384) (c46 : (rawAt (cvt tab s.data.toList) p == 46) = true) (k2 : (cls (rawAt (cvt tab s.data.toList) p) == 2) = false) (k3 : (cls (rawAt (cvt tab s.data.toList) p) == 3) = false) (k5 : (cls (rawAt (cvt tab s.data.toList) p) == 5) = true) (d1 : decide (rawAt (cvt tab s.data.toList) (p + 1) < 0) = false) (d2 : (rawAt (cvt tab s.data.toList) (p + 1) == 37) = false) (d3 : (cls (rawAt (cvt tab s.data.toList) (p + 1)) == 1) = false) (hl : ¬100 < (((cvt tab s.data.toList).drop p).take (span isSym ((cvt tab s.data.toList).drop p))).length) (w : World) :
    Calls Try.prog 44 #[txtV s tab, .int .i64 p] w fun e w' => Gives ⟨1, (((cvt tab s.data.toList).drop p).take (span isSym ((cvt tab s.data.toList).drop p))), 0, p, p + span isSym ((cvt tab s.data.toList).drop p), 0⟩ e ∧ Below w.heap.size w w' := by
  have HT := Lib.hid ht
  clear ht
  have hlen : Hid ((cvt tab s.data.toList).length = s.size) := by show _ = _; rw [cvt_len]; simp
  generalize hM : cvt tab s.data.toList = M at *
  have HM := Lib.hid hM
  clear hM
  have hc0 : 0 ≤ rawAt M p := by have := rawAt_neg M p; have := hlen.out; omega
  have hc1 := rawAt_hi M p
  have hw8 : IntKind.u8.wrap (rawAt M p) = rawAt M p := IntWalk.u8_in _ (by omega)
  have hsl := span_le alnum (M.drop p)
  have hsl2 := span_le isSym (M.drop p)
  rw [List.length_drop, hlen.out] at hsl hsl2
  have hln : decide ((100 : Int) < (((M.drop p).take (span isSym (M.drop p))).length : Int)) = false := decide_eq_false (by omega)
  clear hl
  go_enter Try.func44, Try.ntmps44
  go_wp2_with (first | (refine wpList_box_txt rfl _ s tab rfl rfl ?_; intro b w1 T0 hle hB0; have T1 := T0.below ((Below.refl _ _).alloc (Nat.le_refl _) tokZero) T0.lt; unfold tokZero at T1) | (with_reducible refine at_load0 ?_; refine wpList_load_txt rfl _ rfl rfl T1 ?_))
  refine (txt_at_of s tab M HM HT _ p (by omega) _).mono ?_; rintro e w2 ⟨rfl, hB2⟩
  have hs0 := hB0.size
  have hbl := T0.lt
  have T2 := T1.below hB2 T1.lt
  have hBr : Below (w1.alloc tokZero).heap.size (w1.alloc tokZero) w2 := hB2
  have hl12 : w1.heap.size < w2.heap.size := Nat.lt_of_lt_of_le (by simp) hB2.size
  have hl13 : w1.heap.size < w2.heap.size + 1 := by omega
  obtain ⟨t0, t1, t2, t3, t4, t5, t6⟩ := tok_cells hBr (by simp)
  have hBw : Below w.heap.size w w2 := (hB0.alloc hs0 tokZero).trans (hBr.mono (by simp; omega))
  clear hB0 hB2 T1
  go_wp2_with fail
  refine (ref_class _ _).mono ?_; rintro e w3 ⟨rfl, rfl⟩
  have hcv := fun w' => conv_new1 (P := Try.prog) 44 9 5 Try.underlying44 Try.underlying5 Try.underlying9 (rawAt M p) hc0 hc1 w'
  go_wp2_with (first | (with_reducible refine at_load0 ?_; refine wpList_load_txt rfl _ rfl rfl (T2.below (two_new (Below.refl w2.heap.size w2) (Nat.le_refl _) _ _) T2.lt) ?_) | (with_reducible refine at_load1 ?_; refine wpList_load_txtG _ rfl rfl (T2.below (two_new (Below.refl w2.heap.size w2) (Nat.le_refl _) _ _) T2.lt) rfl ?_))
  refine (txt_at_of s tab M HM HT _ (p + 1) (by omega) _).mono ?_; rintro e w4 ⟨rfl, hB4⟩
  have T4 := Txt.below (T2.below (two_new (Below.refl w2.heap.size w2) (Nat.le_refl _) _ _) T2.lt) hB4 (by simp; have := T2.lt; omega)
  go_wp2_with (first | (with_reducible refine at_load0 ?_; refine wpList_load_txt rfl _ rfl rfl T4 ?_) | (with_reducible refine at_load1 ?_; refine wpList_load_txtG _ rfl rfl T4 rfl ?_))
  refine (txt_at_of s tab M HM HT _ (p + 1) (by omega) _).mono ?_; rintro e w5 ⟨rfl, hB5⟩
  have T5 := T4.below hB5 T4.lt
  go_wp2_with (first | (with_reducible refine at_load0 ?_; refine wpList_load_txt rfl _ rfl rfl T5 ?_) | (with_reducible refine at_load1 ?_; refine wpList_load_txtG _ rfl rfl T5 rfl ?_))
  refine (txt_at_of s tab M HM HT _ (p + 1) (by omega) _).mono ?_; rintro e w6 ⟨rfl, hB6⟩
  have T6 := T5.below hB6 T5.lt
  have hBq := trans3 (Nat.le_refl _) hB4 hB5 hB6
  go_wp2_with fail
  refine (ref_layout _ _).mono ?_; rintro e w9 ⟨rfl, rfl⟩
  obtain ⟨g0, g1, g2, g3, g4, g5, g6, gl⟩ := cells_after hBq
  have hBx : Below w2.heap.size w2 w6 := (two_new (Below.refl w2.heap.size w2) (Nat.le_refl _) _ _).trans (hBq.mono (by simp; omega))
  go_wp2_with (first | (with_reducible refine at_load0 ?_; refine wpList_load_txt rfl _ rfl rfl (T6.same (by simp [World.setCell]) (Below.heap_setCell _ _ _ _ (by have := T2.lt; dsimp only; omega))) ?_) | (with_reducible refine at_load1 ?_; refine wpList_load_txtG _ rfl rfl (T6.same (by simp [World.setCell]) (Below.heap_setCell _ _ _ _ (by have := T2.lt; dsimp only; omega))) rfl ?_))
  refine (txt_run_sym s tab HT.out p hsz (by omega) _).mono ?_; rintro e w4' ⟨rfl, hB7⟩; rw [HM.out]
  obtain ⟨k0, k1, k2', k3', k4', k5', k6, kl⟩ := cells_set g0 g1 g2 g3 g4 g5 g6 gl hB7
  clear g0 g1 g2 g3 g4 g5 g6
  have hBx7 : Below w2.heap.size w2 w4' := (hBx.setCell (p := ⟨_, _, none⟩) (by dsimp only; omega) _).trans (hB7.mono (by rw [size_set]; omega))
  clear hBx hB7 hBq hB4 hB5 hB6 T4 T5 T6
  have hBx := hBx7
  clear hBx7
  clear t0 t1 t2 t3 t4 t5 t6
  obtain ⟨t0, t1, t2, t3, t4, t5, t6⟩ := tok_cells (hBr.trans (hBx.mono (by simp; omega))) (by simp)
  generalize hX : (M.drop p).take (span isSym (M.drop p)) = X at *
  have HX := Lib.hid hX
  clear hX
  clear hBr T2 hcv
  have hBy := hBw.trans (hBx.mono (by omega))
  have hl4 : w2.heap.size ≤ w4'.heap.size := by omega
  have hl14 : w1.heap.size < w4'.heap.size := by omega
  go_wp2_with fail
  refine bodyPost_ret (v := tokTup ⟨1, X, 0, p, p + span isSym (M.drop p), 0⟩) (by simp [tokTup, results, Try.results44, go_sem, t0, t1, t2, t3, t4, t5]) rfl ⟨by rw [HX.out]; rfl, by repeat (first | with_reducible exact hBy | with_reducible refine Below.setCell ?_ (by dsimp only; omega) _ | with_reducible refine Below.alloc ?_ (by simp [World.setCell]; omega) _)⟩
set_option maxHeartbeats 1600000 in
theorem token_int_ok (s : ByteArray) (tab : Int → Int) (ht : TabOk tab) (p : Nat) (hp : p < s.size) (hsz : s.size ≤ 16384) (c46 : (rawAt (cvt tab s.data.toList) p == 46) = false) (k2 : (cls (rawAt (cvt tab s.data.toList) p) == 2) = false) (k3 : (cls (rawAt (cvt tab s.data.toList) p) == 3) = false) (k5 : (cls (rawAt (cvt tab s.data.toList) p) == 5) = false) (k4 : (cls (rawAt (cvt tab s.data.toList) p) == 4) = true) (hr : ((numR (cvt tab s.data.toList) s.data.toList p).err == 0) = true) (w : World) :
    Calls Try.prog 44 #[txtV s tab, .int .i64 p] w fun e w' => Gives (numR (cvt tab s.data.toList) s.data.toList p) e ∧ Below w.heap.size w w' := by
  have HT := Lib.hid ht
  clear ht
  have hlen : Hid ((cvt tab s.data.toList).length = s.size) := by show _ = _; rw [cvt_len]; simp
  generalize hM : cvt tab s.data.toList = M at *
  have HM := Lib.hid hM
  clear hM
  have hc0 : 0 ≤ rawAt M p := by have := rawAt_neg M p; have := hlen.out; omega
  have hc1 := rawAt_hi M p
  have hw8 : IntKind.u8.wrap (rawAt M p) = rawAt M p := IntWalk.u8_in _ (by omega)
  have hsl := span_le alnum (M.drop p)
  have hsl2 := span_le isSym (M.drop p)
  rw [List.length_drop, hlen.out] at hsl hsl2
  have hsh := Lib.hid (numR_shape M s.data.toList p)
  go_enter Try.func44, Try.ntmps44
  go_wp2_with (first | (refine wpList_box_txt rfl _ s tab rfl rfl ?_; intro b w1 T0 hle hB0; have T1 := T0.below ((Below.refl _ _).alloc (Nat.le_refl _) tokZero) T0.lt; unfold tokZero at T1) | (with_reducible refine at_load0 ?_; refine wpList_load_txt rfl _ rfl rfl T1 ?_))
  refine (txt_at_of s tab M HM HT _ p (by omega) _).mono ?_; rintro e w2 ⟨rfl, hB2⟩
  have hs0 := hB0.size
  have hbl := T0.lt
  have T2 := T1.below hB2 T1.lt
  have hBr : Below (w1.alloc tokZero).heap.size (w1.alloc tokZero) w2 := hB2
  have hl12 : w1.heap.size < w2.heap.size := Nat.lt_of_lt_of_le (by simp) hB2.size
  have hl13 : w1.heap.size < w2.heap.size + 1 := by omega
  obtain ⟨t0, t1, t2, t3, t4, t5, t6⟩ := tok_cells hBr (by simp)
  have hBw : Below w.heap.size w w2 := (hB0.alloc hs0 tokZero).trans (hBr.mono (by simp; omega))
  clear hB0 hB2 T1
  go_wp2_with fail
  refine (ref_class _ _).mono ?_; rintro e w3 ⟨rfl, rfl⟩
  have hcv := fun w' => conv_new1 (P := Try.prog) 44 9 5 Try.underlying44 Try.underlying5 Try.underlying9 (rawAt M p) hc0 hc1 w'
  go_wp2_with (first | (with_reducible refine at_load0 ?_; refine wpList_load_txt rfl _ rfl rfl (T2.below (two_new (Below.refl w2.heap.size w2) (Nat.le_refl _) _ _) T2.lt) ?_) | (with_reducible refine at_load1 ?_; refine wpList_load_txtG _ rfl rfl (T2.below (two_new (Below.refl w2.heap.size w2) (Nat.le_refl _) _ _) T2.lt) rfl ?_))
  refine (txt_integer s tab HT.out p hp hsz _).mono ?_; rintro e w4 ⟨⟨n, k, rfl, hI⟩, hB4⟩; rw [HM.out] at hI ⊢
  have HI := Lib.hid hI
  clear hI
  generalize hR : numR M s.data.toList p = R at *
  have HR := Lib.hid hR
  clear hR
  obtain ⟨g0, g1, g2, g3, g4, g5, g6, gl⟩ := cells_after hB4
  have hBx : Below w2.heap.size w2 w4 := (two_new (Below.refl w2.heap.size w2) (Nat.le_refl _) _ _).trans (hB4.mono (by simp; omega))
  clear t0 t1 t2 t3 t4 t5 t6
  obtain ⟨t0, t1, t2, t3, t4, t5, t6⟩ := tok_cells (hBr.trans (hBx.mono (by simp; omega))) (by simp)
  
  clear hBr T2 hcv
  have hBy := hBw.trans (hBx.mono (by omega))
  have hl4 : w2.heap.size ≤ w4.heap.size := by omega
  have hl14 : w1.heap.size < w4.heap.size := by omega
  go_wp2_with fail
  refine bodyPost_ret (v := tokTup ⟨4, [], n, p, k, 0⟩) (by simp [tokTup, results, Try.results44, go_sem, t0, t1, t2, t3, t4, t5]) rfl ⟨by
    rw [HR.out]
    have h0 : R.err = 0 := by simpa using hr
    obtain ⟨e1, e2⟩ := HI.out h0
    rcases hsh.out with ⟨_, f1, f2, f3⟩ | h
    · show _ = Ending.returned (tokTup R); unfold tokTup; rw [f1, f2, f3, e1, e2, h0]
    · rw [h] at h0; exact absurd h0 (by decide), by repeat (first | with_reducible exact hBy | with_reducible refine Below.setCell ?_ (by dsimp only; omega) _ | with_reducible refine Below.alloc ?_ (by simp [World.setCell]; omega) _)⟩
set_option maxHeartbeats 1600000 in
theorem token_int_no (s : ByteArray) (tab : Int → Int) (ht : TabOk tab) (p : Nat) (hp : p < s.size) (hsz : s.size ≤ 16384) (c46 : (rawAt (cvt tab s.data.toList) p == 46) = false) (k2 : (cls (rawAt (cvt tab s.data.toList) p) == 2) = false) (k3 : (cls (rawAt (cvt tab s.data.toList) p) == 3) = false) (k5 : (cls (rawAt (cvt tab s.data.toList) p) == 5) = false) (k4 : (cls (rawAt (cvt tab s.data.toList) p) == 4) = true) (hr : ((numR (cvt tab s.data.toList) s.data.toList p).err == 0) = false) (w : World) :
    Calls Try.prog 44 #[txtV s tab, .int .i64 p] w fun e w' => Gives (numR (cvt tab s.data.toList) s.data.toList p) e ∧ Below w.heap.size w w' := by
  have HT := Lib.hid ht
  clear ht
  have hlen : Hid ((cvt tab s.data.toList).length = s.size) := by show _ = _; rw [cvt_len]; simp
  generalize hM : cvt tab s.data.toList = M at *
  have HM := Lib.hid hM
  clear hM
  have hc0 : 0 ≤ rawAt M p := by have := rawAt_neg M p; have := hlen.out; omega
  have hc1 := rawAt_hi M p
  have hw8 : IntKind.u8.wrap (rawAt M p) = rawAt M p := IntWalk.u8_in _ (by omega)
  have hsl := span_le alnum (M.drop p)
  have hsl2 := span_le isSym (M.drop p)
  rw [List.length_drop, hlen.out] at hsl hsl2
  have hsh := Lib.hid (numR_shape M s.data.toList p)
  go_enter Try.func44, Try.ntmps44
  go_wp2_with (first | (refine wpList_box_txt rfl _ s tab rfl rfl ?_; intro b w1 T0 hle hB0; have T1 := T0.below ((Below.refl _ _).alloc (Nat.le_refl _) tokZero) T0.lt; unfold tokZero at T1) | (with_reducible refine at_load0 ?_; refine wpList_load_txt rfl _ rfl rfl T1 ?_))
  refine (txt_at_of s tab M HM HT _ p (by omega) _).mono ?_; rintro e w2 ⟨rfl, hB2⟩
  have hs0 := hB0.size
  have hbl := T0.lt
  have T2 := T1.below hB2 T1.lt
  have hBr : Below (w1.alloc tokZero).heap.size (w1.alloc tokZero) w2 := hB2
  have hl12 : w1.heap.size < w2.heap.size := Nat.lt_of_lt_of_le (by simp) hB2.size
  have hl13 : w1.heap.size < w2.heap.size + 1 := by omega
  obtain ⟨t0, t1, t2, t3, t4, t5, t6⟩ := tok_cells hBr (by simp)
  have hBw : Below w.heap.size w w2 := (hB0.alloc hs0 tokZero).trans (hBr.mono (by simp; omega))
  clear hB0 hB2 T1
  go_wp2_with fail
  refine (ref_class _ _).mono ?_; rintro e w3 ⟨rfl, rfl⟩
  have hcv := fun w' => conv_new1 (P := Try.prog) 44 9 5 Try.underlying44 Try.underlying5 Try.underlying9 (rawAt M p) hc0 hc1 w'
  go_wp2_with (first | (with_reducible refine at_load0 ?_; refine wpList_load_txt rfl _ rfl rfl (T2.below (two_new (Below.refl w2.heap.size w2) (Nat.le_refl _) _ _) T2.lt) ?_) | (with_reducible refine at_load1 ?_; refine wpList_load_txtG _ rfl rfl (T2.below (two_new (Below.refl w2.heap.size w2) (Nat.le_refl _) _ _) T2.lt) rfl ?_))
  refine (txt_integer s tab HT.out p hp hsz _).mono ?_; rintro e w4 ⟨⟨n, k, rfl, hI⟩, hB4⟩; rw [HM.out] at hI ⊢
  have HI := Lib.hid hI
  clear hI
  generalize hR : numR M s.data.toList p = R at *
  have HR := Lib.hid hR
  clear hR
  obtain ⟨g0, g1, g2, g3, g4, g5, g6, gl⟩ := cells_after hB4
  have hBx : Below w2.heap.size w2 w4 := (two_new (Below.refl w2.heap.size w2) (Nat.le_refl _) _ _).trans (hB4.mono (by simp; omega))
  clear t0 t1 t2 t3 t4 t5 t6
  obtain ⟨t0, t1, t2, t3, t4, t5, t6⟩ := tok_cells (hBr.trans (hBx.mono (by simp; omega))) (by simp)
  
  clear hBr T2 hcv
  have hBy := hBw.trans (hBx.mono (by omega))
  have hl4 : w2.heap.size ≤ w4.heap.size := by omega
  have hl14 : w1.heap.size < w4.heap.size := by omega
  go_wp2_with fail
  refine bodyPost_ret (v := tokTup (errR 7)) (by simp [tokTup, errR, results, Try.results44, go_sem, t0, t1, t2, t3, t4, t5]) rfl ⟨by
    rw [HR.out]
    rcases hsh.out with ⟨h, _⟩ | h
    · rw [h] at hr; cases hr
    · rw [h]; rfl, by repeat (first | with_reducible exact hBy | with_reducible refine Below.setCell ?_ (by dsimp only; omega) _ | with_reducible refine Below.alloc ?_ (by simp [World.setCell]; omega) _)⟩
set_option maxHeartbeats 1600000 in
theorem token_q39_no (s : ByteArray) (tab : Int → Int) (ht : TabOk tab) (p : Nat) (hp : p < s.size) (hsz : s.size ≤ 16384) (c46 : (rawAt (cvt tab s.data.toList) p == 46) = false) (k2 : (cls (rawAt (cvt tab s.data.toList) p) == 2) = false) (k3 : (cls (rawAt (cvt tab s.data.toList) p) == 3) = false) (k5 : (cls (rawAt (cvt tab s.data.toList) p) == 5) = false) (k4 : (cls (rawAt (cvt tab s.data.toList) p) == 4) = false) (c33 : (rawAt (cvt tab s.data.toList) p == 33) = false) (c59 : (rawAt (cvt tab s.data.toList) p == 59) = false) (k6 : (cls (rawAt (cvt tab s.data.toList) p) == 6) = false) (c39 : (rawAt (cvt tab s.data.toList) p == 39) = true) (hk : itmK s.data.toList p (rawAt (cvt tab s.data.toList) p) = false) (w : World) :
    Calls Try.prog 44 #[txtV s tab, .int .i64 p] w fun e w' => Gives (errR 7) e ∧ Below w.heap.size w w' := by
  have HT := Lib.hid ht
  clear ht
  have hlen : Hid ((cvt tab s.data.toList).length = s.size) := by show _ = _; rw [cvt_len]; simp
  generalize hM : cvt tab s.data.toList = M at *
  have HM := Lib.hid hM
  clear hM
  have hc0 : 0 ≤ rawAt M p := by have := rawAt_neg M p; have := hlen.out; omega
  have hc1 := rawAt_hi M p
  have hw8 : IntKind.u8.wrap (rawAt M p) = rawAt M p := IntWalk.u8_in _ (by omega)
  have hsl := span_le alnum (M.drop p)
  have hsl2 := span_le isSym (M.drop p)
  rw [List.length_drop, hlen.out] at hsl hsl2
  have hq : rawAt M p = 39 ∨ rawAt M p = 34 := by left; simpa using c39
  go_enter Try.func44, Try.ntmps44
  go_wp2_with (first | (refine wpList_box_txt rfl _ s tab rfl rfl ?_; intro b w1 T0 hle hB0; have T1 := T0.below ((Below.refl _ _).alloc (Nat.le_refl _) tokZero) T0.lt; unfold tokZero at T1) | (with_reducible refine at_load0 ?_; refine wpList_load_txt rfl _ rfl rfl T1 ?_))
  refine (txt_at_of s tab M HM HT _ p (by omega) _).mono ?_; rintro e w2 ⟨rfl, hB2⟩
  have hs0 := hB0.size
  have hbl := T0.lt
  have T2 := T1.below hB2 T1.lt
  have hBr : Below (w1.alloc tokZero).heap.size (w1.alloc tokZero) w2 := hB2
  have hl12 : w1.heap.size < w2.heap.size := Nat.lt_of_lt_of_le (by simp) hB2.size
  have hl13 : w1.heap.size < w2.heap.size + 1 := by omega
  obtain ⟨t0, t1, t2, t3, t4, t5, t6⟩ := tok_cells hBr (by simp)
  have hBw : Below w.heap.size w w2 := (hB0.alloc hs0 tokZero).trans (hBr.mono (by simp; omega))
  clear hB0 hB2 T1
  go_wp2_with fail
  refine (ref_class _ _).mono ?_; rintro e w3 ⟨rfl, rfl⟩
  have hcv := fun w' => conv_new1 (P := Try.prog) 44 9 5 Try.underlying44 Try.underlying5 Try.underlying9 (rawAt M p) hc0 hc1 w'
  go_wp2_with (first | (with_reducible refine at_load0 ?_; refine wpList_load_txt rfl _ rfl rfl (T2.below (two_new (Below.refl w2.heap.size w2) (Nat.le_refl _) _ _) T2.lt) ?_) | (with_reducible refine at_load1 ?_; refine wpList_load_txtG _ rfl rfl (T2.below (two_new (Below.refl w2.heap.size w2) (Nat.le_refl _) _ _) T2.lt) rfl ?_))
  refine (txt_item s tab p hp (rawAt M p) hq hsz _).mono ?_; rintro e w4 ⟨rfl, hB4⟩
  obtain ⟨g0, g1, g2, g3, g4, g5, g6, gl⟩ := cells_after hB4
  have hBx : Below w2.heap.size w2 w4 := (two_new (Below.refl w2.heap.size w2) (Nat.le_refl _) _ _).trans (hB4.mono (by simp; omega))
  clear t0 t1 t2 t3 t4 t5 t6
  obtain ⟨t0, t1, t2, t3, t4, t5, t6⟩ := tok_cells (hBr.trans (hBx.mono (by simp; omega))) (by simp)
  clear hq
  generalize hX : itmT s.data.toList p (rawAt M p) = X at *
  have HX := Lib.hid hX
  clear hX
  clear hBr T2 hcv
  have hBy := hBw.trans (hBx.mono (by omega))
  have hl4 : w2.heap.size ≤ w4.heap.size := by omega
  have hl14 : w1.heap.size < w4.heap.size := by omega
  go_wp2_with fail
  refine bodyPost_ret (v := tokTup (errR 7)) (by simp [tokTup, errR, results, Try.results44, go_sem, t0, t1, t2, t3, t4, t5]) rfl ⟨rfl, by repeat (first | with_reducible exact hBy | with_reducible refine Below.setCell ?_ (by dsimp only; omega) _ | with_reducible refine Below.alloc ?_ (by simp [World.setCell]; omega) _)⟩
set_option maxHeartbeats 1600000 in
theorem token_q39_ok (s : ByteArray) (tab : Int → Int) (ht : TabOk tab) (p : Nat) (hp : p < s.size) (hsz : s.size ≤ 16384) (c46 : (rawAt (cvt tab s.data.toList) p == 46) = false) (k2 : (cls (rawAt (cvt tab s.data.toList) p) == 2) = false) (k3 : (cls (rawAt (cvt tab s.data.toList) p) == 3) = false) (k5 : (cls (rawAt (cvt tab s.data.toList) p) == 5) = false) (k4 : (cls (rawAt (cvt tab s.data.toList) p) == 4) = false) (c33 : (rawAt (cvt tab s.data.toList) p == 33) = false) (c59 : (rawAt (cvt tab s.data.toList) p == 59) = false) (k6 : (cls (rawAt (cvt tab s.data.toList) p) == 6) = false) (c39 : (rawAt (cvt tab s.data.toList) p == 39) = true) (hk : itmK s.data.toList p (rawAt (cvt tab s.data.toList) p) = true) (hl : ¬100 < (itmT s.data.toList p (rawAt (cvt tab s.data.toList) p)).length) (w : World) :
    Calls Try.prog 44 #[txtV s tab, .int .i64 p] w fun e w' => Gives ⟨2, itmT s.data.toList p (rawAt (cvt tab s.data.toList) p), 0, p, itmE s.data.toList p (rawAt (cvt tab s.data.toList) p), 0⟩ e ∧ Below w.heap.size w w' := by
  have HT := Lib.hid ht
  clear ht
  have hlen : Hid ((cvt tab s.data.toList).length = s.size) := by show _ = _; rw [cvt_len]; simp
  generalize hM : cvt tab s.data.toList = M at *
  have HM := Lib.hid hM
  clear hM
  have hc0 : 0 ≤ rawAt M p := by have := rawAt_neg M p; have := hlen.out; omega
  have hc1 := rawAt_hi M p
  have hw8 : IntKind.u8.wrap (rawAt M p) = rawAt M p := IntWalk.u8_in _ (by omega)
  have hsl := span_le alnum (M.drop p)
  have hsl2 := span_le isSym (M.drop p)
  rw [List.length_drop, hlen.out] at hsl hsl2
  have hln : decide ((100 : Int) < ((itmT s.data.toList p (rawAt M p)).length : Int)) = false := decide_eq_false (by omega)
  clear hl
  have hq : rawAt M p = 39 ∨ rawAt M p = 34 := by left; simpa using c39
  go_enter Try.func44, Try.ntmps44
  go_wp2_with (first | (refine wpList_box_txt rfl _ s tab rfl rfl ?_; intro b w1 T0 hle hB0; have T1 := T0.below ((Below.refl _ _).alloc (Nat.le_refl _) tokZero) T0.lt; unfold tokZero at T1) | (with_reducible refine at_load0 ?_; refine wpList_load_txt rfl _ rfl rfl T1 ?_))
  refine (txt_at_of s tab M HM HT _ p (by omega) _).mono ?_; rintro e w2 ⟨rfl, hB2⟩
  have hs0 := hB0.size
  have hbl := T0.lt
  have T2 := T1.below hB2 T1.lt
  have hBr : Below (w1.alloc tokZero).heap.size (w1.alloc tokZero) w2 := hB2
  have hl12 : w1.heap.size < w2.heap.size := Nat.lt_of_lt_of_le (by simp) hB2.size
  have hl13 : w1.heap.size < w2.heap.size + 1 := by omega
  obtain ⟨t0, t1, t2, t3, t4, t5, t6⟩ := tok_cells hBr (by simp)
  have hBw : Below w.heap.size w w2 := (hB0.alloc hs0 tokZero).trans (hBr.mono (by simp; omega))
  clear hB0 hB2 T1
  go_wp2_with fail
  refine (ref_class _ _).mono ?_; rintro e w3 ⟨rfl, rfl⟩
  have hcv := fun w' => conv_new1 (P := Try.prog) 44 9 5 Try.underlying44 Try.underlying5 Try.underlying9 (rawAt M p) hc0 hc1 w'
  go_wp2_with (first | (with_reducible refine at_load0 ?_; refine wpList_load_txt rfl _ rfl rfl (T2.below (two_new (Below.refl w2.heap.size w2) (Nat.le_refl _) _ _) T2.lt) ?_) | (with_reducible refine at_load1 ?_; refine wpList_load_txtG _ rfl rfl (T2.below (two_new (Below.refl w2.heap.size w2) (Nat.le_refl _) _ _) T2.lt) rfl ?_))
  refine (txt_item s tab p hp (rawAt M p) hq hsz _).mono ?_; rintro e w4 ⟨rfl, hB4⟩
  obtain ⟨g0, g1, g2, g3, g4, g5, g6, gl⟩ := cells_after hB4
  have hBx : Below w2.heap.size w2 w4 := (two_new (Below.refl w2.heap.size w2) (Nat.le_refl _) _ _).trans (hB4.mono (by simp; omega))
  clear t0 t1 t2 t3 t4 t5 t6
  obtain ⟨t0, t1, t2, t3, t4, t5, t6⟩ := tok_cells (hBr.trans (hBx.mono (by simp; omega))) (by simp)
  clear hq
  generalize hX : itmT s.data.toList p (rawAt M p) = X at *
  have HX := Lib.hid hX
  clear hX
  clear hBr T2 hcv
  have hBy := hBw.trans (hBx.mono (by omega))
  have hl4 : w2.heap.size ≤ w4.heap.size := by omega
  have hl14 : w1.heap.size < w4.heap.size := by omega
  go_wp2_with fail
  refine bodyPost_ret (v := tokTup ⟨2, X, 0, p, itmE s.data.toList p (rawAt M p), 0⟩) (by simp [tokTup, results, Try.results44, go_sem, t0, t1, t2, t3, t4, t5]) rfl ⟨by rw [HX.out]; rfl, by repeat (first | with_reducible exact hBy | with_reducible refine Below.setCell ?_ (by dsimp only; omega) _ | with_reducible refine Below.alloc ?_ (by simp [World.setCell]; omega) _)⟩
set_option maxHeartbeats 1600000 in
theorem token_q39_long (s : ByteArray) (tab : Int → Int) (ht : TabOk tab) (p : Nat) (hp : p < s.size) (hsz : s.size ≤ 16384) (c46 : (rawAt (cvt tab s.data.toList) p == 46) = false) (k2 : (cls (rawAt (cvt tab s.data.toList) p) == 2) = false) (k3 : (cls (rawAt (cvt tab s.data.toList) p) == 3) = false) (k5 : (cls (rawAt (cvt tab s.data.toList) p) == 5) = false) (k4 : (cls (rawAt (cvt tab s.data.toList) p) == 4) = false) (c33 : (rawAt (cvt tab s.data.toList) p == 33) = false) (c59 : (rawAt (cvt tab s.data.toList) p == 59) = false) (k6 : (cls (rawAt (cvt tab s.data.toList) p) == 6) = false) (c39 : (rawAt (cvt tab s.data.toList) p == 39) = true) (hk : itmK s.data.toList p (rawAt (cvt tab s.data.toList) p) = true) (hl : 100 < (itmT s.data.toList p (rawAt (cvt tab s.data.toList) p)).length) (w : World) :
    Calls Try.prog 44 #[txtV s tab, .int .i64 p] w fun e w' => Gives (errR 2) e ∧ Below w.heap.size w w' := by
  have HT := Lib.hid ht
  clear ht
  have hlen : Hid ((cvt tab s.data.toList).length = s.size) := by show _ = _; rw [cvt_len]; simp
  generalize hM : cvt tab s.data.toList = M at *
  have HM := Lib.hid hM
  clear hM
  have hc0 : 0 ≤ rawAt M p := by have := rawAt_neg M p; have := hlen.out; omega
  have hc1 := rawAt_hi M p
  have hw8 : IntKind.u8.wrap (rawAt M p) = rawAt M p := IntWalk.u8_in _ (by omega)
  have hsl := span_le alnum (M.drop p)
  have hsl2 := span_le isSym (M.drop p)
  rw [List.length_drop, hlen.out] at hsl hsl2
  have hln : decide ((100 : Int) < ((itmT s.data.toList p (rawAt M p)).length : Int)) = true := decide_eq_true (by omega)
  clear hl
  have hq : rawAt M p = 39 ∨ rawAt M p = 34 := by left; simpa using c39
  go_enter Try.func44, Try.ntmps44
  go_wp2_with (first | (refine wpList_box_txt rfl _ s tab rfl rfl ?_; intro b w1 T0 hle hB0; have T1 := T0.below ((Below.refl _ _).alloc (Nat.le_refl _) tokZero) T0.lt; unfold tokZero at T1) | (with_reducible refine at_load0 ?_; refine wpList_load_txt rfl _ rfl rfl T1 ?_))
  refine (txt_at_of s tab M HM HT _ p (by omega) _).mono ?_; rintro e w2 ⟨rfl, hB2⟩
  have hs0 := hB0.size
  have hbl := T0.lt
  have T2 := T1.below hB2 T1.lt
  have hBr : Below (w1.alloc tokZero).heap.size (w1.alloc tokZero) w2 := hB2
  have hl12 : w1.heap.size < w2.heap.size := Nat.lt_of_lt_of_le (by simp) hB2.size
  have hl13 : w1.heap.size < w2.heap.size + 1 := by omega
  obtain ⟨t0, t1, t2, t3, t4, t5, t6⟩ := tok_cells hBr (by simp)
  have hBw : Below w.heap.size w w2 := (hB0.alloc hs0 tokZero).trans (hBr.mono (by simp; omega))
  clear hB0 hB2 T1
  go_wp2_with fail
  refine (ref_class _ _).mono ?_; rintro e w3 ⟨rfl, rfl⟩
  have hcv := fun w' => conv_new1 (P := Try.prog) 44 9 5 Try.underlying44 Try.underlying5 Try.underlying9 (rawAt M p) hc0 hc1 w'
  go_wp2_with (first | (with_reducible refine at_load0 ?_; refine wpList_load_txt rfl _ rfl rfl (T2.below (two_new (Below.refl w2.heap.size w2) (Nat.le_refl _) _ _) T2.lt) ?_) | (with_reducible refine at_load1 ?_; refine wpList_load_txtG _ rfl rfl (T2.below (two_new (Below.refl w2.heap.size w2) (Nat.le_refl _) _ _) T2.lt) rfl ?_))
  refine (txt_item s tab p hp (rawAt M p) hq hsz _).mono ?_; rintro e w4 ⟨rfl, hB4⟩
  obtain ⟨g0, g1, g2, g3, g4, g5, g6, gl⟩ := cells_after hB4
  have hBx : Below w2.heap.size w2 w4 := (two_new (Below.refl w2.heap.size w2) (Nat.le_refl _) _ _).trans (hB4.mono (by simp; omega))
  clear t0 t1 t2 t3 t4 t5 t6
  obtain ⟨t0, t1, t2, t3, t4, t5, t6⟩ := tok_cells (hBr.trans (hBx.mono (by simp; omega))) (by simp)
  clear hq
  generalize hX : itmT s.data.toList p (rawAt M p) = X at *
  have HX := Lib.hid hX
  clear hX
  clear hBr T2 hcv
  have hBy := hBw.trans (hBx.mono (by omega))
  have hl4 : w2.heap.size ≤ w4.heap.size := by omega
  have hl14 : w1.heap.size < w4.heap.size := by omega
  go_wp2_with fail
  refine bodyPost_ret (v := tokTup (errR 2)) (by simp [tokTup, errR, results, Try.results44, go_sem, t0, t1, t2, t3, t4, t5]) rfl ⟨rfl, by repeat (first | with_reducible exact hBy | with_reducible refine Below.setCell ?_ (by dsimp only; omega) _ | with_reducible refine Below.alloc ?_ (by simp [World.setCell]; omega) _)⟩
set_option maxHeartbeats 1600000 in
theorem token_q34_no (s : ByteArray) (tab : Int → Int) (ht : TabOk tab) (p : Nat) (hp : p < s.size) (hsz : s.size ≤ 16384) (c46 : (rawAt (cvt tab s.data.toList) p == 46) = false) (k2 : (cls (rawAt (cvt tab s.data.toList) p) == 2) = false) (k3 : (cls (rawAt (cvt tab s.data.toList) p) == 3) = false) (k5 : (cls (rawAt (cvt tab s.data.toList) p) == 5) = false) (k4 : (cls (rawAt (cvt tab s.data.toList) p) == 4) = false) (c33 : (rawAt (cvt tab s.data.toList) p == 33) = false) (c59 : (rawAt (cvt tab s.data.toList) p == 59) = false) (k6 : (cls (rawAt (cvt tab s.data.toList) p) == 6) = false) (c39 : (rawAt (cvt tab s.data.toList) p == 39) = false) (c34 : (rawAt (cvt tab s.data.toList) p == 34) = true) (hk : itmK s.data.toList p (rawAt (cvt tab s.data.toList) p) = false) (w : World) :
    Calls Try.prog 44 #[txtV s tab, .int .i64 p] w fun e w' => Gives (errR 7) e ∧ Below w.heap.size w w' := by
  have HT := Lib.hid ht
  clear ht
  have hlen : Hid ((cvt tab s.data.toList).length = s.size) := by show _ = _; rw [cvt_len]; simp
  generalize hM : cvt tab s.data.toList = M at *
  have HM := Lib.hid hM
  clear hM
  have hc0 : 0 ≤ rawAt M p := by have := rawAt_neg M p; have := hlen.out; omega
  have hc1 := rawAt_hi M p
  have hw8 : IntKind.u8.wrap (rawAt M p) = rawAt M p := IntWalk.u8_in _ (by omega)
  have hsl := span_le alnum (M.drop p)
  have hsl2 := span_le isSym (M.drop p)
  rw [List.length_drop, hlen.out] at hsl hsl2
  have hq : rawAt M p = 39 ∨ rawAt M p = 34 := by right; simpa using c34
  go_enter Try.func44, Try.ntmps44
  go_wp2_with (first | (refine wpList_box_txt rfl _ s tab rfl rfl ?_; intro b w1 T0 hle hB0; have T1 := T0.below ((Below.refl _ _).alloc (Nat.le_refl _) tokZero) T0.lt; unfold tokZero at T1) | (with_reducible refine at_load0 ?_; refine wpList_load_txt rfl _ rfl rfl T1 ?_))
  refine (txt_at_of s tab M HM HT _ p (by omega) _).mono ?_; rintro e w2 ⟨rfl, hB2⟩
  have hs0 := hB0.size
  have hbl := T0.lt
  have T2 := T1.below hB2 T1.lt
  have hBr : Below (w1.alloc tokZero).heap.size (w1.alloc tokZero) w2 := hB2
  have hl12 : w1.heap.size < w2.heap.size := Nat.lt_of_lt_of_le (by simp) hB2.size
  have hl13 : w1.heap.size < w2.heap.size + 1 := by omega
  obtain ⟨t0, t1, t2, t3, t4, t5, t6⟩ := tok_cells hBr (by simp)
  have hBw : Below w.heap.size w w2 := (hB0.alloc hs0 tokZero).trans (hBr.mono (by simp; omega))
  clear hB0 hB2 T1
  go_wp2_with fail
  refine (ref_class _ _).mono ?_; rintro e w3 ⟨rfl, rfl⟩
  have hcv := fun w' => conv_new1 (P := Try.prog) 44 9 5 Try.underlying44 Try.underlying5 Try.underlying9 (rawAt M p) hc0 hc1 w'
  go_wp2_with (first | (with_reducible refine at_load0 ?_; refine wpList_load_txt rfl _ rfl rfl (T2.below (two_new (Below.refl w2.heap.size w2) (Nat.le_refl _) _ _) T2.lt) ?_) | (with_reducible refine at_load1 ?_; refine wpList_load_txtG _ rfl rfl (T2.below (two_new (Below.refl w2.heap.size w2) (Nat.le_refl _) _ _) T2.lt) rfl ?_))
  refine (txt_item s tab p hp (rawAt M p) hq hsz _).mono ?_; rintro e w4 ⟨rfl, hB4⟩
  obtain ⟨g0, g1, g2, g3, g4, g5, g6, gl⟩ := cells_after hB4
  have hBx : Below w2.heap.size w2 w4 := (two_new (Below.refl w2.heap.size w2) (Nat.le_refl _) _ _).trans (hB4.mono (by simp; omega))
  clear t0 t1 t2 t3 t4 t5 t6
  obtain ⟨t0, t1, t2, t3, t4, t5, t6⟩ := tok_cells (hBr.trans (hBx.mono (by simp; omega))) (by simp)
  clear hq
  generalize hX : itmT s.data.toList p (rawAt M p) = X at *
  have HX := Lib.hid hX
  clear hX
  clear hBr T2 hcv
  have hBy := hBw.trans (hBx.mono (by omega))
  have hl4 : w2.heap.size ≤ w4.heap.size := by omega
  have hl14 : w1.heap.size < w4.heap.size := by omega
  go_wp2_with fail
  refine bodyPost_ret (v := tokTup (errR 7)) (by simp [tokTup, errR, results, Try.results44, go_sem, t0, t1, t2, t3, t4, t5]) rfl ⟨rfl, by repeat (first | with_reducible exact hBy | with_reducible refine Below.setCell ?_ (by dsimp only; omega) _ | with_reducible refine Below.alloc ?_ (by simp [World.setCell]; omega) _)⟩
set_option maxHeartbeats 1600000 in
theorem token_q34_ok (s : ByteArray) (tab : Int → Int) (ht : TabOk tab) (p : Nat) (hp : p < s.size) (hsz : s.size ≤ 16384) (c46 : (rawAt (cvt tab s.data.toList) p == 46) = false) (k2 : (cls (rawAt (cvt tab s.data.toList) p) == 2) = false) (k3 : (cls (rawAt (cvt tab s.data.toList) p) == 3) = false) (k5 : (cls (rawAt (cvt tab s.data.toList) p) == 5) = false) (k4 : (cls (rawAt (cvt tab s.data.toList) p) == 4) = false) (c33 : (rawAt (cvt tab s.data.toList) p == 33) = false) (c59 : (rawAt (cvt tab s.data.toList) p == 59) = false) (k6 : (cls (rawAt (cvt tab s.data.toList) p) == 6) = false) (c39 : (rawAt (cvt tab s.data.toList) p == 39) = false) (c34 : (rawAt (cvt tab s.data.toList) p == 34) = true) (hk : itmK s.data.toList p (rawAt (cvt tab s.data.toList) p) = true) (hl : ¬100 < (itmT s.data.toList p (rawAt (cvt tab s.data.toList) p)).length) (w : World) :
    Calls Try.prog 44 #[txtV s tab, .int .i64 p] w fun e w' => Gives ⟨5, itmT s.data.toList p (rawAt (cvt tab s.data.toList) p), 0, p, itmE s.data.toList p (rawAt (cvt tab s.data.toList) p), 0⟩ e ∧ Below w.heap.size w w' := by
  have HT := Lib.hid ht
  clear ht
  have hlen : Hid ((cvt tab s.data.toList).length = s.size) := by show _ = _; rw [cvt_len]; simp
  generalize hM : cvt tab s.data.toList = M at *
  have HM := Lib.hid hM
  clear hM
  have hc0 : 0 ≤ rawAt M p := by have := rawAt_neg M p; have := hlen.out; omega
  have hc1 := rawAt_hi M p
  have hw8 : IntKind.u8.wrap (rawAt M p) = rawAt M p := IntWalk.u8_in _ (by omega)
  have hsl := span_le alnum (M.drop p)
  have hsl2 := span_le isSym (M.drop p)
  rw [List.length_drop, hlen.out] at hsl hsl2
  have hln : decide ((100 : Int) < ((itmT s.data.toList p (rawAt M p)).length : Int)) = false := decide_eq_false (by omega)
  clear hl
  have hq : rawAt M p = 39 ∨ rawAt M p = 34 := by right; simpa using c34
  go_enter Try.func44, Try.ntmps44
  go_wp2_with (first | (refine wpList_box_txt rfl _ s tab rfl rfl ?_; intro b w1 T0 hle hB0; have T1 := T0.below ((Below.refl _ _).alloc (Nat.le_refl _) tokZero) T0.lt; unfold tokZero at T1) | (with_reducible refine at_load0 ?_; refine wpList_load_txt rfl _ rfl rfl T1 ?_))
  refine (txt_at_of s tab M HM HT _ p (by omega) _).mono ?_; rintro e w2 ⟨rfl, hB2⟩
  have hs0 := hB0.size
  have hbl := T0.lt
  have T2 := T1.below hB2 T1.lt
  have hBr : Below (w1.alloc tokZero).heap.size (w1.alloc tokZero) w2 := hB2
  have hl12 : w1.heap.size < w2.heap.size := Nat.lt_of_lt_of_le (by simp) hB2.size
  have hl13 : w1.heap.size < w2.heap.size + 1 := by omega
  obtain ⟨t0, t1, t2, t3, t4, t5, t6⟩ := tok_cells hBr (by simp)
  have hBw : Below w.heap.size w w2 := (hB0.alloc hs0 tokZero).trans (hBr.mono (by simp; omega))
  clear hB0 hB2 T1
  go_wp2_with fail
  refine (ref_class _ _).mono ?_; rintro e w3 ⟨rfl, rfl⟩
  have hcv := fun w' => conv_new1 (P := Try.prog) 44 9 5 Try.underlying44 Try.underlying5 Try.underlying9 (rawAt M p) hc0 hc1 w'
  go_wp2_with (first | (with_reducible refine at_load0 ?_; refine wpList_load_txt rfl _ rfl rfl (T2.below (two_new (Below.refl w2.heap.size w2) (Nat.le_refl _) _ _) T2.lt) ?_) | (with_reducible refine at_load1 ?_; refine wpList_load_txtG _ rfl rfl (T2.below (two_new (Below.refl w2.heap.size w2) (Nat.le_refl _) _ _) T2.lt) rfl ?_))
  refine (txt_item s tab p hp (rawAt M p) hq hsz _).mono ?_; rintro e w4 ⟨rfl, hB4⟩
  obtain ⟨g0, g1, g2, g3, g4, g5, g6, gl⟩ := cells_after hB4
  have hBx : Below w2.heap.size w2 w4 := (two_new (Below.refl w2.heap.size w2) (Nat.le_refl _) _ _).trans (hB4.mono (by simp; omega))
  clear t0 t1 t2 t3 t4 t5 t6
  obtain ⟨t0, t1, t2, t3, t4, t5, t6⟩ := tok_cells (hBr.trans (hBx.mono (by simp; omega))) (by simp)
  clear hq
  generalize hX : itmT s.data.toList p (rawAt M p) = X at *
  have HX := Lib.hid hX
  clear hX
  clear hBr T2 hcv
  have hBy := hBw.trans (hBx.mono (by omega))
  have hl4 : w2.heap.size ≤ w4.heap.size := by omega
  have hl14 : w1.heap.size < w4.heap.size := by omega
  go_wp2_with fail
  refine bodyPost_ret (v := tokTup ⟨5, X, 0, p, itmE s.data.toList p (rawAt M p), 0⟩) (by simp [tokTup, results, Try.results44, go_sem, t0, t1, t2, t3, t4, t5]) rfl ⟨by rw [HX.out]; rfl, by repeat (first | with_reducible exact hBy | with_reducible refine Below.setCell ?_ (by dsimp only; omega) _ | with_reducible refine Below.alloc ?_ (by simp [World.setCell]; omega) _)⟩
set_option maxHeartbeats 1600000 in
theorem token_q34_long (s : ByteArray) (tab : Int → Int) (ht : TabOk tab) (p : Nat) (hp : p < s.size) (hsz : s.size ≤ 16384) (c46 : (rawAt (cvt tab s.data.toList) p == 46) = false) (k2 : (cls (rawAt (cvt tab s.data.toList) p) == 2) = false) (k3 : (cls (rawAt (cvt tab s.data.toList) p) == 3) = false) (k5 : (cls (rawAt (cvt tab s.data.toList) p) == 5) = false) (k4 : (cls (rawAt (cvt tab s.data.toList) p) == 4) = false) (c33 : (rawAt (cvt tab s.data.toList) p == 33) = false) (c59 : (rawAt (cvt tab s.data.toList) p == 59) = false) (k6 : (cls (rawAt (cvt tab s.data.toList) p) == 6) = false) (c39 : (rawAt (cvt tab s.data.toList) p == 39) = false) (c34 : (rawAt (cvt tab s.data.toList) p == 34) = true) (hk : itmK s.data.toList p (rawAt (cvt tab s.data.toList) p) = true) (hl : 100 < (itmT s.data.toList p (rawAt (cvt tab s.data.toList) p)).length) (w : World) :
    Calls Try.prog 44 #[txtV s tab, .int .i64 p] w fun e w' => Gives ⟨5, itmT s.data.toList p (rawAt (cvt tab s.data.toList) p), 0, p, itmE s.data.toList p (rawAt (cvt tab s.data.toList) p), 0⟩ e ∧ Below w.heap.size w w' := by
  have HT := Lib.hid ht
  clear ht
  have hlen : Hid ((cvt tab s.data.toList).length = s.size) := by show _ = _; rw [cvt_len]; simp
  generalize hM : cvt tab s.data.toList = M at *
  have HM := Lib.hid hM
  clear hM
  have hc0 : 0 ≤ rawAt M p := by have := rawAt_neg M p; have := hlen.out; omega
  have hc1 := rawAt_hi M p
  have hw8 : IntKind.u8.wrap (rawAt M p) = rawAt M p := IntWalk.u8_in _ (by omega)
  have hsl := span_le alnum (M.drop p)
  have hsl2 := span_le isSym (M.drop p)
  rw [List.length_drop, hlen.out] at hsl hsl2
  have hln : decide ((100 : Int) < ((itmT s.data.toList p (rawAt M p)).length : Int)) = true := decide_eq_true (by omega)
  clear hl
  have hq : rawAt M p = 39 ∨ rawAt M p = 34 := by right; simpa using c34
  go_enter Try.func44, Try.ntmps44
  go_wp2_with (first | (refine wpList_box_txt rfl _ s tab rfl rfl ?_; intro b w1 T0 hle hB0; have T1 := T0.below ((Below.refl _ _).alloc (Nat.le_refl _) tokZero) T0.lt; unfold tokZero at T1) | (with_reducible refine at_load0 ?_; refine wpList_load_txt rfl _ rfl rfl T1 ?_))
  refine (txt_at_of s tab M HM HT _ p (by omega) _).mono ?_; rintro e w2 ⟨rfl, hB2⟩
  have hs0 := hB0.size
  have hbl := T0.lt
  have T2 := T1.below hB2 T1.lt
  have hBr : Below (w1.alloc tokZero).heap.size (w1.alloc tokZero) w2 := hB2
  have hl12 : w1.heap.size < w2.heap.size := Nat.lt_of_lt_of_le (by simp) hB2.size
  have hl13 : w1.heap.size < w2.heap.size + 1 := by omega
  obtain ⟨t0, t1, t2, t3, t4, t5, t6⟩ := tok_cells hBr (by simp)
  have hBw : Below w.heap.size w w2 := (hB0.alloc hs0 tokZero).trans (hBr.mono (by simp; omega))
  clear hB0 hB2 T1
  go_wp2_with fail
  refine (ref_class _ _).mono ?_; rintro e w3 ⟨rfl, rfl⟩
  have hcv := fun w' => conv_new1 (P := Try.prog) 44 9 5 Try.underlying44 Try.underlying5 Try.underlying9 (rawAt M p) hc0 hc1 w'
  go_wp2_with (first | (with_reducible refine at_load0 ?_; refine wpList_load_txt rfl _ rfl rfl (T2.below (two_new (Below.refl w2.heap.size w2) (Nat.le_refl _) _ _) T2.lt) ?_) | (with_reducible refine at_load1 ?_; refine wpList_load_txtG _ rfl rfl (T2.below (two_new (Below.refl w2.heap.size w2) (Nat.le_refl _) _ _) T2.lt) rfl ?_))
  refine (txt_item s tab p hp (rawAt M p) hq hsz _).mono ?_; rintro e w4 ⟨rfl, hB4⟩
  obtain ⟨g0, g1, g2, g3, g4, g5, g6, gl⟩ := cells_after hB4
  have hBx : Below w2.heap.size w2 w4 := (two_new (Below.refl w2.heap.size w2) (Nat.le_refl _) _ _).trans (hB4.mono (by simp; omega))
  clear t0 t1 t2 t3 t4 t5 t6
  obtain ⟨t0, t1, t2, t3, t4, t5, t6⟩ := tok_cells (hBr.trans (hBx.mono (by simp; omega))) (by simp)
  clear hq
  generalize hX : itmT s.data.toList p (rawAt M p) = X at *
  have HX := Lib.hid hX
  clear hX
  clear hBr T2 hcv
  have hBy := hBw.trans (hBx.mono (by omega))
  have hl4 : w2.heap.size ≤ w4.heap.size := by omega
  have hl14 : w1.heap.size < w4.heap.size := by omega
  go_wp2_with fail
  refine bodyPost_ret (v := tokTup ⟨5, X, 0, p, itmE s.data.toList p (rawAt M p), 0⟩) (by simp [tokTup, results, Try.results44, go_sem, t0, t1, t2, t3, t4, t5]) rfl ⟨by rw [HX.out]; rfl, by repeat (first | with_reducible exact hBy | with_reducible refine Below.setCell ?_ (by dsimp only; omega) _ | with_reducible refine Below.alloc ?_ (by simp [World.setCell]; omega) _)⟩
end Go.Proofs.Ytmjeajfakhmakaa
