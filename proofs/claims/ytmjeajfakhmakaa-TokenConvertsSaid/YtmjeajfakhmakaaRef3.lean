/- Contracts of layer 9's reference: the text by value: run. -/
import Derived.Test.YtmjeajfakhmakaaRef2
import Derived.Test.YtmjeajfakhmakaaAll
namespace Go.Proofs.Ytmjeajfakhmakaa
open Go.RowKit Hb
set_option maxRecDepth 100000

theorem span_step (q : Int → Bool) (M : List UInt8) (k j : Nat) (hk : k ≤ j) (hj : j < M.length) (h : (j - k) + span q (M.drop j) = span q (M.drop k)) (h2 : q (rawAt M j) = true) : (j + 1 - k) + span q (M.drop (j + 1)) = span q (M.drop k) := by
  rw [span_yes q M j hj (by rw [← rawAt_in _ _ hj]; exact h2)] at h; omega
theorem span_fin (q : Int → Bool) (M : List UInt8) (k j : Nat) (h : (j - k) + span q (M.drop j) = span q (M.drop k)) (h2 : M.length ≤ j ∨ q (rawAt M j) = false) : j - k = span q (M.drop k) := by
  by_cases hj : j < M.length
  · rw [span_no q M j hj (by rw [← rawAt_in _ _ hj]; exact h2.resolve_left (by omega))] at h; omega
  · rw [span_end q M j (by omega)] at h; omega
theorem own_call {w w' : World} {base e size : Nat} {v : Value} {n : Nat} {xs : List Value} (h : w.ownsRow base e size v n xs) {B : Nat} (hB : Below B w w') (hb : w.heap.size ≤ B) : w'.ownsRow base e size v n xs := by
  refine ⟨h.1, ?_⟩
  rcases h.2 with hn | ⟨g, cap, cur, hv, hbg, hh, rest⟩
  · exact .inl hn
  · exact .inr ⟨g, cap, cur, hv, hbg, (hB.block g (Nat.lt_of_lt_of_le (by rw [Array.getElem?_eq_some_iff] at hh; exact hh.1) hb)).trans hh, rest⟩

set_option maxHeartbeats 4000000 in
theorem txt_run_alnum (s : ByteArray) (tab : Int → Int) (ht : TabOk tab) (k0 : Nat) (hsz : s.size ≤ 16384) (hk0 : k0 ≤ s.size) (w : World) :
    Calls Try.prog 65 #[txtV s tab, .int .i64 k0, .int .i64 0] w fun e w' => e = .returned (.tuple #[.string ⟨(((cvt tab s.data.toList).drop k0).take (span alnum ((cvt tab s.data.toList).drop k0))).toArray⟩, .int .i64 (k0 + span alnum ((cvt tab s.data.toList).drop k0) : Nat)]) ∧ Below w.heap.size w w' := by
  have HT := Lib.hid ht
  clear ht
  have hlen : Hid ((cvt tab s.data.toList).length = s.size) := by show _ = _; rw [cvt_len]; simp
  generalize hM : cvt tab s.data.toList = M at *
  have HM := Lib.hid hM
  clear hM
  go_enter Try.func65, Try.ntmps65
  go_wp2_with (refine wpList_box_txt rfl _ s tab rfl rfl ?_; intro b w1 T0 hle hB0)
  have hb0 := T0.lt
  go_loopw [1, 8] (fun i v wr => ∃ k : Nat, k0 ≤ k ∧ k ≤ s.size ∧ i = .int .i64 k ∧ Below w.heap.size w wr ∧ w1.heap.size ≤ wr.heap.size ∧ Txt wr b s tab ∧ wr.ownsRow w1.heap.size 5 1 v (k - k0) (byteCells ((M.drop k0).take (k - k0))) ∧ Hid ((k - k0) + span alnum (M.drop k) = span alnum (M.drop k0))) (fun i _ _ => s.size - (intOf i).toNat)
  case atStart => exact ⟨k0, Nat.le_refl _, hk0, rfl, hB0, Nat.le_refl _, T0, by rw [Nat.sub_self]; exact own_nil _ _ _ _, by show _ = _; omega⟩
  case round =>
    obtain ⟨k, hk1, hk2, rfl, hB, hw1, T, hown, HE⟩ := hrel
    have hs := hB.size
    have hs0 := hB0.size
    by_cases hlt : k < s.size
    · have hkl : k < M.length := by rw [hlen.out]; exact hlt
      have d0 : decide (rawAt M k ≥ 0) = true := by have := rawAt_neg M k; simp; omega
      by_cases a1 : alnum (rawAt M k) = true
      · have HS := Lib.hid (span_step alnum M k0 k hk1 hkl HE.out a1)
        have b1 := a1
        have hb0 : 0 ≤ rawAt M k := by simpa using d0
        have hb1 : rawAt M k ≤ 255 := rawAt_hi M k
        have HTk := Lib.hid (show (M.drop k0).take (k + 1 - k0) = (M.drop k0).take (k - k0) ++ [(rawAt M k).toNat.toUInt8] by rw [show k + 1 - k0 = (k - k0) + 1 by omega, take_drop_snoc _ _ _ (by omega), show k0 + (k - k0) = k by omega, rawAt_in _ _ hkl])
        clear a1
        go_wp2_with (first | (with_reducible refine at_load0 ?_; refine wpList_load_txt rfl _ rfl rfl T ?_) | (with_reducible refine at_load1 ?_; refine wpList_load_txtG _ rfl rfl T rfl ?_))
        refine (txt_at_of s tab M HM HT _ (k) (by omega) _).mono ?_; rintro e w2 ⟨rfl, hB2⟩
        have T2 := T.below hB2 T.lt
        go_wp2_with (first | (with_reducible refine at_load0 ?_; refine wpList_load_txt rfl _ rfl rfl T2 ?_) | (with_reducible refine at_load1 ?_; refine wpList_load_txtG _ rfl rfl T2 rfl ?_))
        refine (txt_at_of s tab M HM HT _ (k) (by omega) _).mono ?_; rintro e w3 ⟨rfl, hB3⟩
        have T3 := T2.below hB3 T2.lt
        have hx := own_call (own_call hown hB2 (Nat.le_refl _)) hB3 (Nat.le_refl _)
        have hB4 := hB.trans (trans2 (by omega) hB2 hB3)
        have hs3 : w1.heap.size ≤ w3.heap.size := Nat.le_trans hw1 (Nat.le_trans hB2.size hB3.size)
        clear hown hB2 hB3 T T2 hB
        go_wp2_with fail
        refine (ref_alnum _ _).mono ?_; rintro e w4 ⟨rfl, rfl⟩
        go_wp2_with (at_builtin; go_must (refine wpList_append_byte rfl _ _ 44 5 rfl Try.underlying44 infoU8 w1.heap.size _ _ _ rfl _ hx _ hb0 hb1 rfl rfl (by omega) (by omega) ?_; intro v1 w5 hown1 hB5))
        go_roundw
        case rel => exact ⟨k + 1, by omega, by omega, by go_num, hB4.trans (hB5.mono (by omega)), Nat.le_trans hs3 hB5.size, T3.below hB5 (by omega), by rw [HTk.out, show k + 1 - k0 = k - k0 + 1 by omega]; exact hown1, HS⟩
        case measure => simp [intOf]; omega
      · have HF := Lib.hid (span_fin alnum M k0 k HE.out (.inr (by simpa using a1)))
        have b1 : alnum (rawAt M k) = false := by simpa using a1
        have hkk := Lib.hid (show k = k0 + span alnum (M.drop k0) by have := HF.out; omega)
        clear a1
        go_wp2_with (first | (with_reducible refine at_load0 ?_; refine wpList_load_txt rfl _ rfl rfl T ?_) | (with_reducible refine at_load1 ?_; refine wpList_load_txtG _ rfl rfl T rfl ?_))
        refine (txt_at_of s tab M HM HT _ (k) (by omega) _).mono ?_; rintro e w2 ⟨rfl, hB2⟩
        have T2 := T.below hB2 T.lt
        go_wp2_with (first | (with_reducible refine at_load0 ?_; refine wpList_load_txt rfl _ rfl rfl T2 ?_) | (with_reducible refine at_load1 ?_; refine wpList_load_txtG _ rfl rfl T2 rfl ?_))
        refine (txt_at_of s tab M HM HT _ (k) (by omega) _).mono ?_; rintro e w3 ⟨rfl, hB3⟩
        have T3 := T2.below hB3 T2.lt
        have hx := own_call (own_call hown hB2 (Nat.le_refl _)) hB3 (Nat.le_refl _)
        go_wp2_with fail
        refine (ref_alnum _ _).mono ?_; rintro e w4 ⟨rfl, rfl⟩
        have hc := conv_own (P := Try.prog) w3 44 9 5 Try.underlying44 Try.underlying5 Try.underlying9 _ _ (k - k0) _ hx
        go_wp2_with fail
        refine bodyPost_ret (v := .tuple #[.string ⟨((M.drop k0).take (k - k0)).toArray⟩, .int .i64 (k : Int)]) (by simp [results, Try.results65, go_sem]) rfl ⟨by rw [HF.out, ← hkk.out], hB.trans (trans2 (by omega) hB2 hB3)⟩
    · obtain rfl : k = s.size := by omega
      have HF := Lib.hid (span_fin alnum M k0 s.size HE.out (.inl (by rw [hlen.out]; exact Nat.le_refl _)))
      have hkk := Lib.hid (show s.size = k0 + span alnum (M.drop k0) by have := HF.out; omega)
      have HR := rawAt_out M s.size (by rw [hlen.out]; exact Nat.le_refl _)
      have d0 : decide (rawAt M s.size ≥ 0) = false := by rw [HR]; rfl
      clear HR
      go_wp2_with (first | (with_reducible refine at_load0 ?_; refine wpList_load_txt rfl _ rfl rfl T ?_) | (with_reducible refine at_load1 ?_; refine wpList_load_txtG _ rfl rfl T rfl ?_))
      refine (txt_at_of s tab M HM HT _ (s.size) (by omega) _).mono ?_; rintro e w2 ⟨rfl, hB2⟩
      have T2 := T.below hB2 T.lt
      have hx := own_call hown hB2 (Nat.le_refl _)
      have hc := conv_own (P := Try.prog) w2 44 9 5 Try.underlying44 Try.underlying5 Try.underlying9 _ _ (s.size - k0) _ hx
      go_wp2_with fail
      refine bodyPost_ret (v := .tuple #[.string ⟨((M.drop k0).take (s.size - k0)).toArray⟩, .int .i64 (s.size : Int)]) (by simp [results, Try.results65, go_sem]) rfl ⟨by rw [HF.out, ← hkk.out], hB.trans (hB2.mono (by omega))⟩
set_option maxHeartbeats 4000000 in
theorem txt_run_sym (s : ByteArray) (tab : Int → Int) (ht : TabOk tab) (k0 : Nat) (hsz : s.size ≤ 16384) (hk0 : k0 ≤ s.size) (w : World) :
    Calls Try.prog 65 #[txtV s tab, .int .i64 k0, .int .i64 5] w fun e w' => e = .returned (.tuple #[.string ⟨(((cvt tab s.data.toList).drop k0).take (span isSym ((cvt tab s.data.toList).drop k0))).toArray⟩, .int .i64 (k0 + span isSym ((cvt tab s.data.toList).drop k0) : Nat)]) ∧ Below w.heap.size w w' := by
  have HT := Lib.hid ht
  clear ht
  have hlen : Hid ((cvt tab s.data.toList).length = s.size) := by show _ = _; rw [cvt_len]; simp
  generalize hM : cvt tab s.data.toList = M at *
  have HM := Lib.hid hM
  clear hM
  go_enter Try.func65, Try.ntmps65
  go_wp2_with (refine wpList_box_txt rfl _ s tab rfl rfl ?_; intro b w1 T0 hle hB0)
  have hb0 := T0.lt
  go_loopw [1, 8] (fun i v wr => ∃ k : Nat, k0 ≤ k ∧ k ≤ s.size ∧ i = .int .i64 k ∧ Below w.heap.size w wr ∧ w1.heap.size ≤ wr.heap.size ∧ Txt wr b s tab ∧ wr.ownsRow w1.heap.size 5 1 v (k - k0) (byteCells ((M.drop k0).take (k - k0))) ∧ Hid ((k - k0) + span isSym (M.drop k) = span isSym (M.drop k0))) (fun i _ _ => s.size - (intOf i).toNat)
  case atStart => exact ⟨k0, Nat.le_refl _, hk0, rfl, hB0, Nat.le_refl _, T0, by rw [Nat.sub_self]; exact own_nil _ _ _ _, by show _ = _; omega⟩
  case round =>
    obtain ⟨k, hk1, hk2, rfl, hB, hw1, T, hown, HE⟩ := hrel
    have hs := hB.size
    have hs0 := hB0.size
    by_cases hlt : k < s.size
    · have hkl : k < M.length := by rw [hlen.out]; exact hlt
      have d0 : decide (rawAt M k ≥ 0) = true := by have := rawAt_neg M k; simp; omega
      by_cases a1 : isSym (rawAt M k) = true
      · have HS := Lib.hid (span_step isSym M k0 k hk1 hkl HE.out a1)
        have b1 : (cls (rawAt M k) != 5) = false := by unfold isSym at a1; simpa using a1
        have hb0 : 0 ≤ rawAt M k := by simpa using d0
        have hb1 : rawAt M k ≤ 255 := rawAt_hi M k
        have HTk := Lib.hid (show (M.drop k0).take (k + 1 - k0) = (M.drop k0).take (k - k0) ++ [(rawAt M k).toNat.toUInt8] by rw [show k + 1 - k0 = (k - k0) + 1 by omega, take_drop_snoc _ _ _ (by omega), show k0 + (k - k0) = k by omega, rawAt_in _ _ hkl])
        clear a1
        go_wp2_with (first | (with_reducible refine at_load0 ?_; refine wpList_load_txt rfl _ rfl rfl T ?_) | (with_reducible refine at_load1 ?_; refine wpList_load_txtG _ rfl rfl T rfl ?_))
        refine (txt_at_of s tab M HM HT _ (k) (by omega) _).mono ?_; rintro e w2 ⟨rfl, hB2⟩
        have T2 := T.below hB2 T.lt
        go_wp2_with (first | (with_reducible refine at_load0 ?_; refine wpList_load_txt rfl _ rfl rfl T2 ?_) | (with_reducible refine at_load1 ?_; refine wpList_load_txtG _ rfl rfl T2 rfl ?_))
        refine (txt_at_of s tab M HM HT _ (k) (by omega) _).mono ?_; rintro e w3 ⟨rfl, hB3⟩
        have T3 := T2.below hB3 T2.lt
        have hx := own_call (own_call hown hB2 (Nat.le_refl _)) hB3 (Nat.le_refl _)
        have hB4 := hB.trans (trans2 (by omega) hB2 hB3)
        have hs3 : w1.heap.size ≤ w3.heap.size := Nat.le_trans hw1 (Nat.le_trans hB2.size hB3.size)
        clear hown hB2 hB3 T T2 hB
        go_wp2_with fail
        refine (ref_class _ _).mono ?_; rintro e w4 ⟨rfl, rfl⟩
        go_wp2_with (at_builtin; go_must (refine wpList_append_byte rfl _ _ 44 5 rfl Try.underlying44 infoU8 w1.heap.size _ _ _ rfl _ hx _ hb0 hb1 rfl rfl (by omega) (by omega) ?_; intro v1 w5 hown1 hB5))
        go_roundw
        case rel => exact ⟨k + 1, by omega, by omega, by go_num, hB4.trans (hB5.mono (by omega)), Nat.le_trans hs3 hB5.size, T3.below hB5 (by omega), by rw [HTk.out, show k + 1 - k0 = k - k0 + 1 by omega]; exact hown1, HS⟩
        case measure => simp [intOf]; omega
      · have HF := Lib.hid (span_fin isSym M k0 k HE.out (.inr (by simpa using a1)))
        have b1 : (cls (rawAt M k) != 5) = true := by unfold isSym at a1; simpa using a1
        have hkk := Lib.hid (show k = k0 + span isSym (M.drop k0) by have := HF.out; omega)
        clear a1
        go_wp2_with (first | (with_reducible refine at_load0 ?_; refine wpList_load_txt rfl _ rfl rfl T ?_) | (with_reducible refine at_load1 ?_; refine wpList_load_txtG _ rfl rfl T rfl ?_))
        refine (txt_at_of s tab M HM HT _ (k) (by omega) _).mono ?_; rintro e w2 ⟨rfl, hB2⟩
        have T2 := T.below hB2 T.lt
        go_wp2_with (first | (with_reducible refine at_load0 ?_; refine wpList_load_txt rfl _ rfl rfl T2 ?_) | (with_reducible refine at_load1 ?_; refine wpList_load_txtG _ rfl rfl T2 rfl ?_))
        refine (txt_at_of s tab M HM HT _ (k) (by omega) _).mono ?_; rintro e w3 ⟨rfl, hB3⟩
        have T3 := T2.below hB3 T2.lt
        have hx := own_call (own_call hown hB2 (Nat.le_refl _)) hB3 (Nat.le_refl _)
        go_wp2_with fail
        refine (ref_class _ _).mono ?_; rintro e w4 ⟨rfl, rfl⟩
        have hc := conv_own (P := Try.prog) w3 44 9 5 Try.underlying44 Try.underlying5 Try.underlying9 _ _ (k - k0) _ hx
        go_wp2_with fail
        refine bodyPost_ret (v := .tuple #[.string ⟨((M.drop k0).take (k - k0)).toArray⟩, .int .i64 (k : Int)]) (by simp [results, Try.results65, go_sem]) rfl ⟨by rw [HF.out, ← hkk.out], hB.trans (trans2 (by omega) hB2 hB3)⟩
    · obtain rfl : k = s.size := by omega
      have HF := Lib.hid (span_fin isSym M k0 s.size HE.out (.inl (by rw [hlen.out]; exact Nat.le_refl _)))
      have hkk := Lib.hid (show s.size = k0 + span isSym (M.drop k0) by have := HF.out; omega)
      have HR := rawAt_out M s.size (by rw [hlen.out]; exact Nat.le_refl _)
      have d0 : decide (rawAt M s.size ≥ 0) = false := by rw [HR]; rfl
      clear HR
      go_wp2_with (first | (with_reducible refine at_load0 ?_; refine wpList_load_txt rfl _ rfl rfl T ?_) | (with_reducible refine at_load1 ?_; refine wpList_load_txtG _ rfl rfl T rfl ?_))
      refine (txt_at_of s tab M HM HT _ (s.size) (by omega) _).mono ?_; rintro e w2 ⟨rfl, hB2⟩
      have T2 := T.below hB2 T.lt
      have hx := own_call hown hB2 (Nat.le_refl _)
      have hc := conv_own (P := Try.prog) w2 44 9 5 Try.underlying44 Try.underlying5 Try.underlying9 _ _ (s.size - k0) _ hx
      go_wp2_with fail
      refine bodyPost_ret (v := .tuple #[.string ⟨((M.drop k0).take (s.size - k0)).toArray⟩, .int .i64 (s.size : Int)]) (by simp [results, Try.results65, go_sem]) rfl ⟨by rw [HF.out, ← hkk.out], hB.trans (hB2.mono (by omega))⟩
end Go.Proofs.Ytmjeajfakhmakaa
