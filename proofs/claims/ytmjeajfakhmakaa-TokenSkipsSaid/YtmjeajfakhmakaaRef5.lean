/- Contracts of layer 9's reference: the text by value: item. -/
import Derived.Test.YtmjeajfakhmakaaRef4
import Derived.Test.YtmjeajfakhmakaaRefI
namespace Go.Proofs.Ytmjeajfakhmakaa
open Go.RowKit Hb
set_option maxRecDepth 100000

set_option maxHeartbeats 4000000 in
theorem txt_item (s : ByteArray) (tab : Int → Int) (p : Nat) (hp : p < s.size) (q : Int) (hq : q = 39 ∨ q = 34) (hsz : s.size ≤ 16384) (w : World) :
    Calls Try.prog 67 #[txtV s tab, .int .i64 p, .int .i64 q] w fun e w' => e = .returned (.tuple #[.string ⟨(itmT s.data.toList p q).toArray⟩, .int .i64 (itmE s.data.toList p q), .bool (itmK s.data.toList p q)]) ∧ Below w.heap.size w w' := by
  have hq0 : 0 ≤ q ∧ q ≤ 255 := by omega
  have HSZ : Hid (s.data.toList.length = s.size) := size_data s
  go_enter Try.func67, Try.ntmps67
  go_wp2_with (first | (refine wpList_box_txt rfl _ s tab rfl rfl ?_; intro b w1 T0 hle hB0))
  have hb0 := T0.lt
  go_loopw [1, 9] (fun i v wr => ∃ j : Nat, ∃ acc : List UInt8, p + 1 ≤ j ∧ j ≤ s.size ∧ i = .int .i64 j ∧ acc.length ≤ j ∧ Below w.heap.size w wr ∧ w1.heap.size ≤ wr.heap.size ∧ Txt wr b s tab ∧ wr.ownsRow w1.heap.size 5 1 v acc.length (byteCells acc) ∧ Hid (itemAt s.data.toList q acc j = itemAt s.data.toList q [] (p + 1))) (fun i _ _ => s.size - (intOf i).toNat)
  case atStart => exact ⟨p + 1, [], Nat.le_refl _, by omega, by go_num, by simp, hB0, Nat.le_refl _, T0, own_nil _ _ _ _, rfl⟩
  case round =>
    obtain ⟨j, acc, hj1, hj2, rfl, hal, hB, hw1, T, hown, HE⟩ := hrel
    have hs := hB.size
    have hs0 := hB0.size
    have hn0 := rawAt_neg s.data.toList j
    have hn1 := rawAt_neg s.data.toList (j + 1)
    rw [HSZ.out] at hn0 hn1
    by_cases a1 : rawAt s.data.toList j = q
    · have b1 : (rawAt s.data.toList j != q) = false := by simp [a1]
      by_cases a2 : rawAt s.data.toList (j + 1) = q
      · have b2 : (rawAt s.data.toList (j + 1) == q) = true := by simp [a2]
        have HQ := Lib.hid (quot_quote2 s.data.toList j q hq a1 a2)
        have HN := Lib.hid (itemAt_some s.data.toList q hq0 acc j 2 q (fun hh => hh.2 a2) (by omega) (by unfold quotedS; simp only [rawAt_drop, Nat.add_zero]; rw [if_neg (by omega), if_pos a1, if_pos a2]))
        have hj3 : j + 2 ≤ s.size := by omega
        clear a1 a2 hn0 hn1
        go_wp2_with (first | (with_reducible refine at_load0 ?_; refine wpList_load_txt rfl _ rfl rfl T ?_) | (with_reducible refine at_load1 ?_; refine wpList_load_txtG _ rfl rfl T rfl ?_))
        refine (txt_raw_of s tab _ (j) (by omega) _).mono ?_; rintro e w5 ⟨rfl, hB5⟩
        have T5 := T.below hB5 T.lt
        go_wp2_with (first | (with_reducible refine at_load0 ?_; refine wpList_load_txt rfl _ rfl rfl T5 ?_) | (with_reducible refine at_load1 ?_; refine wpList_load_txtG _ rfl rfl T5 rfl ?_))
        refine (txt_raw_of s tab _ (j + 1) (by omega) _).mono ?_; rintro e w6 ⟨rfl, hB6⟩
        have T6 := T5.below hB6 T5.lt
        go_wp2_with (first | (with_reducible refine at_load0 ?_; refine wpList_load_txt rfl _ rfl rfl T6 ?_) | (with_reducible refine at_load1 ?_; refine wpList_load_txtG _ rfl rfl T6 rfl ?_))
        refine (txt_quoted s tab (j) (by omega) q hq hsz _).mono ?_; rintro e w7 ⟨rfl, hB7⟩; rw [HQ.out.c, HQ.out.e, HQ.out.k]
        have T7 := T6.below hB7 T6.lt
        have hBy := hB.trans (trans3 (by omega) hB5 hB6 hB7)
        have hs3 : w1.heap.size ≤ w7.heap.size := Nat.le_trans hw1 (Nat.le_trans hB5.size (Nat.le_trans hB6.size hB7.size))
        have hc0 := hq0.1
        have hc1 := hq0.2
        have hx := own_call (own_call (own_call hown hB5 (Nat.le_refl _)) hB6 (Nat.le_refl _)) hB7 (Nat.le_refl _)
        have hcl : acc.length ≤ 16384 := by omega
        clear hown
        go_wp2_with (at_builtin; go_must (refine wpList_append_byte rfl _ _ 44 5 rfl Try.underlying44 infoU8 w1.heap.size _ _ _ rfl _ hx _ hc0 hc1 rfl rfl (by omega) (by omega) ?_; intro v1 w8 hown1 hB8))
        go_roundw
        case rel => exact ⟨j + 2, acc ++ [(q).toNat.toUInt8], by omega, by omega, by go_num, by simp; omega, hBy.trans (hB8.mono (by omega)), Nat.le_trans hs3 hB8.size, T7.below hB8 (by omega), by rw [List.length_append]; exact hown1, HN.out.symm.trans HE.out⟩
        case measure => simp [intOf]; omega
      · have b2 : (rawAt s.data.toList (j + 1) == q) = false := by simp [a2]
        have HI := Lib.hid (itm_some s.data.toList p q acc j (HE.out.symm.trans (itemAt_end s.data.toList q hq0 acc j a1 a2)))
        clear a1 a2 hn0 hn1
        go_wp2_with (first | (with_reducible refine at_load0 ?_; refine wpList_load_txt rfl _ rfl rfl T ?_) | (with_reducible refine at_load1 ?_; refine wpList_load_txtG _ rfl rfl T rfl ?_))
        refine (txt_raw_of s tab _ (j) (by omega) _).mono ?_; rintro e w5 ⟨rfl, hB5⟩
        have T5 := T.below hB5 T.lt
        go_wp2_with (first | (with_reducible refine at_load0 ?_; refine wpList_load_txt rfl _ rfl rfl T5 ?_) | (with_reducible refine at_load1 ?_; refine wpList_load_txtG _ rfl rfl T5 rfl ?_))
        refine (txt_raw_of s tab _ (j + 1) (by omega) _).mono ?_; rintro e w6 ⟨rfl, hB6⟩
        have T6 := T5.below hB6 T5.lt
        have hx := own_call (own_call hown hB5 (Nat.le_refl _)) hB6 (Nat.le_refl _)
        have hc := conv_own (P := Try.prog) w6 44 9 5 Try.underlying44 Try.underlying5 Try.underlying9 _ _ acc.length _ hx
        go_wp2_with fail
        refine bodyPost_ret (v := .tuple #[.string ⟨acc.toArray⟩, .int .i64 (j + 1 : Nat), .bool true]) (by simp [results, Try.results67, go_sem]) rfl ⟨by rw [HI.out.t, HI.out.e, HI.out.k], hB.trans (trans2 (by omega) hB5 hB6)⟩
    have b1 : (rawAt s.data.toList j != q) = true := by simp [a1]
    by_cases a3 : rawAt s.data.toList j = 92 ∧ rawAt s.data.toList (j + 1) = 10
    · have HQ := Lib.hid (quot_cont s.data.toList j q a3.1 a3.2)
      have HN := Lib.hid (itemAt_cont s.data.toList q hq0 acc j (fun hh => a1 hh.1) a3.1 a3.2)
      have hj3 : j + 2 ≤ s.size := by omega
      clear a1 a3 hn0 hn1
      go_wp2_with (first | (with_reducible refine at_load0 ?_; refine wpList_load_txt rfl _ rfl rfl T ?_) | (with_reducible refine at_load1 ?_; refine wpList_load_txtG _ rfl rfl T rfl ?_))
      refine (txt_raw_of s tab _ (j) (by omega) _).mono ?_; rintro e w5 ⟨rfl, hB5⟩
      have T5 := T.below hB5 T.lt
      go_wp2_with (first | (with_reducible refine at_load0 ?_; refine wpList_load_txt rfl _ rfl rfl T5 ?_) | (with_reducible refine at_load1 ?_; refine wpList_load_txtG _ rfl rfl T5 rfl ?_))
      refine (txt_quoted s tab (j) (by omega) q hq hsz _).mono ?_; rintro e w7 ⟨rfl, hB7⟩; rw [HQ.out.c, HQ.out.e, HQ.out.k]
      have T7 := T5.below hB7 T5.lt
      have hBy := hB.trans (trans2 (by omega) hB5 hB7)
      have hs3 : w1.heap.size ≤ w7.heap.size := Nat.le_trans hw1 (Nat.le_trans hB5.size hB7.size)
      have hx := own_call (own_call hown hB5 (Nat.le_refl _)) hB7 (Nat.le_refl _)
      clear hown
      go_wp2_with fail
      go_roundw
      case rel => exact ⟨j + 2, acc, by omega, by omega, by go_num, by omega, hBy, hs3, T7, hx, HN.out.symm.trans HE.out⟩
      case measure => simp [intOf]; omega
    cases hqs : quotedS (s.data.toList.drop j) q with
    | none =>
      have HQ := Lib.hid (quot_none s.data.toList j q a3 hqs)
      have HI := Lib.hid (itm_none s.data.toList p q (HE.out.symm.trans (itemAt_none s.data.toList q hq0 acc j (fun hh => a1 hh.1) a3 hqs)))
      clear a1 a3 hn0 hn1 hqs
      go_wp2_with (first | (with_reducible refine at_load0 ?_; refine wpList_load_txt rfl _ rfl rfl T ?_) | (with_reducible refine at_load1 ?_; refine wpList_load_txtG _ rfl rfl T rfl ?_))
      refine (txt_raw_of s tab _ (j) (by omega) _).mono ?_; rintro e w5 ⟨rfl, hB5⟩
      have T5 := T.below hB5 T.lt
      go_wp2_with (first | (with_reducible refine at_load0 ?_; refine wpList_load_txt rfl _ rfl rfl T5 ?_) | (with_reducible refine at_load1 ?_; refine wpList_load_txtG _ rfl rfl T5 rfl ?_))
      refine (txt_quoted s tab (j) (by omega) q hq hsz _).mono ?_; rintro e w7 ⟨rfl, hB7⟩; rw [HQ.out.c, HQ.out.e, HQ.out.k]
      have T7 := T5.below hB7 T5.lt
      go_wp2_with fail
      refine bodyPost_ret (v := .tuple #[.string ⟨#[]⟩, .int .i64 (0 : Nat), .bool false]) (by simp [results, Try.results67, go_sem]) rfl ⟨by rw [HI.out.t, HI.out.e, HI.out.k], hB.trans (trans2 (by omega) hB5 hB7)⟩
    | some ck =>
      obtain ⟨c, n⟩ := ck
      obtain ⟨k1, k2, hc0, hc1⟩ := quotedS_ok _ _ _ _ hq0 hqs
      rw [List.length_drop, HSZ.out] at k2
      have HQ := Lib.hid (quot_some s.data.toList j q c n a3 hqs)
      have HN := Lib.hid (itemAt_some s.data.toList q hq0 acc j n c (fun hh => a1 hh.1) a3 hqs)
      have hj3 : j + n ≤ s.size := by omega
      clear a1 a3 hn0 hn1 hqs k2
      go_wp2_with (first | (with_reducible refine at_load0 ?_; refine wpList_load_txt rfl _ rfl rfl T ?_) | (with_reducible refine at_load1 ?_; refine wpList_load_txtG _ rfl rfl T rfl ?_))
      refine (txt_raw_of s tab _ (j) (by omega) _).mono ?_; rintro e w5 ⟨rfl, hB5⟩
      have T5 := T.below hB5 T.lt
      go_wp2_with (first | (with_reducible refine at_load0 ?_; refine wpList_load_txt rfl _ rfl rfl T5 ?_) | (with_reducible refine at_load1 ?_; refine wpList_load_txtG _ rfl rfl T5 rfl ?_))
      refine (txt_quoted s tab (j) (by omega) q hq hsz _).mono ?_; rintro e w7 ⟨rfl, hB7⟩; rw [HQ.out.c, HQ.out.e, HQ.out.k]
      have T7 := T5.below hB7 T5.lt
      have hBy := hB.trans (trans2 (by omega) hB5 hB7)
      have hs3 : w1.heap.size ≤ w7.heap.size := Nat.le_trans hw1 (Nat.le_trans hB5.size hB7.size)
      have hx := own_call (own_call hown hB5 (Nat.le_refl _)) hB7 (Nat.le_refl _)
      have hcl : acc.length ≤ 16384 := by omega
      clear hown
      go_wp2_with (at_builtin; go_must (refine wpList_append_byte rfl _ _ 44 5 rfl Try.underlying44 infoU8 w1.heap.size _ _ _ rfl _ hx _ hc0 hc1 rfl rfl (by omega) (by omega) ?_; intro v1 w8 hown1 hB8))
      go_roundw
      case rel => exact ⟨j + n, acc ++ [(c).toNat.toUInt8], by omega, by omega, by go_num, by simp; omega, hBy.trans (hB8.mono (by omega)), Nat.le_trans hs3 hB8.size, T7.below hB8 (by omega), by rw [List.length_append]; exact hown1, HN.out.symm.trans HE.out⟩
      case measure => simp [intOf]; omega
end Go.Proofs.Ytmjeajfakhmakaa
