/- Contracts of layer 9's reference: the text by value: gap. -/
import Derived.Test.YtmjeajfakhmakaaRef1
import Derived.Test.YtmjeajfakhmakaaRefS
import Derived.Test.YtmjeajfakhmakaaLex4
namespace Go.Proofs.Ytmjeajfakhmakaa
open Go.RowKit Hb
set_option maxRecDepth 100000

theorem txt_at_of (s : ByteArray) (tab : Int → Int) (M : List UInt8) (hM : Hid (cvt tab s.data.toList = M)) (ht : Hid (TabOk tab)) (i : Int) (k : Nat) (hi : i = k) (w : World) :
    Calls Try.prog 62 #[txtV s tab, .int .i64 i] w fun e w' => e = .returned (.int .i64 (rawAt M k)) ∧ Below w.heap.size w w' := by
  rw [← hM.out, hi]; exact txt_at s tab ht.out k w
theorem txt_raw_of (s : ByteArray) (tab : Int → Int) (i : Int) (k : Nat) (hi : i = k) (w : World) :
    Calls Try.prog 78 #[txtV s tab, .int .i64 i] w fun e w' => e = .returned (.int .i64 (rawAt s.data.toList k)) ∧ Below w.heap.size w w' := by
  rw [hi]; exact txt_raw s tab k w
/-- The whole text is loaded, behind a guard. -/
theorem wpList_load_txtG {ops : Array Oper} {rest : List Oper} {o : Oper} {a : Act} {Q : Exit → Act → World → Prop} {w : World} (x : Operand) {b : Nat} {s : ByteArray} {tab : Int → Int}
    (ho : o.op = .load 52 x) (hx : a.eval x = .pointer (some ⟨b, 0, none⟩)) (T : Txt w b s tab) (hw : Region.wanted o (yielded ops a.tmps) = true)
    (h : wpList Try.prog ops Q rest (a.put o.dst (txtV s tab)) w) : wpList Try.prog ops Q (o :: rest) a w :=
  wpList_step fun _ hK => by
    rw [if_pos hw]
    exact wp_load_row _ x ho b hx _ _ _ _ T.blk Try.underlying52 rfl (by rw [infoTxt, txtCells_size]) (hK _ _ h)
theorem at_load0 {ops : Array Oper} {rest : List Oper} {a : Act} {Q : Exit → Act → World → Prop} {w : World} {d t p f x} (h : wpList Try.prog ops Q (⟨d, .load 52 x, t, p, f, none⟩ :: rest) a w) : wpList Try.prog ops Q (⟨d, .load 52 x, t, p, f, none⟩ :: rest) a w := h
theorem at_load1 {ops : Array Oper} {rest : List Oper} {a : Act} {Q : Exit → Act → World → Prop} {w : World} {d t p f x g} (h : wpList Try.prog ops Q (⟨d, .load 52 x, t, p, f, some g⟩ :: rest) a w) : wpList Try.prog ops Q (⟨d, .load 52 x, t, p, f, some g⟩ :: rest) a w := h
theorem pct_step (M : List UInt8) (k j : Nat) (hk : k ≤ j) (hj : j < M.length) (h : (j - k) + span notNl (M.drop j) = span notNl (M.drop k)) (h2 : ¬rawAt M j = 10) : (j + 1 - k) + span notNl (M.drop (j + 1)) = span notNl (M.drop k) := by
  rw [span_yes notNl M j hj (by rw [← rawAt_in _ _ hj]; unfold notNl; simpa using h2)] at h; omega
theorem pct_end (M : List UInt8) (k j : Nat) (h : (j - k) + span notNl (M.drop j) = span notNl (M.drop k)) (h2 : rawAt M j < 0 ∨ rawAt M j = 10) : j - k = span notNl (M.drop k) := by
  by_cases hj : j < M.length
  · have := rawAt_neg M j
    rw [span_no notNl M j hj (by rw [← rawAt_in _ _ hj]; unfold notNl; simp; omega)] at h; omega
  · rw [span_end notNl M j (by omega)] at h; omega

set_option maxHeartbeats 4000000 in
theorem txt_gap (s : ByteArray) (tab : Int → Int) (ht : TabOk tab) (k0 : Nat) (hsz : s.size ≤ 16384) (hk0 : k0 ≤ s.size) (w : World) :
    Calls Try.prog 43 #[txtV s tab, .int .i64 k0] w fun e w' => e = .returned (.tuple #[.int .i64 (k0 + skipN ((cvt tab s.data.toList).drop k0) : Nat), .bool (gapOk (cvt tab s.data.toList) (k0 + skipN ((cvt tab s.data.toList).drop k0)))]) ∧ Below w.heap.size w w' := by
  have HT := Lib.hid ht
  clear ht
  have hlen : Hid ((cvt tab s.data.toList).length = s.size) := by show _ = _; rw [cvt_len]; simp
  generalize hM : cvt tab s.data.toList = M at *
  have HM := Lib.hid hM
  clear hM
  go_enter Try.func43, Try.ntmps43
  go_wp2_with (refine wpList_box_txt rfl _ s tab rfl rfl ?_; intro b w1 T0 hle hB0)
  have hb0 := T0.lt
  go_loopw [1] (fun i wr => ∃ k : Nat, k ≤ s.size ∧ i = .int .i64 k ∧ Below w.heap.size w wr ∧ Txt wr b s tab ∧ Hid (k + skipN (M.drop k) = k0 + skipN (M.drop k0))) (fun i _ => s.size - (intOf i).toNat)
  case atStart => exact ⟨k0, hk0, rfl, hB0, T0, rfl⟩
  case round =>
    obtain ⟨k, hks, rfl, hB, T, HE⟩ := hrel
    have hs := hB.size
    by_cases hlt : k < s.size
    · have hkl : k < M.length := by rw [hlen.out]; exact hlt
      have hr1 : 0 ≤ rawAt M k := by have := rawAt_neg M k; omega
      by_cases a1 : cls (rawAt M k) = 1
      · have HN := Lib.hid (skip_lay M k hkl a1)
        have b1 : (cls (rawAt M k) == 1) = true := by simp [a1]
        clear a1
        go_wp2_with (first | (with_reducible refine at_load0 ?_; refine wpList_load_txt rfl _ rfl rfl T ?_) | (with_reducible refine at_load1 ?_; refine wpList_load_txtG _ rfl rfl T rfl ?_))
        refine (txt_at_of s tab M HM HT _ (k) (by omega) _).mono ?_; rintro e w1 ⟨rfl, hB1⟩
        have T1 := T.below hB1 T.lt
        go_wp2_with fail
        refine (ref_layout _ _).mono ?_; rintro e w2 ⟨rfl, rfl⟩
        go_wp2_with fail
        go_roundw
        case rel => exact ⟨k + 1, by omega, by go_num, hB.trans (hB1.mono (by omega)), T1, by have h1 := HE.out; have h2 := HN.out; show _ = _; omega⟩
        case measure => simp [intOf]; omega
      have b1 : (cls (rawAt M k) == 1) = false := by simp [a1]
      by_cases a2 : rawAt M k = 37
      · have HN := Lib.hid (skip_pct M k hkl a1 a2)
        have hsp := span_pos notNl (M.drop k) (by simp; omega) (by rw [rawAt_drop, Nat.add_zero, a2]; rfl)
        have hsl := span_le notNl (M.drop k)
        rw [List.length_drop, hlen.out] at hsl
        have b2 : (rawAt M k == 37) = true := by simp [a2]
        clear a1 a2
        go_wp2_with (first | (with_reducible refine at_load0 ?_; refine wpList_load_txt rfl _ rfl rfl T ?_) | (with_reducible refine at_load1 ?_; refine wpList_load_txtG _ rfl rfl T rfl ?_))
        refine (txt_at_of s tab M HM HT _ (k) (by omega) _).mono ?_; rintro e w1 ⟨rfl, hB1⟩
        have T1 := T.below hB1 T.lt
        go_wp2_with fail
        refine (ref_layout _ _).mono ?_; rintro e w2 ⟨rfl, rfl⟩
        have hBx := hB.trans (hB1.mono (by omega))
        have hbx := T1.lt
        clear hB1 T hB
        go_wp2_with fail
        go_loopw [1] (fun x wx => ∃ j : Nat, k ≤ j ∧ j ≤ s.size ∧ x = .int .i64 j ∧ Below w.heap.size w wx ∧ Txt wx b s tab ∧ Hid ((j - k) + span notNl (M.drop j) = span notNl (M.drop k))) (fun x _ => s.size - (intOf x).toNat)
        case atStart => exact ⟨k, Nat.le_refl _, hks, rfl, hBx, T1, by show _ = _; omega⟩
        case round =>
          obtain ⟨j, hj1, hj2, rfl, hBj, Tj, HJ⟩ := hrel
          have hsj := hBj.size
          have hjn := rawAt_neg M j
          rw [hlen.out] at hjn
          by_cases d1 : rawAt M j < 0
          · have HD := Lib.hid (pct_end M k j HJ.out (.inl d1))
            have b3 : decide (rawAt M j ≥ 0) = false := by simp; omega
            have hje := Lib.hid (show j = k + span notNl (M.drop k) by have := HD.out; omega)
            clear hjn
            go_wp2_with (first | (with_reducible refine at_load0 ?_; refine wpList_load_txt rfl _ rfl rfl Tj ?_) | (with_reducible refine at_load1 ?_; refine wpList_load_txtG _ rfl rfl Tj rfl ?_))
            refine (txt_at_of s tab M HM HT _ (j) (by omega) _).mono ?_; rintro e w3 ⟨rfl, hB3⟩
            have T3 := Tj.below hB3 Tj.lt
            go_wp2_with fail
            go_roundw
            case rel => exact ⟨j, hj2, rfl, hBj.trans (hB3.mono (by omega)), T3, by have h1 := HE.out; have h2 := HN.out; show _ = _; rw [hje.out]; omega⟩
            case measure => have := hje.out; simp [intOf]; omega
          have b3 : decide (rawAt M j ≥ 0) = true := by simp; omega
          by_cases d2 : rawAt M j = 10
          · have HD := Lib.hid (pct_end M k j HJ.out (.inr d2))
            have b4 : (rawAt M j != 10) = false := by simp [d2]
            have hje := Lib.hid (show j = k + span notNl (M.drop k) by have := HD.out; omega)
            clear hjn d2
            go_wp2_with (first | (with_reducible refine at_load0 ?_; refine wpList_load_txt rfl _ rfl rfl Tj ?_) | (with_reducible refine at_load1 ?_; refine wpList_load_txtG _ rfl rfl Tj rfl ?_))
            refine (txt_at_of s tab M HM HT _ (j) (by omega) _).mono ?_; rintro e w3 ⟨rfl, hB3⟩
            have T3 := Tj.below hB3 Tj.lt
            go_wp2_with (first | (with_reducible refine at_load0 ?_; refine wpList_load_txt rfl _ rfl rfl T3 ?_) | (with_reducible refine at_load1 ?_; refine wpList_load_txtG _ rfl rfl T3 rfl ?_))
            refine (txt_at_of s tab M HM HT _ (j) (by omega) _).mono ?_; rintro e w4 ⟨rfl, hB4⟩
            have T4 := T3.below hB4 T3.lt
            go_wp2_with fail
            go_roundw
            case rel => exact ⟨j, hj2, rfl, hBj.trans ((hB3.mono (by omega)).trans (hB4.mono (by have := hB3.size; omega))), T4, by have h1 := HE.out; have h2 := HN.out; show _ = _; rw [hje.out]; omega⟩
            case measure => have := hje.out; simp [intOf]; omega
          · have b4 : (rawAt M j != 10) = true := by simp [d2]
            have hjl : j < s.size := by omega
            have HD := Lib.hid (pct_step M k j hj1 (by rw [hlen.out]; exact hjl) HJ.out d2)
            clear hjn d2
            go_wp2_with (first | (with_reducible refine at_load0 ?_; refine wpList_load_txt rfl _ rfl rfl Tj ?_) | (with_reducible refine at_load1 ?_; refine wpList_load_txtG _ rfl rfl Tj rfl ?_))
            refine (txt_at_of s tab M HM HT _ (j) (by omega) _).mono ?_; rintro e w3 ⟨rfl, hB3⟩
            have T3 := Tj.below hB3 Tj.lt
            go_wp2_with (first | (with_reducible refine at_load0 ?_; refine wpList_load_txt rfl _ rfl rfl T3 ?_) | (with_reducible refine at_load1 ?_; refine wpList_load_txtG _ rfl rfl T3 rfl ?_))
            refine (txt_at_of s tab M HM HT _ (j) (by omega) _).mono ?_; rintro e w4 ⟨rfl, hB4⟩
            have T4 := T3.below hB4 T3.lt
            go_wp2_with fail
            go_roundw
            case rel => exact ⟨j + 1, by omega, by omega, by go_num, hBj.trans ((hB3.mono (by omega)).trans (hB4.mono (by have := hB3.size; omega))), T4, HD⟩
            case measure => simp [intOf]; omega
      have b2 : (rawAt M k == 37) = false := by simp [a2]
      by_cases a3 : rawAt M k = 47
      · have b3 : (rawAt M k != 47) = false := by simp [a3]
        by_cases a4 : rawAt M (k + 1) = 42
        · have b4 : (rawAt M (k + 1) != 42) = false := by simp [a4]
          have A3 := Lib.hid a3
          have A4 := Lib.hid a4
          clear a1 a2 a3 a4
          go_wp2_with (first | (with_reducible refine at_load0 ?_; refine wpList_load_txt rfl _ rfl rfl T ?_) | (with_reducible refine at_load1 ?_; refine wpList_load_txtG _ rfl rfl T rfl ?_))
          refine (txt_at_of s tab M HM HT _ (k) (by omega) _).mono ?_; rintro e w1 ⟨rfl, hB1⟩
          have T1 := T.below hB1 T.lt
          go_wp2_with fail
          refine (ref_layout _ _).mono ?_; rintro e w2 ⟨rfl, rfl⟩
          go_wp2_with (first | (with_reducible refine at_load0 ?_; refine wpList_load_txt rfl _ rfl rfl T1 ?_) | (with_reducible refine at_load1 ?_; refine wpList_load_txtG _ rfl rfl T1 rfl ?_))
          refine (txt_at_of s tab M HM HT _ (k + 1) (by omega) _).mono ?_; rintro e w3 ⟨rfl, hB3⟩
          have T3 := T1.below hB3 T1.lt
          have hBx : Below w.heap.size w w3 := hB.trans ((hB1.mono (by omega)).trans (hB3.mono (by have := hB1.size; omega)))
          clear hB1 hB3 T T1 hB
          go_wp2_with fail
          go_loopw [7] (fun x wx => ∃ e : Nat, k + 2 ≤ e ∧ e ≤ s.size ∧ x = .int .i64 e ∧ Below w.heap.size w wx ∧ Txt wx b s tab ∧ Hid (closeAt (M.drop (k + 2)) = (closeAt (M.drop e)).map (· + (e - (k + 2))))) (fun x _ => s.size - (intOf x).toNat)
          case atStart =>
            have hk2 : k + 2 ≤ s.size := by
              have := rawAt_neg M (k + 1); have := A4.out; have := hlen.out; omega
            exact ⟨k + 2, Nat.le_refl _, hk2, by go_num, hBx, T3, by show _ = _; simp⟩
          case round =>
            obtain ⟨e, he1, he2, rfl, hBj, Tj, HC⟩ := hrel
            have hsj := hBj.size
            by_cases helt : e < s.size
            · have hel : e < M.length := by rw [hlen.out]; exact helt
              have d0 : decide (rawAt M e ≥ 0) = true := by have := rawAt_neg M e; simp; omega
              by_cases d1 : rawAt M e = 42
              · have d1b : (rawAt M e != 42) = false := by simp [d1]
                have D1 := Lib.hid d1
                clear d1
                by_cases d2 : rawAt M (e + 1) = 47
                · have d2b : (rawAt M (e + 1) != 47) = false := by simp [d2]
                  have d3 : decide (rawAt M e < 0) = false := by simp at d0 ⊢; omega
                  have HK := Lib.hid (closeAt_yes M e hel D1.out d2)
                  have HS := Lib.hid (skip_com M k (e - (k + 2)) hkl A3.out A4.out (by rw [HC.out, HK.out]; simp))
                  have he3 : e + 2 ≤ s.size := by have := rawAt_neg M (e + 1); have := hlen.out; omega
                  clear d2
                  go_wp2_with (first | (with_reducible refine at_load0 ?_; refine wpList_load_txt rfl _ rfl rfl Tj ?_) | (with_reducible refine at_load1 ?_; refine wpList_load_txtG _ rfl rfl Tj rfl ?_))
                  refine (txt_at_of s tab M HM HT _ (e) (by omega) _).mono ?_; rintro e w4 ⟨rfl, hB4⟩
                  have T4 := Tj.below hB4 Tj.lt
                  go_wp2_with (first | (with_reducible refine at_load0 ?_; refine wpList_load_txt rfl _ rfl rfl T4 ?_) | (with_reducible refine at_load1 ?_; refine wpList_load_txtG _ rfl rfl T4 rfl ?_))
                  refine (txt_at_of s tab M HM HT _ (e) (by omega) _).mono ?_; rintro e w5 ⟨rfl, hB5⟩
                  have T5 := T4.below hB5 T4.lt
                  go_wp2_with (first | (with_reducible refine at_load0 ?_; refine wpList_load_txt rfl _ rfl rfl T5 ?_) | (with_reducible refine at_load1 ?_; refine wpList_load_txtG _ rfl rfl T5 rfl ?_))
                  refine (txt_at_of s tab M HM HT _ (e + 1) (by omega) _).mono ?_; rintro e w6 ⟨rfl, hB6⟩
                  have T6 := T5.below hB6 T5.lt
                  go_wp2_with (first | (with_reducible refine at_load0 ?_; refine wpList_load_txt rfl _ rfl rfl T6 ?_) | (with_reducible refine at_load1 ?_; refine wpList_load_txtG _ rfl rfl T6 rfl ?_))
                  refine (txt_at_of s tab M HM HT _ (e) (by omega) _).mono ?_; rintro e w7 ⟨rfl, hB7⟩
                  have T7 := T6.below hB7 T6.lt
                  go_wp2_with fail
                  go_roundw
                  case rel => exact ⟨e + 2, by omega, by go_num, hBj.trans ((trans3 (Nat.le_refl _) hB4 hB5 hB6).trans (hB7.mono (by have := hB4.size; have := hB5.size; have := hB6.size; omega)) |>.mono (by omega)), T7, skip_step M k e _ he1 HE.out HS.out⟩
                  case measure => simp [intOf]; omega
                · have d2b : (rawAt M (e + 1) != 47) = true := by simp [d2]
                  have HK := Lib.hid (closeAt_no M e hel (fun hh => d2 hh.2))
                  clear d2
                  go_wp2_with (first | (with_reducible refine at_load0 ?_; refine wpList_load_txt rfl _ rfl rfl Tj ?_) | (with_reducible refine at_load1 ?_; refine wpList_load_txtG _ rfl rfl Tj rfl ?_))
                  refine (txt_at_of s tab M HM HT _ (e) (by omega) _).mono ?_; rintro e w4 ⟨rfl, hB4⟩
                  have T4 := Tj.below hB4 Tj.lt
                  go_wp2_with (first | (with_reducible refine at_load0 ?_; refine wpList_load_txt rfl _ rfl rfl T4 ?_) | (with_reducible refine at_load1 ?_; refine wpList_load_txtG _ rfl rfl T4 rfl ?_))
                  refine (txt_at_of s tab M HM HT _ (e) (by omega) _).mono ?_; rintro e w5 ⟨rfl, hB5⟩
                  have T5 := T4.below hB5 T4.lt
                  go_wp2_with (first | (with_reducible refine at_load0 ?_; refine wpList_load_txt rfl _ rfl rfl T5 ?_) | (with_reducible refine at_load1 ?_; refine wpList_load_txtG _ rfl rfl T5 rfl ?_))
                  refine (txt_at_of s tab M HM HT _ (e + 1) (by omega) _).mono ?_; rintro e w6 ⟨rfl, hB6⟩
                  have T6 := T5.below hB6 T5.lt
                  go_wp2_with fail
                  go_roundw
                  case rel => exact ⟨e + 1, by omega, by omega, by go_num, hBj.trans (trans3 (by omega) hB4 hB5 hB6), T6, close_step M k e he1 HC.out HK.out⟩
                  case measure => simp [intOf]; omega
              · have d1b : (rawAt M e != 42) = true := by simp [d1]
                have HK := Lib.hid (closeAt_no M e hel (fun hh => d1 hh.1))
                clear d1
                go_wp2_with (first | (with_reducible refine at_load0 ?_; refine wpList_load_txt rfl _ rfl rfl Tj ?_) | (with_reducible refine at_load1 ?_; refine wpList_load_txtG _ rfl rfl Tj rfl ?_))
                refine (txt_at_of s tab M HM HT _ (e) (by omega) _).mono ?_; rintro e w4 ⟨rfl, hB4⟩
                have T4 := Tj.below hB4 Tj.lt
                go_wp2_with (first | (with_reducible refine at_load0 ?_; refine wpList_load_txt rfl _ rfl rfl T4 ?_) | (with_reducible refine at_load1 ?_; refine wpList_load_txtG _ rfl rfl T4 rfl ?_))
                refine (txt_at_of s tab M HM HT _ (e) (by omega) _).mono ?_; rintro e w5 ⟨rfl, hB5⟩
                have T5 := T4.below hB5 T4.lt
                go_wp2_with fail
                go_roundw
                case rel => exact ⟨e + 1, by omega, by omega, by go_num, hBj.trans (trans2 (by omega) hB4 hB5), T5, close_step M k e he1 HC.out HK.out⟩
                case measure => simp [intOf]; omega
            · obtain rfl : e = s.size := by omega
              have HK := Lib.hid (closeAt_end M s.size (by rw [hlen.out]; exact Nat.le_refl _))
              have HN := Lib.hid (skip_open M k hkl A3.out A4.out (by rw [HC.out, HK.out]; rfl))
              have HG := Lib.hid (gapOk_yes M k A3.out A4.out)
              have HR := rawAt_out M s.size (by rw [hlen.out]; exact Nat.le_refl _)
              have d0 : decide (rawAt M s.size ≥ 0) = false := by rw [HR]; rfl
              have d3 : decide (rawAt M s.size < 0) = true := by rw [HR]; rfl
              clear HR
              go_wp2_with (with_reducible refine at_load0 ?_; refine wpList_load_txt rfl _ rfl rfl Tj ?_)
              refine (txt_at_of s tab M HM HT _ (s.size) (by omega) _).mono ?_; rintro e w4 ⟨rfl, hB4⟩
              have T4 := Tj.below hB4 Tj.lt
              go_wp2_with (with_reducible refine at_load0 ?_; refine wpList_load_txt rfl _ rfl rfl T4 ?_)
              refine (txt_at_of s tab M HM HT _ (s.size) (by omega) _).mono ?_; rintro e w5 ⟨rfl, hB5⟩
              have T5 := T4.below hB5 T4.lt
              go_wp2_with fail
              refine bodyPost_ret (v := .tuple #[.int .i64 (k : Int), .bool false]) (by simp [results, Try.results43, go_sem]) rfl ⟨by rw [← HE.out, HN.out, Nat.add_zero, HG.out], hBj.trans (trans2 (by omega) hB4 hB5)⟩
        · have b4 : (rawAt M (k + 1) != 42) = true := by simp [a4]
          have HN := Lib.hid (skip_no M k hkl a1 a2 (fun hh => a4 hh.2))
          have HG := Lib.hid (gapOk_no M k (fun hh => a4 hh.2))
          clear a1 a2 a3 a4
          go_wp2_with (first | (with_reducible refine at_load0 ?_; refine wpList_load_txt rfl _ rfl rfl T ?_) | (with_reducible refine at_load1 ?_; refine wpList_load_txtG _ rfl rfl T rfl ?_))
          refine (txt_at_of s tab M HM HT _ (k) (by omega) _).mono ?_; rintro e w1 ⟨rfl, hB1⟩
          have T1 := T.below hB1 T.lt
          go_wp2_with fail
          refine (ref_layout _ _).mono ?_; rintro e w2 ⟨rfl, rfl⟩
          go_wp2_with (first | (with_reducible refine at_load0 ?_; refine wpList_load_txt rfl _ rfl rfl T1 ?_) | (with_reducible refine at_load1 ?_; refine wpList_load_txtG _ rfl rfl T1 rfl ?_))
          refine (txt_at_of s tab M HM HT _ (k + 1) (by omega) _).mono ?_; rintro e w3 ⟨rfl, hB3⟩
          have T3 := T1.below hB3 T1.lt
          go_wp2_with fail
          refine bodyPost_ret (v := .tuple #[.int .i64 (k : Int), .bool true]) (by simp [results, Try.results43, go_sem]) rfl ⟨by rw [← HE.out, HN.out, Nat.add_zero, HG.out], hB.trans (trans2 (by omega) hB1 hB3)⟩
      · have b3 : (rawAt M k != 47) = true := by simp [a3]
        have HN := Lib.hid (skip_no M k hkl a1 a2 (fun hh => a3 hh.1))
        have HG := Lib.hid (gapOk_no M k (fun hh => a3 hh.1))
        clear a1 a2 a3
        go_wp2_with (first | (with_reducible refine at_load0 ?_; refine wpList_load_txt rfl _ rfl rfl T ?_) | (with_reducible refine at_load1 ?_; refine wpList_load_txtG _ rfl rfl T rfl ?_))
        refine (txt_at_of s tab M HM HT _ (k) (by omega) _).mono ?_; rintro e w1 ⟨rfl, hB1⟩
        have T1 := T.below hB1 T.lt
        go_wp2_with fail
        refine (ref_layout _ _).mono ?_; rintro e w2 ⟨rfl, rfl⟩
        go_wp2_with fail
        refine bodyPost_ret (v := .tuple #[.int .i64 (k : Int), .bool true]) (by simp [results, Try.results43, go_sem]) rfl ⟨by rw [← HE.out, HN.out, Nat.add_zero, HG.out], hB.trans (hB1.mono (by omega))⟩
    · have hkl : M.length ≤ k := by rw [hlen.out]; omega
      have HR := rawAt_out M k hkl
      have HN := Lib.hid (skip_end M k hkl)
      have HG := Lib.hid (gapOk_no M k (fun hh => by omega))
      have b1 : (cls (rawAt M k) == 1) = false := by rw [HR]; rfl
      have b2 : (rawAt M k == 37) = false := by rw [HR]; rfl
      have b3 : (rawAt M k != 47) = true := by rw [HR]; rfl
      clear HR
      go_wp2_with (first | (with_reducible refine at_load0 ?_; refine wpList_load_txt rfl _ rfl rfl T ?_) | (with_reducible refine at_load1 ?_; refine wpList_load_txtG _ rfl rfl T rfl ?_))
      refine (txt_at_of s tab M HM HT _ (k) (by omega) _).mono ?_; rintro e w1 ⟨rfl, hB1⟩
      have T1 := T.below hB1 T.lt
      go_wp2_with fail
      refine (ref_layout _ _).mono ?_; rintro e w2 ⟨rfl, rfl⟩
      go_wp2_with fail
      refine bodyPost_ret (v := .tuple #[.int .i64 (k : Int), .bool true]) (by simp [results, Try.results43, go_sem]) rfl ⟨by rw [← HE.out, HN.out, Nat.add_zero, HG.out], hB.trans (hB1.mono (by omega))⟩
end Go.Proofs.Ytmjeajfakhmakaa
