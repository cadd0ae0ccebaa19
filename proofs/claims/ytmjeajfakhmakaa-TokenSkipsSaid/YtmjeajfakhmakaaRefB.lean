/- Contracts of layer 9's reference: next. -/
import Derived.Test.YtmjeajfakhmakaaRefA
import Derived.RegionTactic
import Derived.BigRegion
namespace Go.Proofs.Ytmjeajfakhmakaa
open Go.RowKit Hb
set_option maxRecDepth 100000

theorem nextR_open (m l : List UInt8) (hml : m.length = l.length) (a P : Nat) (hP : a + skipN (m.drop a) = P) (h : rawAt m P = 47 ∧ rawAt m (P + 1) = 42) : nextR m l a = ⟨errR 7, false, P⟩ := by
  have hin : ¬P = l.length := by
    intro e
    have := rawAt_out m P (by omega)
    rw [h.1] at this; exact absurd this (by decide)
  have ht : tokR m l P = errR 7 := by unfold tokR; rw [if_pos h]
  unfold nextR
  simp only [hP]
  rw [if_neg hin, ht]; rfl
theorem nextR_end (m l : List UInt8) (a P : Nat) (hP : a + skipN (m.drop a) = P) (h : P = l.length) : nextR m l a = ⟨errR 14, false, P⟩ := by
  unfold nextR; simp only [hP]; rw [if_pos h]
theorem nextR_ok (m l : List UInt8) (a P : Nat) (hP : a + skipN (m.drop a) = P) (h : ¬P = l.length) (r : LexR) (hr : tokR m l P = r) (h0 : r.err = 0) : nextR m l a = ⟨r, decide (a < P), 0⟩ := by
  unfold nextR; simp only [hP]; rw [if_neg h, hr, if_pos h0]
theorem nextR_err (m l : List UInt8) (a P : Nat) (hP : a + skipN (m.drop a) = P) (h : ¬P = l.length) (r : LexR) (hr : tokR m l P = r) (h0 : ¬r.err = 0) : nextR m l a = ⟨errR r.err, false, P⟩ := by
  unfold nextR; simp only [hP]; rw [if_neg h, hr, if_neg h0]

set_option maxHeartbeats 1600000 in
theorem txt_next (s : ByteArray) (tab : Int → Int) (ht : TabOk tab) (a : Nat) (ha : a ≤ s.size) (hsz : s.size ≤ 16384) (w : World) :
    Calls Try.prog 29 #[txtV s tab, .int .i64 a] w fun e w' => GivesN (nextR (cvt tab s.data.toList) s.data.toList a) e ∧ Below w.heap.size w w' := by
  have HT := Lib.hid ht
  clear ht
  have hlen : Hid ((cvt tab s.data.toList).length = s.size) := by show _ = _; rw [cvt_len]; simp
  have hsk := skipN_le ((cvt tab s.data.toList).drop a)
  rw [List.length_drop, hlen.out] at hsk
  have HML : Hid ((cvt tab s.data.toList).length = s.data.toList.length) := cvt_len _ _
  have HSZ : Hid (s.data.toList.length = s.size) := size_data s
  have HTK := Lib.hid (txt_token s tab HT.out)
  generalize hM : cvt tab s.data.toList = M at *
  have HM := Lib.hid hM
  clear hM
  generalize hP : a + skipN (M.drop a) = P
  have HP := Lib.hid hP
  have hPs : P ≤ s.size := by omega
  clear hP hsk
  cases hg : gapOk M P with
  | false =>
    have HK := Lib.hid (nextR_open M s.data.toList HML.out a P HP.out (gapOk_false M P hg))
    have HG := Lib.hid hg
    clear hg
    go_enter Try.func29, Try.ntmps29
    go_wp2_with (first | (refine wpList_box_txt rfl _ s tab rfl rfl ?_; intro b w1 T0 hle hB0; have T1 := T0.below ((Below.refl _ _).alloc (Nat.le_refl _) tokZero) T0.lt; unfold tokZero at T1) | (with_reducible refine at_load0 ?_; refine wpList_load_txt rfl _ rfl rfl T1 ?_))
    refine (txt_gap s tab HT.out a hsz ha _).mono ?_; rintro e w2 ⟨rfl, hB2⟩; rw [HM.out, HP.out, HG.out]
    have hs0 := hB0.size
    have hBr : Below (w1.alloc tokZero).heap.size (w1.alloc tokZero) w2 := hB2
    have hl12 : w1.heap.size < w2.heap.size := Nat.lt_of_lt_of_le (by simp) hB2.size
    obtain ⟨t0, t1, t2, t3, t4, t5, t6⟩ := tok_cells hBr (by simp)
    have hBw : Below w.heap.size w w2 := (hB0.alloc hs0 tokZero).trans (hBr.mono (by simp; omega))
    clear hB0 hB2 T1 hBr
    go_wp2_with fail
    refine bodyPost_ret (v := nxtTup ⟨errR 7, false, P⟩) (by simp [nxtTup, errR, results, Try.results29, go_sem, t0, t1, t2, t3, t4, t5]) rfl ⟨by rw [HK.out]; rfl, below_sets hBw (by omega) _ _ _ _ _ _⟩
  | true =>
    have HGN := Lib.hid (gapOk_true M P hg)
    have HG := Lib.hid hg
    clear hg
    by_cases hPe : P = s.size
    · have HK := Lib.hid (nextR_end M s.data.toList a P HP.out (by rw [HSZ.out]; exact hPe))
      have HPe := Lib.hid hPe
      have d1 : decide (s.size ≤ P) = true := by simp; omega
      clear hPe
      go_enter Try.func29, Try.ntmps29
      go_wp2_with (first | (refine wpList_box_txt rfl _ s tab rfl rfl ?_; intro b w1 T0 hle hB0; have T1 := T0.below ((Below.refl _ _).alloc (Nat.le_refl _) tokZero) T0.lt; unfold tokZero at T1) | (with_reducible refine at_load0 ?_; refine wpList_load_txt rfl _ rfl rfl T1 ?_))
      refine (txt_gap s tab HT.out a hsz ha _).mono ?_; rintro e w2 ⟨rfl, hB2⟩; rw [HM.out, HP.out, HG.out]
      have hs0 := hB0.size
      have T2 := T1.below hB2 T1.lt
      have c0 := T2.c0
      have hbl := T2.lt
      have hb1 := T0.lt
      have hBr : Below (w1.alloc tokZero).heap.size (w1.alloc tokZero) w2 := hB2
      have hl12 : w1.heap.size < w2.heap.size := Nat.lt_of_lt_of_le (by simp) hB2.size
      obtain ⟨t0, t1, t2, t3, t4, t5, t6⟩ := tok_cells hBr (by simp)
      have hBw : Below w.heap.size w w2 := (hB0.alloc hs0 tokZero).trans (hBr.mono (by simp; omega))
      clear hB0 hB2 T1 hBr
      go_wp2_with fail
      go_region
      go_wp2_with fail
      refine bodyPost_ret (v := nxtTup ⟨errR 14, false, s.size⟩) (by simp [nxtTup, errR, results, Try.results29, go_sem, t0, t1, t2, t3, t4, t5]) rfl ⟨by rw [HK.out, HPe.out]; rfl, (below_sets hBw (by omega) _ _ _ _ _ _).drew⟩
    · have hpl : P < s.size := by omega
      have d1 : decide (s.size ≤ P) = false := by simp; omega
      have HPl : Hid (¬P = s.data.toList.length) := by show ¬_; rw [HSZ.out]; exact hPe
      have HC := Lib.hid (fun w' => HTK.out P hpl hsz HGN.out w')
      clear hPe
      generalize hr : tokR M s.data.toList P = r at *
      have HR := Lib.hid hr
      clear hr
      by_cases h0 : r.err = 0
      · have d2 : (r.err != 0) = false := by simp [h0]
        have d3 : decide ((a : Int) < (P : Int)) = decide (a < P) := by simp
        have HK := Lib.hid (nextR_ok M s.data.toList a P HP.out HPl.out r HR.out h0)
        have H0 := Lib.hid h0
        clear h0
        go_enter Try.func29, Try.ntmps29
        go_wp2_with (first | (refine wpList_box_txt rfl _ s tab rfl rfl ?_; intro b w1 T0 hle hB0; have T1 := T0.below ((Below.refl _ _).alloc (Nat.le_refl _) tokZero) T0.lt; unfold tokZero at T1) | (with_reducible refine at_load0 ?_; refine wpList_load_txt rfl _ rfl rfl T1 ?_))
        refine (txt_gap s tab HT.out a hsz ha _).mono ?_; rintro e w2 ⟨rfl, hB2⟩; rw [HM.out, HP.out, HG.out]
        have hs0 := hB0.size
        have T2 := T1.below hB2 T1.lt
        have c0 := T2.c0
        have hbl := T2.lt
        go_wp2_with (with_reducible refine at_load0 ?_; refine wpList_load_txt rfl _ rfl rfl T2 ?_)
        refine (HC.out _).mono ?_; rintro e w3 ⟨he, hB3⟩
        unfold Gives tokTup at he; subst he
        have hBr : Below (w1.alloc tokZero).heap.size (w1.alloc tokZero) w3 := trans2 (Nat.le_refl _) hB2 hB3
        have hl13 : w1.heap.size < w3.heap.size := Nat.lt_of_lt_of_le (by simp) hBr.size
        obtain ⟨t0, t1, t2, t3, t4, t5, t6⟩ := tok_cells hBr (by simp)
        have hBw : Below w.heap.size w w3 := (hB0.alloc hs0 tokZero).trans (hBr.mono (by simp; omega))
        clear hB0 hB2 hB3 T1 hBr T2 c0
        go_wp2_with fail
        refine bodyPost_ret (v := nxtTup ⟨r, decide (a < P), 0⟩) (by simp [nxtTup, results, Try.results29, go_sem, t0, t1, t2, t3, t4, t5, cell_old, hl13, H0.out]) rfl ⟨by rw [HK.out]; rfl, by repeat (first | with_reducible exact hBw | with_reducible refine Below.setCell ?_ (by dsimp only; omega) _ | with_reducible refine Below.alloc ?_ (by simp [World.setCell]; omega) _)⟩
      · have d2 : (r.err != 0) = true := by simp [h0]
        have HK := Lib.hid (nextR_err M s.data.toList a P HP.out HPl.out r HR.out h0)
        clear h0
        go_enter Try.func29, Try.ntmps29
        go_wp2_with (first | (refine wpList_box_txt rfl _ s tab rfl rfl ?_; intro b w1 T0 hle hB0; have T1 := T0.below ((Below.refl _ _).alloc (Nat.le_refl _) tokZero) T0.lt; unfold tokZero at T1) | (with_reducible refine at_load0 ?_; refine wpList_load_txt rfl _ rfl rfl T1 ?_))
        refine (txt_gap s tab HT.out a hsz ha _).mono ?_; rintro e w2 ⟨rfl, hB2⟩; rw [HM.out, HP.out, HG.out]
        have hs0 := hB0.size
        have T2 := T1.below hB2 T1.lt
        have c0 := T2.c0
        have hbl := T2.lt
        go_wp2_with (with_reducible refine at_load0 ?_; refine wpList_load_txt rfl _ rfl rfl T2 ?_)
        refine (HC.out _).mono ?_; rintro e w3 ⟨he, hB3⟩
        unfold Gives tokTup at he; subst he
        have hBr : Below (w1.alloc tokZero).heap.size (w1.alloc tokZero) w3 := trans2 (Nat.le_refl _) hB2 hB3
        have hl13 : w1.heap.size < w3.heap.size := Nat.lt_of_lt_of_le (by simp) hBr.size
        obtain ⟨t0, t1, t2, t3, t4, t5, t6⟩ := tok_cells hBr (by simp)
        have hBw : Below w.heap.size w w3 := (hB0.alloc hs0 tokZero).trans (hBr.mono (by simp; omega))
        clear hB0 hB2 hB3 T1 hBr T2 c0
        go_wp2_with fail
        refine bodyPost_ret (v := nxtTup ⟨errR r.err, false, P⟩) (by simp [nxtTup, errR, results, Try.results29, go_sem, t0, t1, t2, t3, t4, t5, cell_old, hl13]) rfl ⟨by rw [HK.out]; rfl, by repeat (first | with_reducible exact hBw | with_reducible refine Below.setCell ?_ (by dsimp only; omega) _ | with_reducible refine Below.alloc ?_ (by simp [World.setCell]; omega) _)⟩
end Go.Proofs.Ytmjeajfakhmakaa
