/- The laws SpellAtoms and SpellQuotes. -/
import Derived.Test.YtmjeajfakhmakaaDoorRef11b
namespace Hb
open Go Go.RowKit
theorem quote_last (s : List UInt8) : (quoteN s).length - 1 = (btws 39 s).length + 1 := by unfold quoteN; simp
theorem quote_at (s : List UInt8) (k : Nat) (h : k < (quoteN s).length) : 32 ≤ bAt (quoteN s) k ∧ bAt (quoteN s) k ≤ 126 := by
  rw [← bAt_get _ _ h]
  have := quoteN_print s (quoteN s)[k] (List.getElem_mem h)
  omega
theorem quote_fst (s : List UInt8) : bAt (quoteN s) 0 = 39 := by unfold quoteN bAt; rfl
theorem quote_lst (s : List UInt8) : bAt (quoteN s) ((quoteN s).length - 1) = 39 := by
  rw [quote_last]
  unfold quoteN bAt
  simp
theorem quote_size (s : ByteArray) (h : s.size ≤ 1000) : (⟨(quoteN s.data.toList).toArray⟩ : ByteArray).size ≤ 10000 ∧ s.size + 2 ≤ (⟨(quoteN s.data.toList).toArray⟩ : ByteArray).size := by
  rw [size_mk]
  have h1 := quoteN_len s.data.toList
  have h2 := btws_le s.data.toList
  rw [size_data] at h1 h2
  refine ⟨?_, h1⟩
  unfold quoteN; simp; omega
theorem toList_mk (l : List UInt8) : (⟨l.toArray⟩ : ByteArray).toList = l := by rw [tl_data]
end Hb
namespace Go.Proofs.YtmjeajfakhmakaaDoor
open Go.RowKit Hb
set_option maxRecDepth 100000

set_option maxHeartbeats 1600000 in
theorem law_spellAtoms (s : ByteArray) (_hs : s.size ≤ maxLen) (w : World) (hT : Tab15 w) :
    Calls Tryd.prog 4 #[.string s] w fun e w' => e = .returned (.bool true) ∧ Below w.heap.size w w' := by
  have HT := Lib.hid hT
  clear hT
  by_cases c1 : 1000 < s.size
  · have b1 : decide ((1000 : Int) < s.size) = true := by simp; omega
    clear c1
    go_enter Tryd.func4, Tryd.ntmps4
    go_wp2_with fail
    refine (law_awake11 _ HT.out).mono ?_; rintro e w1 ⟨rfl, hB1⟩
    go_wp2_with fail
    go_ret
    exact ⟨rfl, hB1⟩
  have b1 : decide ((1000 : Int) < s.size) = false := by simp; omega
  have hm : s.size ≤ 1000000 := by omega
  clear c1
  generalize hp : plainN s.data.toList = p
  have HP := Lib.hid hp
  generalize hq : (⟨(quoteN s.data.toList).toArray⟩ : ByteArray) = q
  have HQ := Lib.hid hq
  generalize ha : (⟨(atomN s.data.toList).toArray⟩ : ByteArray) = a
  have HA := Lib.hid ha
  clear hp hq ha
  have H1 := Lib.hid (fun w' (h : Below w.heap.size w w') => v_plain (w0 := w) (w := w') s p HP.out _hs h)
  have H2 := Lib.hid (fun w' => (show Calls Tryd.prog 17 #[.string s] w' fun e w'' => e = .returned (.bool p) ∧ w' = w'' by rw [← HP.out]; exact r11_plain s w' _hs))
  have H3 := Lib.hid (fun w' (h : Below w.heap.size w w') => v_quote (w0 := w) (w := w') s q HQ.out hm HT.out h)
  have H4 := Lib.hid (fun w' (h : Below w.heap.size w w') => carry (w0 := w) h (show Calls Tryd.prog 18 #[.string s] w' fun e w'' => e = .returned (.string q) ∧ Below w'.heap.size w' w'' by rw [← HQ.out]; exact r11_quote s w' hm))
  have H5 := Lib.hid (fun w' (h : Below w.heap.size w w') => v_atom (w0 := w) (w := w') s a HA.out hm HT.out h)
  have H6 := Lib.hid (fun w' (h : Below w.heap.size w w') => carry (w0 := w) h (show Calls Tryd.prog 19 #[.string s] w' fun e w'' => e = .returned (.string a) ∧ Below w'.heap.size w' w'' by rw [← HA.out]; exact r11_atom s w' hm))
  go_enter Tryd.func4, Tryd.ntmps4
  go_wp2_with fail
  refine (H1.out _ (Below.refl _ _)).mono ?_; rintro e w1 ⟨rfl, hB1⟩
  go_wp2_with fail
  refine (H2.out _).mono ?_; rintro e w2 ⟨rfl, rfl⟩
  go_wp2_with fail
  refine (H3.out _ hB1).mono ?_; rintro e w3 ⟨rfl, hB3⟩
  go_wp2_with fail
  refine (H4.out _ hB3).mono ?_; rintro e w4 ⟨rfl, hB4⟩
  go_wp2_with fail
  refine (H5.out _ hB4).mono ?_; rintro e w5 ⟨rfl, hB5⟩
  go_wp2_with fail
  refine (H6.out _ hB5).mono ?_; rintro e w6 ⟨rfl, hB6⟩
  go_wp2_with fail
  refine (carry (w0 := w) hB6 (law_awake11 _ (HT.out.below hB6))).mono ?_; rintro e w7 ⟨rfl, hB7⟩
  go_wp2_with fail
  go_ret
  exact ⟨rfl, hB7⟩

set_option maxHeartbeats 1600000 in
theorem law_spellQuotes (a b : ByteArray) (_ha : a.size ≤ maxLen) (_hb : b.size ≤ maxLen) (w : World) (hT : Tab15 w) :
    Calls Tryd.prog 6 #[.string a, .string b] w fun e w' => e = .returned (.bool true) ∧ Below w.heap.size w w' := by
  have HT := Lib.hid hT
  clear hT
  by_cases c1 : 1000 < a.size ∨ 1000 < b.size
  · by_cases c2 : 1000 < a.size
    · have b1 : decide ((1000 : Int) < a.size) = true := by simp; omega
      clear c1 c2
      go_enter Tryd.func6, Tryd.ntmps6
      go_wp2_with fail
      refine (law_awake11 _ HT.out).mono ?_; rintro e w1 ⟨rfl, hB1⟩
      go_wp2_with fail
      go_ret
      exact ⟨rfl, hB1⟩
    · have b1 : decide ((1000 : Int) < a.size) = false := by simp; omega
      have b2 : decide ((1000 : Int) < b.size) = true := by simp; omega
      clear c1 c2
      go_enter Tryd.func6, Tryd.ntmps6
      go_wp2_with fail
      refine (law_awake11 _ HT.out).mono ?_; rintro e w1 ⟨rfl, hB1⟩
      go_wp2_with fail
      go_ret
      exact ⟨rfl, hB1⟩
  have b1 : decide ((1000 : Int) < a.size) = false := by simp; omega
  have b2 : decide ((1000 : Int) < b.size) = false := by simp; omega
  have hma : a.size ≤ 1000000 := by omega
  have hmb : b.size ≤ 1000000 := by omega
  have hz := quote_size a (by omega)
  have HQA := Lib.hid (quote_at a.data.toList)
  have HQF := Lib.hid (quote_fst a.data.toList)
  have HQL := Lib.hid (quote_lst a.data.toList)
  have HSZ := Lib.hid (size_mk (quoteN a.data.toList))
  have HEQ := Lib.hid (show ((quoteN a.data.toList) = (quoteN b.data.toList)) ↔ a.toList = b.toList by rw [tl_data, tl_data]; exact quoteN_iff _ _)
  generalize hq : (⟨(quoteN a.data.toList).toArray⟩ : ByteArray) = q at *
  have HQ := Lib.hid hq
  have hqd : q.data.toList = quoteN a.data.toList := by rw [← hq]
  rw [← hqd] at HQA HQF HQL HSZ HEQ
  rw [size_data] at HQA HQL
  generalize hq2 : (⟨(quoteN b.data.toList).toArray⟩ : ByteArray) = q2 at *
  have HQ2 := Lib.hid hq2
  have hqd2 : q2.data.toList = quoteN b.data.toList := by rw [← hq2]
  rw [← hqd2, ← tl_data, ← tl_data] at HEQ
  obtain ⟨hz1, hz2⟩ := hz
  clear hq hqd hq2 hqd2 c1 HSZ
  have H1 := Lib.hid (fun w' (h : Below w.heap.size w w') => v_quote (w0 := w) (w := w') a q HQ.out hma HT.out h)
  have H2 := Lib.hid (fun w' (h : Below w.heap.size w w') => v_quote (w0 := w) (w := w') b q2 HQ2.out hmb HT.out h)
  go_enter Tryd.func6, Tryd.ntmps6
  go_wp2_with fail
  refine (H1.out _ (Below.refl _ _)).mono ?_; rintro e w1 ⟨rfl, hB1⟩
  go_wp2_with fail
  go_loop [6] (fun i => ∃ k : Nat, k ≤ q.size ∧ i = .int .i64 k) (fun i => q.size - (intOf i).toNat)
  case atStart => exact ⟨0, Nat.zero_le _, rfl⟩
  case round =>
    obtain ⟨k, hk, rfl⟩ := hrel
    by_cases hlt : k < q.size
    · have hb := bAt_mk q k hlt
      obtain ⟨hc0, hc1⟩ := HQA.out k hlt
      generalize bAt q.data.toList k = c at *
      go_wp2_with fail
      go_round
      case rel => exact ⟨k + 1, by omega, by go_num⟩
      case measure => simp [intOf]; omega
    · have b3 : decide (a.size + 2 ≤ q.size) = true := by simp; omega
      have b3' : decide ((a.size : Int) + 2 ≤ q.size) = true := by simp; omega
      have hp0 : 0 < q.size := by omega
      have hf := bAt_mk q 0 hp0
      rw [HQF.out] at hf
      have hl := bAt_mk q (q.size - 1) (by omega)
      rw [HQL.out] at hl
      have hw1 : IntKind.i64.wrap ((q.size : Int) - 1) = (q.size : Int) - 1 := IntWalk.i64_in _ (by omega)
      have hi1 : (0 : Int) ≤ (q.size : Int) - 1 := by omega
      have hi2 : (q.size : Int) - 1 < (q.size : Int) := by omega
      have htn : ((q.size : Int) - 1).toNat = q.size - 1 := by omega
      by_cases hab : a.toList = b.toList
      · have e1 : (a.toList == b.toList) = true := by simp [hab]
        have e2 : (q.toList == q2.toList) = true := by simp [HEQ.out.2 hab]
        clear hab
        go_wp2_with fail
        refine (H2.out _ hB1).mono ?_; rintro e w2 ⟨rfl, hB2⟩
        go_wp2_with fail
        refine (carry (w0 := w) hB2 (law_awake11 _ (HT.out.below hB2))).mono ?_; rintro e w7 ⟨rfl, hB7⟩
        go_wp2_with fail
        go_ret
        exact ⟨rfl, hB7⟩
      · have e1 : (a.toList == b.toList) = false := by simp [hab]
        have hq : ¬q.toList = q2.toList := fun h => hab (HEQ.out.1 h)
        have e2 : (q.toList == q2.toList) = false := by simp [hq]
        clear hq
        clear hab
        go_wp2_with fail
        refine (H2.out _ hB1).mono ?_; rintro e w2 ⟨rfl, hB2⟩
        go_wp2_with fail
        refine (carry (w0 := w) hB2 (law_awake11 _ (HT.out.below hB2))).mono ?_; rintro e w7 ⟨rfl, hB7⟩
        go_wp2_with fail
        go_ret
        exact ⟨rfl, hB7⟩
end Go.Proofs.YtmjeajfakhmakaaDoor
