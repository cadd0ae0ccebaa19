/- Contracts of the reference of layer 11: each, Plain, Quote, Atom, Glue, Join. -/
import Derived.Test.YtmjeajfakhmakaaDoorSpellA
import Derived.Test.YtmjeajfakhmakaaDoorSpellP
namespace Hb
/-- The selection of the reference's each. -/
def selQ (k : Int) (c : Int) : Bool := if k = 0 then alnum c else cls c == k
theorem sel_alnum : selQ 0 = alnum := by funext c; unfold selQ; rw [if_pos rfl]
theorem sel_sym : selQ 5 = isSym := by funext c; unfold selQ; rw [if_neg (by decide)]; rfl
theorem plain_ref (s : List UInt8) (h1 : ¬s = []) (h2 : ¬s = [46]) (h3 : ¬(s = [91, 93] ∨ s = [123, 125] ∨ s = [33] ∨ s = [59])) (h4 : s.length ≤ 100) (h5 : ¬s.take 2 = [47, 42]) :
    plainN s = ((cls (bAt s 0) == 2 && every alnum s) || every isSym s) := by
  have hl : 0 < s.length := by cases s with | nil => exact absurd rfl h1 | cons => simp
  rw [Bool.eq_iff_iff, plain_iff, rawAt_in _ _ hl]
  simp
  constructor
  · rintro ((h | h) | ⟨_, (h | h) | ⟨h, h'⟩ | ⟨_, h, _⟩⟩)
    · exact absurd (.inl h) h3
    · exact absurd (.inr (.inl h)) h3
    · exact absurd (.inr (.inr (.inl h))) h3
    · exact absurd (.inr (.inr (.inr h))) h3
    · exact .inl ⟨h', h⟩
    · exact .inr h
  · rintro (⟨h, h'⟩ | h)
    · exact .inr ⟨h4, .inr (.inl ⟨h', h⟩)⟩
    · exact .inr ⟨h4, .inr (.inr ⟨hl, h, h2, h5⟩)⟩
end Hb
namespace Go.Proofs.YtmjeajfakhmakaaDoor
open Go.RowKit Hb
set_option maxRecDepth 100000

set_option maxHeartbeats 400000 in
theorem r11_each0 (s : ByteArray) (w : World) (hs : s.size ≤ maxLen) :
    Calls Tryd.prog 44 #[.string s, .int .i64 0] w fun e w' => e = .returned (.bool (every alnum s.data.toList)) ∧ w = w' := by
  unfold maxLen at hs
  go_enter Tryd.func44, Tryd.ntmps44
  go_wp2_with fail
  go_loop [5] (fun i => ∃ k : Nat, k ≤ s.size ∧ i = .int .i64 k ∧ every alnum (s.data.toList.take k) = true) (fun i => s.size - (intOf i).toNat)
  case atStart => exact ⟨0, Nat.zero_le _, rfl, rfl⟩
  case round =>
    obtain ⟨k, hk, rfl, hev⟩ := hrel
    have Hev := Lib.hid hev
    clear hev
    by_cases hlt : k < s.size
    · have hb := bAt_mk s k hlt
      have hb0 := bAt_lo s.data.toList k
      have hb1 := bAt_hi s.data.toList k
      have Hs := Lib.hid (every_snoc alnum s.data.toList k (by simpa using hlt))
      have Hn := Lib.hid (every_no alnum s.data.toList k (by simpa using hlt))
      cases hq : alnum (bAt s.data.toList k)
      all_goals
        have Hq := Lib.hid hq
        clear hq
        generalize bAt s.data.toList k = c at *
        go_wp2_with fail
        refine (ref_alnum _ _).mono ?_; rintro e w1 ⟨rfl, rfl⟩; rw [Hq.out]
        go_wp2_with fail
      · go_ret
        exact ⟨ret_bool (by rw [Hn.out Hq.out]), rfl⟩
      · go_round
        case rel => exact ⟨k + 1, by omega, by go_num, by rw [Hs.out, Hev.out, Hq.out]; rfl⟩
        case measure => simp [intOf]; omega
    · have Hx := Lib.hid (show every alnum s.data.toList = true by have := Hev.out; rwa [List.take_of_length_le (by simp; omega)] at this)
      go_wp2_with fail
      go_ret
      exact ⟨ret_bool (by rw [Hx.out]), rfl⟩
set_option maxHeartbeats 400000 in
theorem r11_each5 (s : ByteArray) (w : World) (hs : s.size ≤ maxLen) :
    Calls Tryd.prog 44 #[.string s, .int .i64 5] w fun e w' => e = .returned (.bool (every isSym s.data.toList)) ∧ w = w' := by
  unfold maxLen at hs
  go_enter Tryd.func44, Tryd.ntmps44
  go_wp2_with fail
  go_loop [5] (fun i => ∃ k : Nat, k ≤ s.size ∧ i = .int .i64 k ∧ every isSym (s.data.toList.take k) = true) (fun i => s.size - (intOf i).toNat)
  case atStart => exact ⟨0, Nat.zero_le _, rfl, rfl⟩
  case round =>
    obtain ⟨k, hk, rfl, hev⟩ := hrel
    have Hev := Lib.hid hev
    clear hev
    by_cases hlt : k < s.size
    · have hb := bAt_mk s k hlt
      have hb0 := bAt_lo s.data.toList k
      have hb1 := bAt_hi s.data.toList k
      have Hs := Lib.hid (every_snoc isSym s.data.toList k (by simpa using hlt))
      have Hn := Lib.hid (every_no isSym s.data.toList k (by simpa using hlt))
      cases hq : isSym (bAt s.data.toList k)
      · have Hq := Lib.hid hq
        have hb5 : (cls (bAt s.data.toList k) != 5) = true := by unfold isSym at hq; simpa using hq
        clear hq
        generalize bAt s.data.toList k = c at *
        go_wp2_with fail
        refine (ref_class _ _).mono ?_; rintro e w1 ⟨rfl, rfl⟩
        go_wp2_with fail
        go_ret
        exact ⟨ret_bool (by rw [Hn.out Hq.out]), rfl⟩
      · have Hq := Lib.hid hq
        have hb5 : (cls (bAt s.data.toList k) != 5) = false := by unfold isSym at hq; simpa using hq
        clear hq
        generalize bAt s.data.toList k = c at *
        go_wp2_with fail
        refine (ref_class _ _).mono ?_; rintro e w1 ⟨rfl, rfl⟩
        go_wp2_with fail
        go_round
        case rel => exact ⟨k + 1, by omega, by go_num, by rw [Hs.out, Hev.out, Hq.out]; rfl⟩
        case measure => simp [intOf]; omega
    · have Hx := Lib.hid (show every isSym s.data.toList = true by have := Hev.out; rwa [List.take_of_length_le (by simp; omega)] at this)
      go_wp2_with fail
      go_ret
      exact ⟨ret_bool (by rw [Hx.out]), rfl⟩

theorem take_two (s : ByteArray) : (s.extract 0 2).data.toList = s.data.toList.take 2 := by rw [Lib.extract_data]; simp
set_option maxHeartbeats 1000000 in
theorem r11_plain (s : ByteArray) (w : World) (hs : s.size ≤ maxLen) :
    Calls Tryd.prog 17 #[.string s] w fun e w' => e = .returned (.bool (plainN s.data.toList)) ∧ w = w' := by
  have HT := Lib.hid (tl_data s)
  by_cases h1 : s.toList = []
  · have Hr := Lib.hid (show plainN s.data.toList = false by rw [← HT.out, h1]; rfl)
    have e2 : s.toList.isEmpty = true := by rw [h1]; rfl
    go_enter Tryd.func17, Tryd.ntmps17
    go_wp2_with fail
    go_ret
    exact ⟨ret_bool Hr.out.symm, rfl⟩
  have e1 : s.toList.isEmpty = false := by simpa using h1
  by_cases h2 : s.toList = [46]
  · have Hr := Lib.hid (show plainN s.data.toList = false by rw [← HT.out, h2]; rfl)
    have h2' := h2
    go_enter Tryd.func17, Tryd.ntmps17
    go_wp2_with fail
    go_ret
    exact ⟨ret_bool Hr.out.symm, rfl⟩
  by_cases h3 : s.toList = [91, 93] ∨ s.toList = [123, 125] ∨ s.toList = [33] ∨ s.toList = [59]
  · have Hr := Lib.hid (show plainN s.data.toList = true by rw [← HT.out]; rcases h3 with h | h | h | h <;> rw [h] <;> rfl)
    have H3 := Lib.hid h3
    clear h3
    go_enter Tryd.func17, Tryd.ntmps17
    go_wp2_with fail
    all_goals first | (go_ret; exact ⟨ret_bool Hr.out.symm, rfl⟩) | (exfalso; have := H3.out; grind)
  have n1 : ¬s.toList = [91, 93] := fun h => h3 (.inl h)
  have n2 : ¬s.toList = [123, 125] := fun h => h3 (.inr (.inl h))
  have n3 : ¬s.toList = [33] := fun h => h3 (.inr (.inr (.inl h)))
  have n4 : ¬s.toList = [59] := fun h => h3 (.inr (.inr (.inr h)))
  have H3 := Lib.hid h3
  have m0 : (s.toList == [46]) = false := by simp [h2]
  have m1 : (s.toList == [91, 93]) = false := by simp [n1]
  have m2 : (s.toList == [123, 125]) = false := by simp [n2]
  have m3 : (s.toList == [33]) = false := by simp [n3]
  have m4 : (s.toList == [59]) = false := by simp [n4]
  clear h3
  have hpos : 0 < s.size := by
    rcases Nat.eq_zero_or_pos s.size with h | h
    · exact absurd (empty_of s h).1 h1
    · exact h
  by_cases h4 : 100 < s.size
  · have b4 : decide ((100 : Int) < s.size) = true := by simp; omega
    have Hr := Lib.hid (show plainN s.data.toList = false by unfold plainN; rw [size_data]; simp; omega)
    clear h4
    go_enter Tryd.func17, Tryd.ntmps17
    go_wp2_with fail
    go_ret
    exact ⟨ret_bool Hr.out.symm, rfl⟩
  have b4 : decide ((100 : Int) < s.size) = false := by simp; omega
  have hp5 : s.data.toList.take 2 = [47, 42] → plainN s.data.toList = false := fun h => by
    cases hx : plainN s.data.toList with
    | false => rfl
    | true =>
      rw [plain_iff] at hx
      rw [← HT.out] at hx h
      exfalso
      rcases hx with (hx | hx) | ⟨_, (hx | hx) | ⟨_, hx⟩ | ⟨_, _, _, hx⟩⟩
      · exact n1 hx
      · exact n2 hx
      · exact n3 hx
      · exact n4 hx
      · rw [((take2_iff _).1 h).1] at hx; exact absurd hx (by decide +kernel)
      · exact hx h
  have HP5 := Lib.hid hp5
  clear hp5
  have hbb := bAt_mk s 0 hpos
  have hc0 := bAt_lo s.data.toList 0
  have hc1 := bAt_hi s.data.toList 0
  have HR := Lib.hid (fun h5 => plain_ref s.data.toList (by rw [← HT.out]; exact h1) (by rw [← HT.out]; exact h2) (by rw [← HT.out]; exact H3.out) (by rw [size_data]; omega) h5)
  generalize bAt s.data.toList 0 = c at *
  by_cases h6 : 2 ≤ s.size
  · have b6 : decide ((2 : Int) ≤ s.size) = true := by simp; omega
    have HX := Lib.hid (take_two s)
    have HT2 := Lib.hid (tl_data (s.extract 0 2))
    by_cases h5 : (s.extract 0 2).toList = [47, 42]
    · have Hr := Lib.hid (HP5.out (by rw [← HX.out, ← HT2.out]; exact h5))
      clear h4
      go_enter Tryd.func17, Tryd.ntmps17
      go_wp2_with fail
      go_ret
      exact ⟨ret_bool Hr.out.symm, rfl⟩
    · have Hr := Lib.hid (HR.out (by rw [← HX.out, ← HT2.out]; exact h5))
      clear h4
      go_enter Tryd.func17, Tryd.ntmps17
      go_wp2_with (first
        | (go_at_call 43; refine (ref_class _ _).mono ?_; rintro e w1 ⟨rfl, rfl⟩)
        | (go_at_call 44; with_reducible refine (r11_each0 _ _ hs).mono ?_; rintro e w1 ⟨rfl, rfl⟩)
        | (go_at_call 44; with_reducible refine (r11_each5 _ _ hs).mono ?_; rintro e w1 ⟨rfl, rfl⟩))
      all_goals (go_ret; exact ⟨ret_bool (by rw [Hr.out]; grind), rfl⟩)
  · have b6 : decide ((2 : Int) ≤ s.size) = false := by simp; omega
    have Hr := Lib.hid (HR.out (fun h => by
      have := congrArg List.length h
      rw [List.length_take, size_data] at this
      simp at this; omega))
    clear h4 h6
    go_enter Tryd.func17, Tryd.ntmps17
    go_wp2_with (first
      | (go_at_call 43; refine (ref_class _ _).mono ?_; rintro e w1 ⟨rfl, rfl⟩)
      | (go_at_call 44; with_reducible refine (r11_each0 _ _ hs).mono ?_; rintro e w1 ⟨rfl, rfl⟩)
      | (go_at_call 44; with_reducible refine (r11_each5 _ _ hs).mono ?_; rintro e w1 ⟨rfl, rfl⟩))
    all_goals (go_ret; exact ⟨ret_bool (by rw [Hr.out]; grind), rfl⟩)
end Go.Proofs.YtmjeajfakhmakaaDoor
