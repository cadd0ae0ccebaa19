/- Contracts of spell: all, Plain. -/
import Derived.Test.YtmjeajfakhmakaaDoorSpell2
import Derived.Test.YtmjeajfakhmakaaDoorShelf
namespace Go.Proofs.YtmjeajfakhmakaaDoor
open Go.RowKit Hb
set_option maxRecDepth 100000

theorem every_snoc (q : Int → Bool) (s : List UInt8) (k : Nat) (h : k < s.length) : every q (s.take (k + 1)) = (every q (s.take k) && q (bAt s k)) := by
  unfold every; rw [List.take_succ_eq_append_getElem h, List.all_append, ← bAt_get _ _ h]; simp
theorem every_no (q : Int → Bool) (s : List UInt8) (k : Nat) (h : k < s.length) (hq : q (bAt s k) = false) : every q s = false := by
  unfold every; rw [List.all_eq_false]; exact ⟨s[k], List.getElem_mem h, by rw [bAt_get _ _ h, hq]; simp⟩
def allN (q : Int → Bool) (s : List UInt8) : Bool := every q s && !s.isEmpty

set_option maxHeartbeats 400000 in
theorem sp_all_alnum (s : ByteArray) (w : World) (hs : s.size ≤ maxLen) :
    Calls Tryd.prog 32 #[.string s, .func (.func 33) #[] #[]] w fun e w' => e = .returned (.bool (allN alnum s.data.toList)) ∧ Below w.heap.size w w' := by
  unfold maxLen at hs
  go_enter Tryd.func32, Tryd.ntmps32
  go_wp2_with fail
  go_loopw [8] (fun i wr => ∃ k : Nat, k ≤ s.size ∧ i = .int .i64 k ∧ every alnum (s.data.toList.take k) = true ∧ Below w.heap.size w wr) (fun i _ => s.size - (intOf i).toNat)
  case atStart => exact ⟨0, Nat.zero_le _, rfl, rfl, Below.refl _ _⟩
  case round =>
    obtain ⟨k, hk, rfl, hev, hB⟩ := hrel
    have Hev := Lib.hid hev
    clear hev
    have hbs := hB.size
    by_cases hlt : k < s.size
    · have hb := bAt_mk s k hlt
      have hb0 := bAt_lo s.data.toList k
      have hb1 := bAt_hi s.data.toList k
      have Hs := Lib.hid (every_snoc alnum s.data.toList k (by simpa using hlt))
      have Hn := Lib.hid (every_no alnum s.data.toList k (by simpa using hlt))
      cases hq : alnum (bAt s.data.toList k)
      all_goals
        have Hq := Lib.hid hq
        clear hq
        generalize bAt s.data.toList k = c at *
        go_wp2_with fail
        refine (carry (w0 := w) hB (sp_alnum _ _ (by assumption) (by assumption))).mono ?_; rintro e w1 ⟨rfl, hB1⟩; rw [Hq.out]
        go_wp2_with fail
      · go_ret
        exact ⟨ret_bool (by unfold allN; rw [Hn.out Hq.out]; rfl), hB1⟩
      · go_roundw
        case rel => exact ⟨k + 1, by omega, by go_num, by rw [Hs.out, Hev.out, Hq.out]; rfl, hB1⟩
        case measure => simp [intOf]; omega
    · have Hx := Lib.hid (show every alnum s.data.toList = true by have := Hev.out; rwa [List.take_of_length_le (by simp; omega)] at this)
      by_cases h0 : s.size = 0
      · have e1 := (empty_of s h0).1
        have e2 : s.toList.isEmpty = true := by rw [e1]; rfl
        have E3 := Lib.hid (empty_of s h0).2
        clear h0
        go_wp2_with fail
        go_ret
        exact ⟨ret_bool (by unfold allN; rw [Hx.out, E3.out]; rfl), hB⟩
      · have e1 := tl_ne s (by omega)
        have e2 := tl_ne2 s (by omega)
        have E3 := Lib.hid (show s.data.toList.isEmpty = false by rw [← tl_data]; exact e2)
        clear h0
        go_wp2_with fail
        go_ret
        exact ⟨ret_bool (by unfold allN; rw [Hx.out, E3.out]; rfl), hB⟩

set_option maxHeartbeats 400000 in
theorem sp_all_sym (s : ByteArray) (w : World) (hs : s.size ≤ maxLen) :
    Calls Tryd.prog 32 #[.string s, .func (.func 36) #[] #[]] w fun e w' => e = .returned (.bool (allN isSym s.data.toList)) ∧ Below w.heap.size w w' := by
  unfold maxLen at hs
  go_enter Tryd.func32, Tryd.ntmps32
  go_wp2_with fail
  go_loopw [8] (fun i wr => ∃ k : Nat, k ≤ s.size ∧ i = .int .i64 k ∧ every isSym (s.data.toList.take k) = true ∧ Below w.heap.size w wr) (fun i _ => s.size - (intOf i).toNat)
  case atStart => exact ⟨0, Nat.zero_le _, rfl, rfl, Below.refl _ _⟩
  case round =>
    obtain ⟨k, hk, rfl, hev, hB⟩ := hrel
    have Hev := Lib.hid hev
    clear hev
    have hbs := hB.size
    by_cases hlt : k < s.size
    · have hb := bAt_mk s k hlt
      have hb0 := bAt_lo s.data.toList k
      have hb1 := bAt_hi s.data.toList k
      have Hs := Lib.hid (every_snoc isSym s.data.toList k (by simpa using hlt))
      have Hn := Lib.hid (every_no isSym s.data.toList k (by simpa using hlt))
      cases hq : isSym (bAt s.data.toList k)
      all_goals
        have Hq := Lib.hid hq
        clear hq
        generalize bAt s.data.toList k = c at *
        go_wp2_with fail
        refine (carry (w0 := w) hB (sp_symbol _ _ (by assumption) (by assumption))).mono ?_; rintro e w1 ⟨rfl, hB1⟩; rw [Hq.out]
        go_wp2_with fail
      · go_ret
        exact ⟨ret_bool (by unfold allN; rw [Hn.out Hq.out]; rfl), hB1⟩
      · go_roundw
        case rel => exact ⟨k + 1, by omega, by go_num, by rw [Hs.out, Hev.out, Hq.out]; rfl, hB1⟩
        case measure => simp [intOf]; omega
    · have Hx := Lib.hid (show every isSym s.data.toList = true by have := Hev.out; rwa [List.take_of_length_le (by simp; omega)] at this)
      by_cases h0 : s.size = 0
      · have e1 := (empty_of s h0).1
        have e2 : s.toList.isEmpty = true := by rw [e1]; rfl
        have E3 := Lib.hid (empty_of s h0).2
        clear h0
        go_wp2_with fail
        go_ret
        exact ⟨ret_bool (by unfold allN; rw [Hx.out, E3.out]; rfl), hB⟩
      · have e1 := tl_ne s (by omega)
        have e2 := tl_ne2 s (by omega)
        have E3 := Lib.hid (show s.data.toList.isEmpty = false by rw [← tl_data]; exact e2)
        clear h0
        go_wp2_with fail
        go_ret
        exact ⟨ret_bool (by unfold allN; rw [Hx.out, E3.out]; rfl), hB⟩

/-- The first test: a name that wants no quotes. -/
def plain1 (s : List UInt8) : Bool := decide (s = [91, 93]) || (decide (s = [123, 125]) || (decide (s = [33]) || decide (s = [59])))
set_option maxHeartbeats 400000 in
theorem sp_plain1 (s : ByteArray) (b : Nat) (w : World) (hp : w.cell? ⟨b, 0, none⟩ = some (.string s)) :
    Calls Tryd.prog 30 #[.pointer (some ⟨b, 0, none⟩)] w fun e w' => e = .returned (.bool (plain1 s.data.toList)) ∧ Below w.heap.size w w' := by
  have HT := Lib.hid (tl_data s)
  go_enter Tryd.func30, Tryd.ntmps30
  go_wp2_with fail
  all_goals
    go_ret
    exact ⟨ret_bool (by unfold plain1; rw [← HT.out]; grind), Below.refl _ _⟩
/-- The second. -/
def plain2 (s : List UInt8) : Bool := allN alnum s && cls (bAt s 0) == 2
set_option maxHeartbeats 400000 in
theorem sp_plain2 (s : ByteArray) (b : Nat) (w : World) (hp : w.cell? ⟨b, 0, none⟩ = some (.string s)) (hb : b < w.heap.size) (hs : s.size ≤ maxLen) :
    Calls Tryd.prog 31 #[.pointer (some ⟨b, 0, none⟩)] w fun e w' => e = .returned (.bool (plain2 s.data.toList)) ∧ Below w.heap.size w w' := by
  cases ha : allN alnum s.data.toList
  · have Ha := Lib.hid ha
    clear ha
    go_enter Tryd.func31, Tryd.ntmps31
    go_wp2_with fail
    refine (sp_all_alnum _ _ hs).mono ?_; rintro e w1 ⟨rfl, hB1⟩; rw [Ha.out]
    go_wp2_with fail
    go_ret
    exact ⟨ret_bool (by unfold plain2; rw [Ha.out]; rfl), hB1⟩
  · have h0 : 0 < s.size := by
      rcases Nat.eq_zero_or_pos s.size with h | h
      · rw [(empty_of s h).2] at ha; cases ha
      · exact h
    have Ha := Lib.hid ha
    clear ha
    have hbb := bAt_mk s 0 h0
    have hb1 := bAt_hi s.data.toList 0
    have hb0 := bAt_lo s.data.toList 0
    generalize hc : bAt s.data.toList 0 = c at *
    have Hc := Lib.hid hc
    clear hc
    go_enter Tryd.func31, Tryd.ntmps31
    go_wp2_with fail
    refine (sp_all_alnum _ _ hs).mono ?_; rintro e w1 ⟨rfl, hB1⟩; rw [Ha.out]
    have hp1 := (hB1.cell (p := ⟨b, 0, none⟩) hb).trans hp
    go_wp2_with fail
    refine (carry (w0 := w) hB1 (chars_class _ _)).mono ?_; rintro e w2 ⟨rfl, hB2⟩
    go_wp2_with fail
    go_ret
    exact ⟨ret_bool (by unfold plain2; rw [Ha.out, Hc.out]; rfl), hB2⟩
/-- The third. -/
def plain3 (s : List UInt8) : Bool := allN isSym s && (!decide (s = [46]) && !Lib.hasPrefix s [47, 42])
set_option maxHeartbeats 400000 in
theorem sp_plain3 (s : ByteArray) (b : Nat) (w : World) (hp : w.cell? ⟨b, 0, none⟩ = some (.string s)) (hb : b < w.heap.size) (hs : s.size ≤ maxLen) :
    Calls Tryd.prog 35 #[.pointer (some ⟨b, 0, none⟩)] w fun e w' => e = .returned (.bool (plain3 s.data.toList)) ∧ Below w.heap.size w w' := by
  have HT := Lib.hid (tl_data s)
  cases ha : allN isSym s.data.toList
  · have Ha := Lib.hid ha
    clear ha
    go_enter Tryd.func35, Tryd.ntmps35
    go_wp2_with fail
    refine (sp_all_sym _ _ hs).mono ?_; rintro e w1 ⟨rfl, hB1⟩; rw [Ha.out]
    go_wp2_with fail
    go_ret
    exact ⟨ret_bool (by unfold plain3; rw [Ha.out]; rfl), hB1⟩
  · have Ha := Lib.hid ha
    clear ha
    go_enter Tryd.func35, Tryd.ntmps35
    go_wp2_with fail
    refine (sp_all_sym _ _ hs).mono ?_; rintro e w1 ⟨rfl, hB1⟩; rw [Ha.out]
    have hp1 := (hB1.cell (p := ⟨b, 0, none⟩) hb).trans hp
    go_wp2_with (go_at_call 37; refine (Tryd.strings_HasPrefix _ _ _).mono ?_; rintro e w2 ⟨rfl, rfl⟩)
    all_goals
      go_ret
      exact ⟨ret_bool (by unfold plain3; rw [Ha.out, ← HT.out]; first | rfl | grind), hB1⟩
end Go.Proofs.YtmjeajfakhmakaaDoor
