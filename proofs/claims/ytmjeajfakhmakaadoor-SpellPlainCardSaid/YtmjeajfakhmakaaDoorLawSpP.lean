/- The law SpellPlain. -/
import Derived.Test.YtmjeajfakhmakaaDoorSpellA
import Derived.Test.YtmjeajfakhmakaaDoorTopS
namespace Go.Proofs.YtmjeajfakhmakaaDoor
open Go.RowKit Hb
set_option maxRecDepth 100000

theorem bytes_back (s : ByteArray) : (⟨s.data.toList.toArray⟩ : ByteArray) = s := by simp
set_option maxHeartbeats 1600000 in
theorem law_spellPlain (s : ByteArray) (hs : s.size ≤ maxLen) (w : World) (hT : Tab15 w) :
    Calls Tryd.prog 8 #[.string s] w fun e w' => e = .returned (.bool true) ∧ Below w.heap.size w w' := by
  have HT := Lib.hid hT
  clear hT
  by_cases c1 : 1000 < s.size
  · have b1 : decide ((1000 : Int) < s.size) = true := by simp; omega
    clear c1
    go_enter Tryd.func8, Tryd.ntmps8
    go_wp2_with fail
    refine (law_awake11 _ HT.out).mono ?_; rintro e w1 ⟨rfl, hB1⟩
    go_wp2_with fail
    go_ret
    exact ⟨rfl, hB1⟩
  have b1 : decide ((1000 : Int) < s.size) = false := by simp; omega
  have HPS := Lib.hid (plain_same s.data.toList (by rw [size_data]; omega))
  have HN := Lib.hid (token_next s 0 none 0 0 [] w rfl (by decide) hs (Pairs.nil _ _))
  have HP := Lib.hid (fun w' => sp_plain s w' hs)
  generalize hr : nextTop s.data.toList 0 [] = r at *
  generalize hp : plainN s.data.toList = p at *
  obtain ⟨⟨k, t, nn, at_, en, er⟩, ly, wh⟩ := r
  have HQ := Lib.hid (show p = ((decide (er = 0) && (decide (k = 1) && (decide (t = s.toList) && (decide (nn = 0) && (decide (at_ = 0) && (decide (en = s.size) && !ly)))))) || (decide (s.toList = [91, 93]) || decide (s.toList = [123, 125]))) by
    have := HPS.out
    unfold sameB at this
    simp only [size_data] at this
    rw [tl_data]; exact this)
  clear hr hp c1 HPS
  go_enter Tryd.func8, Tryd.ntmps8
  go_wp2_with fail
  refine HN.out.mono ?_; rintro e w1 ⟨he, hB1⟩
  unfold GivesN nxtTup at he; subst he
  have hs1 := hB1.size
  go_wp2_with fail
  all_goals
    refine (carry (w0 := w) (hB1.alloc hs1 _) (HP.out _)).mono ?_; rintro e w2 ⟨rfl, hB2⟩
    by_cases d1 : s.toList = [91, 93]
    · have hp : p = true := by rw [HQ.out, d1]; simp
      have e1 : (s.toList == [91, 93]) = true := by simp [d1]
      subst hp
      go_wp2_with fail
      refine (carry (w0 := w) hB2 (law_awake11 _ (HT.out.below hB2))).mono ?_; rintro e w7 ⟨rfl, hB7⟩
      go_wp2_with fail
      go_ret
      exact ⟨rfl, hB7⟩
    by_cases d2 : s.toList = [123, 125]
    · have hp : p = true := by rw [HQ.out, d2]; simp
      have e1 : (s.toList == [91, 93]) = false := by simp [d1]
      have e2 : (s.toList == [123, 125]) = true := by simp [d2]
      subst hp
      go_wp2_with fail
      refine (carry (w0 := w) hB2 (law_awake11 _ (HT.out.below hB2))).mono ?_; rintro e w7 ⟨rfl, hB7⟩
      go_wp2_with fail
      go_ret
      exact ⟨rfl, hB7⟩
    have e1 : (s.toList == [91, 93]) = false := by simp [d1]
    have e2 : (s.toList == [123, 125]) = false := by simp [d2]
    have hp : p = true ∨ p = false := by cases p <;> simp
    have hq : (p = true ∧ er = 0 ∧ k = 1 ∧ t = s.toList ∧ nn = 0 ∧ at_ = 0 ∧ en = s.size ∧ ly = false) ∨ (p = false ∧ ¬(er = 0 ∧ k = 1 ∧ t = s.toList ∧ nn = 0 ∧ at_ = 0 ∧ en = s.size ∧ ly = false)) := by
      have := HQ.out
      simp only [d1, d2, decide_false, Bool.or_false] at this
      rcases hp with h | h
      · exact .inl ⟨h, by rw [h] at this; simpa using this.symm⟩
      · refine .inr ⟨h, fun hh => ?_⟩
        rw [h] at this
        obtain ⟨a1, a2, a3, a4, a5, a6, a7⟩ := hh
        simp [a1, a2, a3, a4, a5, a6, a7] at this
    have hv : p = true ∨ p = false := hp
    clear hp
    first
      | (obtain rfl : p = true := by grind
         go_wp2_with fail
         refine (carry (w0 := w) hB2 (law_awake11 _ (HT.out.below hB2))).mono ?_; rintro e w7 ⟨rfl, hB7⟩
         go_wp2_with fail
         go_ret
         exact ⟨rfl, hB7⟩)
      | (obtain rfl : p = false := by grind
         go_wp2_with fail
         refine (carry (w0 := w) hB2 (law_awake11 _ (HT.out.below hB2))).mono ?_; rintro e w7 ⟨rfl, hB7⟩
         go_wp2_with fail
         go_ret
         exact ⟨rfl, hB7⟩)
end Go.Proofs.YtmjeajfakhmakaaDoor
