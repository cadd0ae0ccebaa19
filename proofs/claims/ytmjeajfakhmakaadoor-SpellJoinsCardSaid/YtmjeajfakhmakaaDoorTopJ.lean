/- What All reads at joined token texts; which texts are token texts. -/
import Derived.Test.YtmjeajfakhmakaaDoorJoinA
import Derived.Test.YtmjeajfakhmakaaDoorTopS
import Derived.Test.YtmjeajfakhmakaaDoorAll
namespace Go.Proofs.YtmjeajfakhmakaaDoor
open Hb
theorem top_join (l : List (List UInt8)) (h : ∀ t ∈ l, TokText t) (hl : (joinN l).length ≤ 16382) : allTop (joinN l ++ [32, 46]) 0 [] = ⟨toksOf 0 [] l ++ [endT (joinN l).length], 0, 0⟩ := by
  have hok : okArgs (joinN l ++ [32, 46]) 0 [] = true := by unfold okArgs; simp; exact ⟨by omega, by omega, rfl⟩
  unfold allTop
  rw [if_pos hok, cvt_id]
  exact allR_join l h
theorem quote_text (s : List UInt8) (h : s.length ≤ 100) : TokText (quoteN s) ∧ tokR (quoteN s) (quoteN s) 0 = ⟨2, s, 0, 0, (quoteN s).length, 0⟩ := by
  have ht : tokR (quoteN s) (quoteN s) 0 = ⟨2, s, 0, 0, (quoteN s).length, 0⟩ := by
    rw [tok_sq s (quoteN s) rfl]
    unfold namedR
    rw [if_neg (by omega)]
    have : (quoteN s).length = (btws 39 s).length + 2 := by unfold quoteN; simp
    rw [this]; simp
  exact ⟨⟨by unfold quoteN; simp, skip_head 39 _ (by decide +kernel) (by decide) (by decide), by rw [ht], by rw [ht]; show ¬(2 : Int) = 7; decide, by rw [ht]⟩, ht⟩
/-- Is a text a token's text? -/
def oneB (r : NextR) (s : List UInt8) : Bool := decide (r.r.err = 0) && (decide (r.r.at_ = 0) && (decide (r.r.end_ = s.length) && !decide (r.r.kind = 7)))
theorem one_text (s : List UInt8) (h : s.length ≤ 16384) (ho : oneB (nextTop s 0 []) s = true) : TokText s ∧ (nextTop s 0 []).r = tokR s s 0 := by
  rw [next_self s h] at ho ⊢
  unfold oneB at ho
  simp only [Bool.and_eq_true, decide_eq_true_iff, Bool.not_eq_true', decide_eq_false_iff_not] at ho
  obtain ⟨he, ha, hend, hk⟩ := ho
  obtain ⟨p, e, e1, _, e2, e3, e4, e5, _⟩ := next_end s s rfl 0 (Nat.zero_le _) he
  have hp : p = 0 := by omega
  subst hp
  have h0 : 0 < s.length := by omega
  clear e1 e5
  unfold nextR at he ha hend hk ⊢
  simp only [List.drop_zero, Nat.zero_add] at he ha hend hk ⊢
  by_cases c1 : skipN s = s.length
  · rw [if_pos c1] at he; exact absurd he (by show ¬(14 : Int) = 0; decide)
  rw [if_neg c1] at he ha hend hk ⊢
  by_cases c2 : (tokR s s (skipN s)).err = 0
  · rw [if_pos c2] at he ha hend hk ⊢
    simp only [] at he ha hend hk ⊢
    have c3 := (tok_end s s rfl (skipN s) (by have := skipN_le s; omega) c2).1
    have c4 : skipN s = 0 := by omega
    rw [c4] at he ha hend hk ⊢
    exact ⟨⟨h0, c4, he, hk, hend⟩, rfl⟩
  · rw [if_neg c2] at he; exact absurd he c2
end Go.Proofs.YtmjeajfakhmakaaDoor
