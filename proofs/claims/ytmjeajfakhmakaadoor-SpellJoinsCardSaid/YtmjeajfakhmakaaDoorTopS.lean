/- What Next reads at plain names and at integers. -/
import Derived.Test.YtmjeajfakhmakaaDoorIntsS
import Derived.Test.YtmjeajfakhmakaaDoorQuoN
namespace Go.Proofs.YtmjeajfakhmakaaDoor
open Hb
theorem next_self (s : List UInt8) (h : s.length ≤ 16384) : nextTop s 0 [] = nextR s s 0 := by
  have hok : okArgs s 0 [] = true := by unfold okArgs; simp; exact ⟨h, rfl⟩
  unfold nextTop
  rw [if_pos hok, cvt_id]; rfl
theorem plain_same (s : List UInt8) (h : s.length ≤ 1000) : plainN s = (sameB (nextTop s 0 []) s || (decide (s = [91, 93]) || decide (s = [123, 125]))) := by
  rw [Bool.eq_iff_iff, plain_iff, Bool.or_eq_true, Bool.or_eq_true, decide_eq_true_iff, decide_eq_true_iff, sameB_iff, next_self s (by omega)]
  have key : (nextR s s 0).r = ⟨1, s, 0, 0, s.length, 0⟩ ∧ (nextR s s 0).lay = false ↔ s.length ≤ 100 ∧ ((s = [33] ∨ s = [59]) ∨ ((every alnum s = true ∧ cls (rawAt s 0) = 2) ∨ (0 < s.length ∧ every isSym s = true ∧ ¬s = [46] ∧ ¬s.take 2 = [47, 42]))) := by
    constructor
    · rintro ⟨h1, h2⟩
      have he : (nextR s s 0).r.err = 0 := by rw [h1]
      obtain ⟨p, e, e1, _, e2, e3, e4, e5, _⟩ := next_end s s rfl 0 (Nat.zero_le _) he
      rw [h1] at e1 e2
      have hp : p = 0 := by simp only [] at e1; omega
      subst hp
      have h0 : 0 < s.length := by omega
      clear e1
      unfold nextR at h1
      simp only [List.drop_zero, Nat.zero_add] at h1
      by_cases c1 : skipN s = s.length
      · rw [if_pos c1] at h1; exact absurd (congrArg LexR.err h1) (by show ¬(14 : Int) = 0; decide)
      rw [if_neg c1] at h1
      by_cases c2 : (tokR s s (skipN s)).err = 0
      · rw [if_pos c2] at h1
        simp only [] at h1
        have c3 := (tok_end s s rfl (skipN s) (by have := skipN_le s; omega) c2).1
        have c4 : skipN s = 0 := by rw [h1] at c3; simp only [] at c3; omega
        rw [c4] at h1
        obtain ⟨d1, d2⟩ := (tok_plain s h0).1 h1
        refine ⟨d1, ?_⟩
        rcases d2 with d2 | d2 | d2
        · exact .inl d2
        · exact .inr (.inl d2)
        · exact .inr (.inr ⟨h0, d2⟩)
      · rw [if_neg c2] at h1
        exact absurd (congrArg LexR.err h1) (by show ¬(tokR s s (skipN s)).err = 0; exact c2)
    · rintro ⟨d1, d2⟩
      have h0 : 0 < s.length := by
        rcases d2 with (rfl | rfl) | ⟨_, d2⟩ | ⟨d2, _⟩
        · decide
        · decide
        · cases s with
          | nil => exact absurd d2 (by decide +kernel)
          | cons => simp
        · exact d2
      have d3 : (s = [33] ∨ s = [59]) ∨ ((every alnum s = true ∧ cls (rawAt s 0) = 2) ∨ (every isSym s = true ∧ ¬s = [46] ∧ ¬s.take 2 = [47, 42])) := by
        rcases d2 with d2 | d2 | ⟨_, d2⟩
        · exact .inl d2
        · exact .inr (.inl d2)
        · exact .inr (.inr d2)
      have hs : skipN s = 0 := plain_skip s h0 (by
        rcases d3 with d2 | d2 | ⟨d2, _, d4⟩
        · exact .inl d2
        · exact .inr (.inl d2)
        · exact .inr (.inr ⟨d2, d4⟩))
      have ht := (tok_plain s h0).2 ⟨d1, d3⟩
      unfold nextR
      simp only [List.drop_zero, Nat.zero_add, hs]
      rw [if_neg (by omega), ht]
      simp
  rw [key]
  constructor
  · rintro (h | h)
    · exact .inr h
    · exact .inl h
  · rintro (h | h)
    · exact .inr h
    · exact .inl h
theorem next_int (s : List UInt8) (n e : Int) (h : numR s s 0 = intTok n e ∧ cls (rawAt s 0) = 4 ∧ s.length ≤ 16384) : nextTop s 0 [] = ⟨intTok n e, false, 0⟩ := by
  obtain ⟨h1, h2, h3⟩ := h
  match s, h1, h2, h3 with
  | [], _, h2, _ => exact absurd h2 (by decide +kernel)
  | q :: t, h1, h2, h3 =>
    have hc := h2
    rw [rawAt_cons] at hc
    rw [top_quote q t (q :: t) rfl h3 (by omega) (fun x => by rw [x] at hc; exact absurd hc (by decide +kernel)) (fun x => by rw [x] at hc; exact absurd hc (by decide +kernel)), tok_num _ h2, h1]
    rfl
end Go.Proofs.YtmjeajfakhmakaaDoor
