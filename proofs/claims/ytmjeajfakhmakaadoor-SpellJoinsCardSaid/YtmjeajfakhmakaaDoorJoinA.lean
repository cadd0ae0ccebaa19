/- Plain laws: token texts that are joined are read back, in order. -/
import Derived.Test.YtmjeajfakhmakaaDoorJoinS
namespace Hb
theorem glue_parts (t u : List UInt8) (ht : 0 < t.length) (hu : 0 < u.length) (h : glueN t u = false) (R : List UInt8) (hR : rawAt R 0 = rawAt u 0) : NoGlue t R := by
  have e1 : t.isEmpty = false := by cases t with | nil => simp at ht | cons => rfl
  have e2 : u.isEmpty = false := by cases u with | nil => simp at hu | cons => rfl
  unfold glueN at h
  rw [e1, e2] at h
  simp only [Bool.not_false, Bool.true_and, Bool.or_eq_false_iff, Bool.and_eq_false_iff] at h
  obtain ⟨h1, h2, h3, h4⟩ := h
  refine ⟨fun x => ?_, fun x => ?_, fun x y => ?_, fun x y => ?_⟩
  · rw [hR]; rcases h1 with h1 | h1
    · rw [x] at h1; cases h1
    · exact h1
  · rw [hR]; rcases h2 with h2 | h2
    · rw [x] at h2; cases h2
    · exact h2
  · rw [hR] at y
    rcases h3 with h3 | h3
    · rw [y] at h3; simp at h3
    · rw [x] at h3; simp at h3
  · rw [hR] at y
    rcases h4 with h4 | h4
    · rw [x] at h4; simp at h4
    · rw [y] at h4; simp at h4
theorem glue_space (t R : List UInt8) (hR : rawAt R 0 = 32) : NoGlue t R where
  a := fun _ => by rw [hR]; decide +kernel
  s := fun _ => by rw [hR]; decide +kernel
  q := fun h e => by rw [e, hR] at h; exact absurd h (by decide +kernel)
  z := fun _ => by rw [hR]; decide
theorem noGlue_rest (t : List UInt8) (ht : 0 < t.length) : ∀ (l : List (List UInt8)), (∀ u ∈ l, 0 < u.length) → NoGlue t (joinFrom t l ++ [32, 46])
  | [], _ => glue_space t _ rfl
  | u :: l, h => by
    have hu := h u (List.mem_cons_self ..)
    rw [joinFrom]
    unfold sepOf
    by_cases hg : glueN t u = true
    · rw [if_pos hg]
      exact glue_space t _ (by simp [rawAt_cons])
    · rw [if_neg hg]
      refine glue_parts t u ht hu (by simpa using hg) _ ?_
      rw [List.nil_append, List.append_assoc, raw_app1 _ _ _ hu]
/-- The tokens of joined texts, from a place on. -/
def toksOf : Nat → List UInt8 → List (List UInt8) → List NextR
  | _, _, [] => []
  | a, prev, t :: l => ⟨shL ((a + (sepOf prev t).length : Nat) : Int) (tokR t t 0), decide (0 < (sepOf prev t).length), 0⟩ :: toksOf (a + (sepOf prev t).length + t.length) t l
def endT (q : Nat) : NextR := ⟨⟨7, [46], 0, q + 1, q + 2, 0⟩, true, 0⟩
theorem toksOf_len : ∀ (l : List (List UInt8)) (a : Nat) (p : List UInt8), (toksOf a p l).length = l.length
  | [], _, _ => rfl
  | _ :: l, a, p => by rw [toksOf, List.length_cons, toksOf_len l, List.length_cons]
theorem toksOf_at : ∀ (l : List (List UInt8)) (a : Nat) (p : List UInt8) (_ : ∀ t ∈ l, TokText t) (j : Nat) (h : j < l.length), ∃ (b : Nat) (y : Bool), (toksOf a p l)[j]? = some ⟨shL b (tokR l[j] l[j] 0), y, 0⟩
  | [], _, _, _, _, h => absurd h (by simp)
  | t :: l, a, p, _, 0, _ => ⟨_, _, rfl⟩
  | t :: l, a, p, hT, j + 1, h => by
    have := toksOf_at l (a + (sepOf p t).length + t.length) t (fun u hu => hT u (List.mem_cons_of_mem _ hu)) j (by simpa using h)
    simpa [toksOf] using this
theorem skip_32 (x : List UInt8) : skipN (32 :: x) = 1 + skipN x := by
  rw [skipN_eq, rawAt_cons]
  simp only [List.isEmpty_cons, Bool.false_eq_true, if_false]
  rw [if_pos (by decide +kernel)]; rfl
theorem shL_ok0 (n : Int) (r : LexR) (h : r.err = 0) : shL n r = ⟨r.kind, r.text, r.n, r.at_ + n, r.end_ + n, 0⟩ := by unfold shL; rw [if_pos h]
theorem sep_cases (p t : List UInt8) : sepOf p t = [] ∨ sepOf p t = [32] := by unfold sepOf; split <;> simp
/-- The next token of a text that goes on with a token text, layout text ahead of it or not. -/
theorem next_sep (pre sep t R : List UInt8) (hs : sep = [] ∨ sep = [32]) (hT : TokText t) (hG : NoGlue t R) :
    nextR (pre ++ (sep ++ (t ++ R))) (pre ++ (sep ++ (t ++ R))) pre.length = ⟨shL ((pre.length + sep.length : Nat) : Int) (tokR t t 0), decide (0 < sep.length), 0⟩ := by
  have h1 := skip_more t R hT.pos hT.skip hT.err hG
  have h2 := tok_more t R hT.pos hT.err hT.kind hT.fin hG
  have h3 : skipN ((pre ++ (sep ++ (t ++ R))).drop pre.length) = sep.length := by
    rw [List.drop_left]
    rcases hs with rfl | rfl
    · exact h1
    · show skipN (32 :: (t ++ R)) = 1
      rw [skip_32, h1]
  have h4 : tokR (pre ++ (sep ++ (t ++ R))) (pre ++ (sep ++ (t ++ R))) (pre.length + sep.length) = shL ((pre.length + sep.length : Nat) : Int) (tokR t t 0) := by
    have := tok_app (pre ++ sep) (t ++ R) 0
    rw [h2, List.length_append, Nat.add_zero, List.append_assoc] at this
    exact this
  have h5 : (shL ((pre.length + sep.length : Nat) : Int) (tokR t t 0)).err = 0 := by rw [shL_ok0 _ _ hT.err]
  have hp := hT.pos
  unfold nextR
  simp only [h3]
  rw [h4, if_neg (by simp only [List.length_append]; omega), if_pos h5]
  congr 1
  rw [decide_eq_decide]; omega
theorem next_dot (pre : List UInt8) : nextR (pre ++ [32, 46]) (pre ++ [32, 46]) pre.length = endT pre.length := by
  have h3 : skipN ((pre ++ [32, 46]).drop pre.length) = 1 := by rw [List.drop_left]; decide +kernel
  have h4 : tokR (pre ++ [32, 46]) (pre ++ [32, 46]) (pre.length + 1) = ⟨7, [46], 0, pre.length + 1, pre.length + 2, 0⟩ := by
    have := tok_app (pre ++ [32]) [46] 0
    have e : tokR [46] [46] 0 = ⟨7, [46], 0, 0, 1, 0⟩ := rfl
    rw [e, shL_ok0 _ _ rfl, List.length_append, List.append_assoc] at this
    refine this.trans ?_
    simp; omega
  unfold nextR
  simp only [h3]
  rw [h4, if_neg (by simp), if_pos rfl]
  unfold endT
  simp
theorem all_join : ∀ (l : List (List UInt8)) (prev pre : List UInt8) (acc : List NextR) (f : Nat), (∀ t ∈ l, TokText t) → l.length < f →
    allF f (pre ++ (joinFrom prev l ++ [32, 46])) (pre ++ (joinFrom prev l ++ [32, 46])) pre.length acc = ⟨acc ++ (toksOf pre.length prev l ++ [endT (pre.length + (joinFrom prev l).length)]), 0, 0⟩
  | [], prev, pre, acc, 0, _, h => absurd h (by simp)
  | [], prev, pre, acc, f + 1, _, _ => by
    rw [joinFrom, List.nil_append, allF_succ, next_dot]
    rw [if_neg (by unfold endT; simp), if_neg (by unfold endT; simp), if_pos (show (endT pre.length).r.kind = 7 from rfl)]
    rfl
  | t :: l, prev, pre, acc, 0, _, h => absurd h (by simp)
  | t :: l, prev, pre, acc, f + 1, hT, hf => by
    have ht := hT t (List.mem_cons_self ..)
    have hl : ∀ u ∈ l, TokText u := fun u hu => hT u (List.mem_cons_of_mem _ hu)
    have hG := noGlue_rest t ht.pos l fun u hu => (hl u hu).pos
    have e1 : pre ++ (joinFrom prev (t :: l) ++ [32, 46]) = pre ++ (sepOf prev t ++ (t ++ (joinFrom t l ++ [32, 46]))) := by
      rw [joinFrom]; simp only [List.append_assoc]
    have e2 : pre ++ (joinFrom prev (t :: l) ++ [32, 46]) = (pre ++ sepOf prev t ++ t) ++ (joinFrom t l ++ [32, 46]) := by
      rw [e1]; simp only [List.append_assoc]
    have hn := next_sep pre (sepOf prev t) t _ (sep_cases prev t) ht hG
    rw [← e1] at hn
    have ho := shL_ok0 ((pre.length + (sepOf prev t).length : Nat) : Int) (tokR t t 0) ht.err
    rw [allF_succ, hn, ho]
    simp only []
    rw [if_neg (by simp), if_neg (by simp), if_neg ht.kind]
    have e3 : ((tokR t t 0).end_ + ((pre.length + (sepOf prev t).length : Nat) : Int)).toNat = (pre ++ sepOf prev t ++ t).length := by
      rw [ht.fin]; simp only [List.length_append]; omega
    rw [e3, e2, all_join l t (pre ++ sepOf prev t ++ t) _ f hl (by simpa using hf)]
    have e4 : (pre ++ sepOf prev t ++ t).length = pre.length + (sepOf prev t).length + t.length := by simp only [List.length_append]
    have e5 : pre.length + (sepOf prev t).length + t.length + (joinFrom t l).length = pre.length + (joinFrom prev (t :: l)).length := by
      rw [joinFrom]; simp only [List.length_append]; omega
    rw [toksOf, ho, e4, e5]
    simp
theorem joinFrom_pos : ∀ (l : List (List UInt8)) (p : List UInt8), (∀ t ∈ l, TokText t) → l.length ≤ (joinFrom p l).length
  | [], _, _ => by simp [joinFrom]
  | t :: l, p, h => by
    have h1 := (h t (List.mem_cons_self ..)).pos
    have h2 := joinFrom_pos l t fun u hu => h u (List.mem_cons_of_mem _ hu)
    rw [joinFrom, List.length_append, List.length_append, List.length_cons]; omega
theorem allR_join (l : List (List UInt8)) (h : ∀ t ∈ l, TokText t) : allR (joinN l ++ [32, 46]) (joinN l ++ [32, 46]) 0 = ⟨toksOf 0 [] l ++ [endT (joinN l).length], 0, 0⟩ := by
  have h1 := joinFrom_pos l [] h
  have := all_join l [] [] [] ((joinN l ++ [32, 46]).length + 1) h (by unfold joinN; rw [List.length_append]; simp; omega)
  simp only [List.nil_append, List.length_nil, Nat.zero_add] at this
  exact this
/-- Names, plain or quoted, are token texts. -/
theorem plain_text (s : List UInt8) (hp : plainN s = true) (h1 : ¬s = [91, 93]) (h2 : ¬s = [123, 125]) : TokText s ∧ tokR s s 0 = ⟨1, s, 0, 0, s.length, 0⟩ := by
  rw [plain_iff] at hp
  rcases hp with (h | h) | ⟨hl, h⟩
  · exact absurd h h1
  · exact absurd h h2
  have h0 : 0 < s.length := by
    rcases h with (rfl | rfl) | ⟨_, h⟩ | ⟨h, _⟩
    · decide
    · decide
    · cases s with
      | nil => exact absurd h (by decide +kernel)
      | cons => simp
    · exact h
  have h3 : (s = [33] ∨ s = [59]) ∨ ((every alnum s = true ∧ cls (rawAt s 0) = 2) ∨ (every isSym s = true ∧ ¬s = [46] ∧ ¬s.take 2 = [47, 42])) := by
    rcases h with h | h | ⟨_, h⟩
    · exact .inl h
    · exact .inr (.inl h)
    · exact .inr (.inr h)
  have ht := (tok_plain s h0).2 ⟨hl, h3⟩
  refine ⟨⟨h0, plain_skip s h0 ?_, by rw [ht], by rw [ht]; show ¬(1 : Int) = 7; decide, by rw [ht]⟩, ht⟩
  rcases h3 with h | h | ⟨h, _, h'⟩
  · exact .inl h
  · exact .inr (.inl h)
  · exact .inr (.inr ⟨h, h'⟩)
end Hb
