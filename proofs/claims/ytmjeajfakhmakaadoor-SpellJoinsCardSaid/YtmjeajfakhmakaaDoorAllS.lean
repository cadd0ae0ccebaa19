/- All and Skip as plain functions; where tokens end. -/
import Derived.Test.YtmjeajfakhmakaaDoorItemS
namespace Hb

theorem item_len (q : Int) (hq : 0 ≤ q ∧ q ≤ 255) : ∀ (f : Nat) (l : List UInt8) (t : List UInt8) (k : Nat), itemF f l q = some (t, k) → k + 1 ≤ l.length
  | 0, _, _, _, h => by cases h
  | f + 1, l, t, k, h => by
    unfold itemF at h
    have n0 := rawAt_neg l 0
    by_cases a1 : rawAt l 0 = q ∧ ¬rawAt l 1 = q
    · rw [if_pos a1] at h; injection h with h; injection h with e1 e2; subst e2; omega
    rw [if_neg a1] at h
    by_cases a2 : rawAt l 0 = 92 ∧ rawAt l 1 = 10
    · have n1 := rawAt_neg l 1
      rw [if_pos a2] at h
      cases hi : itemF f (l.drop 2) q with
      | none => rw [hi] at h; cases h
      | some x =>
        obtain ⟨t', k'⟩ := x
        have := item_len q hq f (l.drop 2) t' k' hi
        rw [hi] at h; injection h with h; injection h with e1 e2; subst e2
        rw [List.length_drop] at this; simp only []; omega
    rw [if_neg a2] at h
    cases hs : quotedS l q with
    | none => rw [hs] at h; cases h
    | some ck =>
      obtain ⟨c, j⟩ := ck
      have hok := quotedS_ok l q c j hq hs
      rw [hs] at h
      simp only [] at h
      cases hi : itemF f (l.drop j) q with
      | none => rw [hi] at h; cases h
      | some x =>
        obtain ⟨t', k'⟩ := x
        have := item_len q hq f (l.drop j) t' k' hi
        rw [hi] at h; injection h with h; injection h with e1 e2; subst e2
        rw [List.length_drop] at this; simp only []; omega

theorem named_end (kind : Int) (t : List UInt8) (a e : Int) (h : (namedR kind t a e).err = 0) : (namedR kind t a e).at_ = a ∧ (namedR kind t a e).end_ = e ∧ (namedR kind t a e).kind = kind ∧ (namedR kind t a e).text = t := by
  unfold namedR at *
  by_cases hk : 100 < t.length
  · rw [if_pos hk] at h; exact absurd h (by decide)
  · rw [if_neg hk]; exact ⟨rfl, rfl, rfl, rfl⟩
theorem int_end (base : Int) (t : List UInt8) (a e : Int) (h : (intR base t a e).err = 0) : (intR base t a e).at_ = a ∧ (intR base t a e).end_ = e := by
  unfold intR at *
  by_cases hk : natOf base t ≤ 9223372036854775808
  · rw [if_pos hk]; exact ⟨rfl, rfl⟩
  · rw [if_neg hk] at h; exact absurd h (by decide)
theorem cls_alnum (c : Int) (h : cls c = 2 ∨ cls c = 3) : alnum c = true := by unfold alnum; rcases h with h | h <;> rw [h] <;> rfl
theorem cls_digit (c : Int) (h : cls c = 4) : isDig 10 c = true := by
  have hc : 48 ≤ c ∧ c ≤ 57 := by unfold cls at h; grind (splits := 30)
  unfold isDig; rw [digOk_dgt _ _ (by decide) (by decide)]; unfold dgt; rw [if_pos hc]; simp; omega
/-- A token lies behind its offset and within the text. -/
theorem tok_end (m l : List UInt8) (hl : m.length = l.length) (p : Nat) (hp : p < l.length) (h : (tokR m l p).err = 0) : (tokR m l p).at_ = p ∧ ∃ e : Nat, (tokR m l p).end_ = e ∧ p < e ∧ e ≤ l.length := by
  unfold tokR at *
  have hd : 0 < (m.drop p).length := by simp; omega
  have hr : rawAt (m.drop p) 0 = rawAt m p := by rw [rawAt_drop, Nat.add_zero]
  by_cases a0 : rawAt m p = 47 ∧ rawAt m (p + 1) = 42
  · rw [if_pos a0] at h; exact absurd h (by decide)
  rw [if_neg a0] at *
  by_cases a1 : cls (rawAt m p) = 2 ∨ cls (rawAt m p) = 3
  · rw [if_pos a1] at *
    have h1 := span_pos alnum (m.drop p) hd (by rw [hr]; exact cls_alnum _ a1)
    have h2 := span_le alnum (m.drop p)
    rw [List.length_drop] at h2
    obtain ⟨e1, e2, _⟩ := named_end _ _ _ _ h
    exact ⟨e1, p + span alnum (m.drop p), by unfold wordR; rw [e2]; simp, by omega, by omega⟩
  rw [if_neg a1] at *
  by_cases a2 : cls (rawAt m p) = 4
  · rw [if_pos a2] at *
    unfold numR at *
    by_cases b1 : rawAt m p = 48 ∧ rawAt m (p + 1) = 39
    · rw [if_pos b1] at *
      cases hq : quotedS (l.drop (p + 2)) 39 with
      | none => rw [hq] at h; exact absurd h (by show ¬(7 : Int) = 0; decide)
      | some ck =>
        obtain ⟨c, k⟩ := ck
        have hok := quotedS_ok _ _ _ _ (by decide) hq
        rw [List.length_drop] at hok
        exact ⟨rfl, p + 2 + k, by simp, by omega, by omega⟩
    rw [if_neg b1] at *
    by_cases b2 : 0 < numBase m p ∧ 0 < span (isDig (numBase m p)) (m.drop (p + 2))
    · rw [if_pos b2] at *
      have h2 := span_le (isDig (numBase m p)) (m.drop (p + 2))
      rw [List.length_drop] at h2
      obtain ⟨e1, e2⟩ := int_end _ _ _ _ h
      exact ⟨e1, p + 2 + span (isDig (numBase m p)) (m.drop (p + 2)), by rw [e2]; simp, by omega, by omega⟩
    · rw [if_neg b2] at *
      have h1 := span_pos (isDig 10) (m.drop p) hd (by rw [hr]; exact cls_digit _ a2)
      have h2 := span_le (isDig 10) (m.drop p)
      rw [List.length_drop] at h2
      obtain ⟨e1, e2⟩ := int_end _ _ _ _ h
      exact ⟨e1, p + span (isDig 10) (m.drop p), by rw [e2]; simp, by omega, by omega⟩
  rw [if_neg a2] at *
  by_cases a3 : cls (rawAt m p) = 5
  · rw [if_pos a3] at *
    unfold symR at *
    by_cases b1 : rawAt m p = 46 ∧ endNext (rawAt m (p + 1)) = true
    · rw [if_pos b1]; exact ⟨rfl, p + 1, by simp, by omega, by omega⟩
    · rw [if_neg b1] at *
      have h1 := span_pos isSym (m.drop p) hd (by rw [hr]; unfold isSym; rw [a3]; rfl)
      have h2 := span_le isSym (m.drop p)
      rw [List.length_drop] at h2
      obtain ⟨e1, e2, _⟩ := named_end _ _ _ _ h
      exact ⟨e1, p + span isSym (m.drop p), by rw [e2]; simp, by omega, by omega⟩
  rw [if_neg a3] at *
  by_cases a4 : cls (rawAt m p) = 6
  · rw [if_pos a4] at *
    obtain ⟨e1, e2, _⟩ := named_end _ _ _ _ h
    exact ⟨e1, p + 1, by unfold soloR; rw [e2]; simp, by omega, by omega⟩
  rw [if_neg a4] at *
  by_cases a5 : cls (rawAt m p) = 7
  · rw [if_pos a5] at *
    unfold quoteR at *
    by_cases b1 : rawAt m p = 34
    · rw [if_pos b1] at *
      cases hi : item (l.drop (p + 1)) 34 with
      | none => rw [hi] at h; exact absurd h (by show ¬(7 : Int) = 0; decide)
      | some x =>
        obtain ⟨t, k⟩ := x
        have := item_len 34 (by decide) _ _ _ _ hi
        rw [List.length_drop] at this
        exact ⟨rfl, p + 1 + k + 1, by simp [strRes], by omega, by omega⟩
    rw [if_neg b1] at *
    by_cases b2 : rawAt m p = 39
    · rw [if_pos b2] at *
      cases hi : item (l.drop (p + 1)) 39 with
      | none => rw [hi] at h; exact absurd h (by show ¬(7 : Int) = 0; decide)
      | some x =>
        obtain ⟨t, k⟩ := x
        have := item_len 39 (by decide) _ _ _ _ hi
        rw [List.length_drop] at this
        rw [hi] at h
        obtain ⟨e1, e2, _⟩ := named_end _ _ _ _ h
        exact ⟨e1, p + 1 + k + 1, by unfold nmRes; rw [e2]; simp, by omega, by omega⟩
    · rw [if_neg b2] at h; exact absurd h (by decide)
  · rw [if_neg a5] at h; exact absurd h (by decide)
theorem named_not14 (kind : Int) (t : List UInt8) (a e : Int) : ¬(namedR kind t a e).err = 14 := by
  unfold namedR; split
  · show ¬(2 : Int) = 14; decide
  · show ¬(0 : Int) = 14; decide
theorem int_not14 (base : Int) (t : List UInt8) (a e : Int) : ¬(intR base t a e).err = 14 := by
  unfold intR; split
  · show ¬(0 : Int) = 14; decide
  · show ¬(7 : Int) = 14; decide
theorem tok_not14 (m l : List UInt8) (p : Nat) : ¬(tokR m l p).err = 14 := by
  unfold tokR
  split
  · show ¬(7 : Int) = 14; decide
  split
  · exact named_not14 _ _ _ _
  split
  · unfold numR
    split
    · cases quotedS (l.drop (p + 2)) 39 with
      | none => show ¬(7 : Int) = 14; decide
      | some ck => show ¬(0 : Int) = 14; decide
    split
    · exact int_not14 _ _ _ _
    · exact int_not14 _ _ _ _
  split
  · unfold symR
    split
    · show ¬(0 : Int) = 14; decide
    · exact named_not14 _ _ _ _
  split
  · exact named_not14 _ _ _ _
  split
  · unfold quoteR
    split
    · cases item (l.drop (p + 1)) 34 with
      | none => show ¬(7 : Int) = 14; decide
      | some x => show ¬(0 : Int) = 14; decide
    split
    · cases item (l.drop (p + 1)) 39 with
      | none => show ¬(7 : Int) = 14; decide
      | some x => exact named_not14 _ _ _ _
    · show ¬(7 : Int) = 14; decide
  · show ¬(7 : Int) = 14; decide
theorem next_end (m l : List UInt8) (hl : m.length = l.length) (a : Nat) (ha : a ≤ l.length) (h : (nextR m l a).r.err = 0) :
    ∃ p e : Nat, (nextR m l a).r.at_ = p ∧ a ≤ p ∧ (nextR m l a).r.end_ = e ∧ p < e ∧ e ≤ l.length ∧ (nextR m l a).lay = decide (a < p) ∧ (nextR m l a).where_ = 0 := by
  unfold nextR at *
  have hs := skipN_le (m.drop a)
  rw [List.length_drop] at hs
  by_cases e1 : a + skipN (m.drop a) = l.length
  · simp only [if_pos e1] at h; exact absurd h (by decide)
  simp only [if_neg e1] at *
  by_cases e2 : (tokR m l (a + skipN (m.drop a))).err = 0
  · simp only [if_pos e2] at *
    obtain ⟨e3, e, e4, e5, e6⟩ := tok_end m l hl (a + skipN (m.drop a)) (by omega) h
    exact ⟨_, e, e3, by omega, e4, e5, e6, rfl, by first | trivial | rfl⟩
  · simp only [if_neg e2] at h
    exact absurd h e2

/-- What All returns. -/
structure AllR where
  l : List NextR
  where_ : Int
  err : Int
def allF : Nat → List UInt8 → List UInt8 → Nat → List NextR → AllR
  | 0, _, _, _, _ => ⟨[], 0, 99⟩
  | f + 1, m, l, a, acc =>
    if (nextR m l a).r.err = 14 ∧ acc ≠ [] then ⟨[], (nextR m l a).where_, 7⟩
    else if ¬(nextR m l a).r.err = 0 then ⟨[], (nextR m l a).where_, (nextR m l a).r.err⟩
    else if (nextR m l a).r.kind = 7 then ⟨acc ++ [nextR m l a], 0, 0⟩
    else allF f m l (nextR m l a).r.end_.toNat (acc ++ [nextR m l a])
def allR (m l : List UInt8) (a : Nat) : AllR := allF (l.length + 1) m l a []
/-- What Skip returns. -/
def skipTokF : Nat → List UInt8 → List UInt8 → Nat → Int
  | 0, _, _, _ => 0
  | f + 1, m, l, a =>
    if (nextR m l a).r.err = 14 then l.length
    else if ¬(nextR m l a).r.err = 0 then skipTokF f m l ((nextR m l a).where_ + 1).toNat
    else if (nextR m l a).r.kind = 7 then (nextR m l a).r.end_
    else skipTokF f m l (nextR m l a).r.end_.toNat
theorem skipTokF_succ (f : Nat) (m l : List UInt8) (a : Nat) : skipTokF (f + 1) m l a =
    if (nextR m l a).r.err = 14 then (l.length : Int)
    else if ¬(nextR m l a).r.err = 0 then skipTokF f m l ((nextR m l a).where_ + 1).toNat
    else if (nextR m l a).r.kind = 7 then (nextR m l a).r.end_
    else skipTokF f m l (nextR m l a).r.end_.toNat := rfl
theorem allF_succ (f : Nat) (m l : List UInt8) (a : Nat) (acc : List NextR) : allF (f + 1) m l a acc =
    if (nextR m l a).r.err = 14 ∧ acc ≠ [] then ⟨[], (nextR m l a).where_, 7⟩
    else if ¬(nextR m l a).r.err = 0 then ⟨[], (nextR m l a).where_, (nextR m l a).r.err⟩
    else if (nextR m l a).r.kind = 7 then ⟨acc ++ [nextR m l a], 0, 0⟩
    else allF f m l (nextR m l a).r.end_.toNat (acc ++ [nextR m l a]) := rfl
def skipTok (m l : List UInt8) (a : Nat) : Int := skipTokF (l.length + 1) m l a
/-- An error's offset is within the text, and before its end but at ErrEnd. -/
theorem next_where (m l : List UInt8) (hl : m.length = l.length) (a : Nat) (ha : a ≤ l.length) (h : ¬(nextR m l a).r.err = 0) :
    ∃ p : Nat, (nextR m l a).where_ = p ∧ a ≤ p ∧ p ≤ l.length ∧ ((nextR m l a).r.err = 14 → p = l.length) ∧ (¬(nextR m l a).r.err = 14 → p < l.length) ∧ nextR m l a = ⟨errR (nextR m l a).r.err, false, p⟩ := by
  unfold nextR at *
  have hs := skipN_le (m.drop a)
  rw [List.length_drop] at hs
  by_cases e1 : a + skipN (m.drop a) = l.length
  · simp only [if_pos e1] at *
    exact ⟨_, rfl, by omega, by omega, fun _ => e1, fun h => absurd rfl h, rfl⟩
  simp only [if_neg e1] at *
  by_cases e2 : (tokR m l (a + skipN (m.drop a))).err = 0
  · simp only [if_pos e2] at h; exact absurd e2 h
  · simp only [if_neg e2] at *
    refine ⟨_, rfl, by omega, by omega, fun h => ?_, fun _ => by omega, rfl⟩
    exact absurd h (tok_not14 _ _ _)
end Hb
