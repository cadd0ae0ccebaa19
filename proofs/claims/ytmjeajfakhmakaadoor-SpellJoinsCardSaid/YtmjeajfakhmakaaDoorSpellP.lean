/- Plain law: a name is plain exactly if it is read as itself without quotes. -/
import Derived.Test.YtmjeajfakhmakaaDoorSpellS
namespace Hb
theorem span_all (q : Int → Bool) : ∀ s : List UInt8, span q s = s.length ↔ every q s = true
  | [] => by simp [span, every]
  | b :: s => by
    have ih := span_all q s
    have hl := span_le q s
    unfold every at ih ⊢
    rw [span, List.all_cons]
    by_cases h : q (b.toNat : Int) = true
    · rw [if_pos h, h, Bool.true_and, List.length_cons, ← ih]; omega
    · rw [if_neg h]
      have : q (b.toNat : Int) = false := by simpa using h
      rw [this, Bool.false_and, List.length_cons]; simp
theorem every_at (q : Int → Bool) (s : List UInt8) (h : every q s = true) (k : Nat) (hk : k < s.length) : q (rawAt s k) = true := by
  unfold every at h
  rw [List.all_eq_true] at h
  have := h s[k] (List.getElem_mem hk)
  rwa [rawAt_in _ _ hk, ← bAt_get _ _ hk]
/-- Is this token the text itself, as an unquoted name? -/
def sameB (r : NextR) (s : List UInt8) : Bool := decide (r.r.err = 0) && (decide (r.r.kind = 1) && (decide (r.r.text = s) && (decide (r.r.n = 0) && (decide (r.r.at_ = 0) && (decide (r.r.end_ = s.length) && !r.lay)))))
theorem sameB_iff (r : NextR) (s : List UInt8) : sameB r s = true ↔ r.r = ⟨1, s, 0, 0, s.length, 0⟩ ∧ r.lay = false := by
  obtain ⟨⟨a, b, c, d, e, f⟩, y, z⟩ := r
  unfold sameB; simp
  constructor
  · rintro ⟨rfl, rfl, rfl, rfl, rfl, rfl, rfl⟩; exact ⟨⟨rfl, rfl, rfl, rfl, rfl, rfl⟩, rfl⟩
  · rintro ⟨⟨rfl, rfl, rfl, rfl, rfl, rfl⟩, rfl⟩; exact ⟨rfl, rfl, rfl, rfl, rfl, rfl, rfl⟩
theorem raw_take1 (s : List UInt8) (h : s.length = 1) (c : UInt8) (hc : rawAt s 0 = (c.toNat : Int)) : s = [c] := by
  match s, h with
  | [b], _ =>
    rw [rawAt_cons] at hc
    have : b = c := UInt8.toNat_inj.1 (by omega)
    rw [this]
theorem take2_iff (s : List UInt8) : s.take 2 = [47, 42] ↔ rawAt s 0 = 47 ∧ rawAt s 1 = 42 := by
  match s with
  | [] => simp [rawAt]
  | [b] => simp [rawAt]
  | b :: c :: l =>
    rw [rawAt_cons, rawAt_succ, rawAt_cons]
    simp only [List.take_succ_cons, List.take_zero]
    constructor
    · intro h; injection h with h1 h; injection h with h2 _; subst h1; subst h2; exact ⟨rfl, rfl⟩
    · rintro ⟨h1, h2⟩
      have e1 : b = 47 := UInt8.toNat_inj.1 (by show b.toNat = 47; omega)
      have e2 : c = 42 := UInt8.toNat_inj.1 (by show c.toNat = 42; omega)
      rw [e1, e2]
theorem named_self (s : List UInt8) (h : s.length ≤ 100) : namedR 1 (s.take s.length) ((0 : Nat) : Int) ((0 : Nat) + (s.length : Int)) = ⟨1, s, 0, 0, s.length, 0⟩ := by
  unfold namedR
  rw [List.take_length, if_neg (by omega)]; simp
/-- What is read at the head of a text without layout text. -/
theorem tok_plain (s : List UInt8) (h0 : 0 < s.length) : tokR s s 0 = ⟨1, s, 0, 0, s.length, 0⟩ ↔
    (s.length ≤ 100 ∧ ((s = [33] ∨ s = [59]) ∨ ((every alnum s = true ∧ cls (rawAt s 0) = 2) ∨ (every isSym s = true ∧ ¬s = [46] ∧ ¬s.take 2 = [47, 42])))) := by
  have hz : (0 : Nat) + (s.length : Int) = (s.length : Int) := by omega
  have hlen : ∀ q, (s.take (span q s)).length = s.length → span q s = s.length := fun q h => by rw [List.length_take] at h; have := span_le q s; omega
  have hsym : every isSym s = true → cls (rawAt s 0) = 5 := fun h => by
    have := every_at isSym s h 0 h0
    unfold isSym at this; simpa using this
  unfold tokR
  rw [take2_iff]
  by_cases a0 : rawAt s 0 = 47 ∧ rawAt s (0 + 1) = 42
  · rw [if_pos a0]
    constructor
    · intro h; exact absurd (congrArg LexR.err h) (by show ¬(7 : Int) = 0; decide)
    · rintro ⟨_, h | ⟨_, h⟩ | ⟨_, _, h⟩⟩
      · rcases h with rfl | rfl
        · exact absurd a0.1 (by decide +kernel)
        · exact absurd a0.1 (by decide +kernel)
      · rw [a0.1] at h; exact absurd h (by decide +kernel)
      · exact absurd a0 h
  rw [if_neg a0]
  by_cases a1 : cls (rawAt s 0) = 2 ∨ cls (rawAt s 0) = 3
  · rw [if_pos a1]
    unfold wordR
    simp only [List.drop_zero]
    constructor
    · intro h
      obtain ⟨_, _, e3, e4⟩ := named_end _ _ _ _ (show _ = (0 : Int) by rw [h])
      rw [h] at e3 e4
      have e5 := hlen alnum (by rw [← e4])
      have e6 : s.length ≤ 100 := by
        rcases Nat.lt_or_ge 100 s.length with hx | hx
        · unfold namedR at h
          rw [e5, List.take_length, if_pos hx] at h
          exact absurd (congrArg LexR.err h) (by show ¬(2 : Int) = 0; decide)
        · exact hx
      refine ⟨e6, .inr (.inl ⟨(span_all _ _).1 e5, ?_⟩)⟩
      simp only [] at e3
      unfold wordKind at e3
      rcases a1 with a1 | a1
      · exact a1
      · rw [if_pos a1] at e3; exact absurd e3 (by decide)
    · rintro ⟨hl, h | ⟨h1, h2⟩ | ⟨h1, _⟩⟩
      · rcases h with rfl | rfl
        · exact absurd a1 (by decide +kernel)
        · exact absurd a1 (by decide +kernel)
      · rw [(span_all _ _).2 h1]
        have : wordKind (rawAt s 0) = 1 := by unfold wordKind; rw [h2]; rfl
        rw [this]; exact named_self s hl
      · have := hsym h1; omega
  rw [if_neg a1]
  by_cases a2 : cls (rawAt s 0) = 4
  · rw [if_pos a2]
    have hk : ¬(numR s s 0).kind = 1 ∨ ¬(numR s s 0).err = 0 := by
      unfold numR
      split
      · cases quotedS (s.drop (0 + 2)) 39 with
        | none => right; show ¬(7 : Int) = 0; decide
        | some ck => left; show ¬(4 : Int) = 1; decide
      split
      · unfold intR; split
        · left; show ¬(4 : Int) = 1; decide
        · right; show ¬(7 : Int) = 0; decide
      · unfold intR; split
        · left; show ¬(4 : Int) = 1; decide
        · right; show ¬(7 : Int) = 0; decide
    constructor
    · intro h; rw [h] at hk; rcases hk with hk | hk <;> exact absurd rfl hk
    · rintro ⟨_, h | ⟨_, h⟩ | ⟨h, _⟩⟩
      · rcases h with rfl | rfl
        · exact absurd a2 (by decide +kernel)
        · exact absurd a2 (by decide +kernel)
      · omega
      · have := hsym h; omega
  rw [if_neg a2]
  by_cases a3 : cls (rawAt s 0) = 5
  · rw [if_pos a3]
    unfold symR
    simp only [List.drop_zero]
    by_cases b1 : rawAt s 0 = 46 ∧ endNext (rawAt s (0 + 1)) = true
    · rw [if_pos b1]
      constructor
      · intro h; exact absurd (congrArg LexR.kind h) (by show ¬(7 : Int) = 1; decide)
      · rintro ⟨_, h | ⟨_, h⟩ | ⟨h1, h2, h3⟩⟩
        · rcases h with rfl | rfl
          · exact absurd a3 (by decide +kernel)
          · exact absurd a3 (by decide +kernel)
        · omega
        · exfalso
          by_cases hl : s.length = 1
          · exact h2 (raw_take1 s hl 46 b1.1)
          · have := every_at isSym s h1 1 (by omega)
            unfold isSym at this
            have hc : cls (rawAt s 1) = 5 := by simpa using this
            have hb := b1.2
            rw [Nat.zero_add] at hb
            unfold endNext at hb
            have h4 : ¬rawAt s 1 < 0 := fun h => by rw [cls_out _ (by omega)] at hc; omega
            have h5 : ¬rawAt s 1 = 37 := fun h => by rw [h] at hc; exact absurd hc (by decide +kernel)
            simp [h4, h5, hc] at hb
    · rw [if_neg b1]
      constructor
      · intro h
        obtain ⟨_, _, e3, e4⟩ := named_end _ _ _ _ (show _ = (0 : Int) by rw [h])
        rw [h] at e4
        have e5 := hlen isSym (by rw [← e4])
        have e6 : s.length ≤ 100 := by
          rcases Nat.lt_or_ge 100 s.length with hx | hx
          · unfold namedR at h
            rw [e5, List.take_length, if_pos hx] at h
            exact absurd (congrArg LexR.err h) (by show ¬(2 : Int) = 0; decide)
          · exact hx
        refine ⟨e6, .inr (.inr ⟨(span_all _ _).1 e5, fun h => ?_, a0⟩)⟩
        subst h
        exact b1 ⟨rfl, by decide +kernel⟩
      · rintro ⟨hl, h | ⟨_, h2⟩ | ⟨h1, _⟩⟩
        · rcases h with rfl | rfl
          · exact absurd a3 (by decide +kernel)
          · exact absurd a3 (by decide +kernel)
        · omega
        · rw [(span_all _ _).2 h1]; exact named_self s hl
  rw [if_neg a3]
  by_cases a4 : cls (rawAt s 0) = 6
  · rw [if_pos a4]
    unfold soloR
    simp only [List.drop_zero]
    constructor
    · intro h
      obtain ⟨_, _, e3, e4⟩ := named_end _ _ _ _ (show _ = (0 : Int) by rw [h])
      rw [h] at e3 e4
      simp only [] at e3 e4
      have hl : s.length = 1 := by
        have := congrArg List.length e4
        rw [List.length_take] at this; omega
      refine ⟨by omega, .inl ?_⟩
      unfold soloKind at e3
      by_cases hc : rawAt s 0 = 33 ∨ rawAt s 0 = 59
      · rcases hc with hc | hc
        · exact .inl (raw_take1 s hl 33 hc)
        · exact .inr (raw_take1 s hl 59 hc)
      · rw [if_neg hc] at e3; exact absurd e3 (by decide)
    · rintro ⟨_, h | ⟨_, h⟩ | ⟨h, _⟩⟩
      · rcases h with rfl | rfl
        · rfl
        · rfl
      · omega
      · have := hsym h; omega
  rw [if_neg a4]
  constructor
  · intro h
    exfalso
    have hk : ¬(if cls (rawAt s 0) = 7 then quoteR s s 0 else errR 7).kind = 1 ∨ ¬(if cls (rawAt s 0) = 7 then quoteR s s 0 else errR 7).err = 0 := by
      split
      · unfold quoteR
        split
        · cases item (s.drop (0 + 1)) 34 with
          | none => right; show ¬(7 : Int) = 0; decide
          | some ck => left; show ¬(5 : Int) = 1; decide
        split
        · cases item (s.drop (0 + 1)) 39 with
          | none => right; show ¬(7 : Int) = 0; decide
          | some x =>
            by_cases hx : 100 < x.1.length
            · right; simp [nmRes, namedR, hx, errR]
            · left; simp [nmRes, namedR, hx]
        · right; show ¬(7 : Int) = 0; decide
      · right; show ¬(7 : Int) = 0; decide
    rw [h] at hk; rcases hk with hk | hk <;> exact absurd rfl hk
  · rintro ⟨_, h | ⟨_, h⟩ | ⟨h, _⟩⟩
    · rcases h with rfl | rfl
      · exact absurd (show cls (rawAt [33] 0) = 6 by decide +kernel) a4
      · exact absurd (show cls (rawAt [59] 0) = 6 by decide +kernel) a4
    · omega
    · have := hsym h; omega
theorem plain_iff (s : List UInt8) : plainN s = true ↔ (s = [91, 93] ∨ s = [123, 125]) ∨ (s.length ≤ 100 ∧ ((s = [33] ∨ s = [59]) ∨ ((every alnum s = true ∧ cls (rawAt s 0) = 2) ∨ (0 < s.length ∧ every isSym s = true ∧ ¬s = [46] ∧ ¬s.take 2 = [47, 42])))) := by
  unfold plainN special
  simp
  constructor
  · rintro ⟨hl, h⟩
    rcases h with (h | h | h | h) | ⟨h1, h2⟩ | ⟨h1, h2, h3, h4⟩
    · exact .inl (.inl h)
    · exact .inl (.inr h)
    · exact .inr ⟨hl, .inl (.inl h)⟩
    · exact .inr ⟨hl, .inl (.inr h)⟩
    · exact .inr ⟨hl, .inr (.inl ⟨h1, h2⟩)⟩
    · exact .inr ⟨hl, .inr (.inr ⟨by cases s with | nil => exact absurd rfl h2 | cons => simp, h1, h3, h4⟩)⟩
  · rintro ((h | h) | ⟨hl, (h | h) | ⟨h1, h2⟩ | ⟨h0, h1, h3, h4⟩⟩)
    · subst h; exact ⟨by decide, .inl (.inl rfl)⟩
    · subst h; exact ⟨by decide, .inl (.inr (.inl rfl))⟩
    · exact ⟨hl, .inl (.inr (.inr (.inl h)))⟩
    · exact ⟨hl, .inl (.inr (.inr (.inr h)))⟩
    · exact ⟨hl, .inr (.inl ⟨h1, h2⟩)⟩
    · exact ⟨hl, .inr (.inr ⟨h1, by rintro rfl; simp at h0, h3, h4⟩)⟩
/-- Nothing of a plain name is layout text. -/
theorem plain_skip (s : List UInt8) (h0 : 0 < s.length) (h : (s = [33] ∨ s = [59]) ∨ ((every alnum s = true ∧ cls (rawAt s 0) = 2) ∨ (every isSym s = true ∧ ¬s.take 2 = [47, 42]))) : skipN s = 0 := by
  rw [skipN_eq]
  have hne : s.isEmpty = false := by cases s with | nil => simp at h0 | cons => rfl
  rw [hne, if_neg (by decide)]
  have h1 : ¬cls (rawAt s 0) = 1 ∧ ¬rawAt s 0 = 37 ∧ ¬(rawAt s 0 = 47 ∧ rawAt s 1 = 42) := by
    rcases h with (rfl | rfl) | ⟨_, h⟩ | ⟨h, h2⟩
    · decide +kernel
    · decide +kernel
    · refine ⟨by omega, fun e => ?_, fun e => ?_⟩
      · rw [e] at h; exact absurd h (by decide +kernel)
      · rw [e.1] at h; exact absurd h (by decide +kernel)
    · have := every_at isSym s h 0 h0
      unfold isSym at this
      have hc : cls (rawAt s 0) = 5 := by simpa using this
      refine ⟨by omega, fun e => ?_, fun e => h2 ((take2_iff s).2 e)⟩
      rw [e] at hc; exact absurd hc (by decide +kernel)
  rw [if_neg h1.1, if_neg h1.2.1, if_neg h1.2.2]
end Hb
