/- Numbers from digits: plain laws. -/
import Derived.Test.YtmjeajfakhmakaaDoorTokS
namespace Hb

/-- The value of a digit in any base, 36 for what is none. -/
def dgt (c : Int) : Int := if 48 ≤ c ∧ c ≤ 57 then c - 48 else if 97 ≤ c ∧ c ≤ 122 then c - 97 + 10 else if 65 ≤ c ∧ c ≤ 90 then c - 65 + 10 else 36
theorem dgt_lo (c : Int) : 0 ≤ dgt c := by unfold dgt; grind
theorem dgt_hi (c : Int) : dgt c ≤ 36 := by unfold dgt; grind
theorem dig_dgt (c base : Int) (h1 : 2 ≤ base) (h2 : base ≤ 36) : dig c base = if dgt c < base then some (dgt c) else none := by
  unfold dig dgt; grind
theorem digOk_dgt (c base : Int) (h1 : 2 ≤ base) (h2 : base ≤ 36) : digOk c base = decide (dgt c < base) := by
  unfold digOk; rw [dig_dgt c base h1 h2]; grind
theorem digV_dgt (c base : Int) (h1 : 2 ≤ base) (h2 : base ≤ 36) (h : dgt c < base) : digV c base = dgt c := by
  unfold digV; rw [dig_dgt c base h1 h2, if_pos h]; rfl
theorem natOf_snoc (base : Int) (l : List UInt8) (b : UInt8) : natOf base (l ++ [b]) = natOf base l * base.toNat + (digV (b.toNat : Int) base).toNat := by
  unfold natOf; rw [List.foldl_append]; rfl
theorem natOf_take (base : Int) (l : List UInt8) (k : Nat) (h : k < l.length) : natOf base (l.take (k + 1)) = natOf base (l.take k) * base.toNat + (digV (bAt l k) base).toNat := by
  rw [List.take_succ_eq_append_getElem h, natOf_snoc, bAt_get _ _ h]
theorem natOf_foldl_mono (base : Int) (h : 1 ≤ base) : ∀ (l : List UInt8) (a : Nat), a ≤ l.foldl (fun a b => a * base.toNat + (digV (b.toNat : Int) base).toNat) a
  | [], a => Nat.le_refl _
  | b :: l, a => by
    have := natOf_foldl_mono base h l (a * base.toNat + (digV (b.toNat : Int) base).toNat)
    have h1 : 1 ≤ base.toNat := by omega
    have h2 : a ≤ a * base.toNat := Nat.le_mul_of_pos_right a h1
    rw [List.foldl_cons]; omega
theorem natOf_mono (base : Int) (h : 1 ≤ base) (l : List UInt8) (k : Nat) : natOf base (l.take k) ≤ natOf base l := by
  have e : natOf base l = (l.drop k).foldl (fun a b => a * base.toNat + (digV (b.toNat : Int) base).toNat) (natOf base (l.take k)) := by
    unfold natOf
    rw [← List.foldl_append, List.take_append_drop]
  rw [e]; exact natOf_foldl_mono base h _ _
/-- Go's division toward zero, of a number that is not positive. -/
theorem tdiv_lt (n a b : Int) (hb : 0 < b) (ha : a ≤ 0) : n < a.tdiv b ↔ n * b < a := by
  obtain ⟨m, rfl⟩ : ∃ m, a = -m := ⟨-a, by omega⟩
  rw [Int.neg_tdiv, Int.tdiv_eq_ediv_of_nonneg (by omega)]
  constructor
  · intro h
    have h1 : m / b < -n := by omega
    have h2 := (Int.ediv_lt_iff_lt_mul hb).1 h1
    rw [Int.neg_mul] at h2; omega
  · intro h
    have h1 : m < -n * b := by rw [Int.neg_mul]; omega
    have h2 := (Int.ediv_lt_iff_lt_mul hb).2 h1
    omega
/-- The step of Parse: 'n' is the negative of the number so far. -/
theorem parse_step (a d b : Int) (hb : 0 < b) (hd0 : 0 ≤ d) (hd1 : d ≤ 36) : -a < (-9223372036854775808 + d).tdiv b ↔ 9223372036854775808 < a * b + d := by
  rw [tdiv_lt _ _ _ hb (by omega), Int.neg_mul]; omega
theorem span_rest (q : Int → Bool) : ∀ (l : List UInt8) (j : Nat), j < span q l → q (rawAt l j) = true ∧ j < l.length
  | [], j, h => by simp [span] at h
  | b :: l, j, h => by
    rw [span] at h
    split at h
    · rename_i hb
      match j with
      | 0 => rw [rawAt_cons]; exact ⟨hb, by simp⟩
      | j + 1 =>
        have := span_rest q l j (by omega)
        rw [rawAt_succ]; exact ⟨this.1, by simp; exact this.2⟩
    · omega
theorem span_stop (q : Int → Bool) (h : q (-1) = false) : ∀ (l : List UInt8), q (rawAt l (span q l)) = false
  | [] => by rw [rawAt_out _ _ (by simp)]; exact h
  | b :: l => by
    rw [span]
    split
    · rw [rawAt_succ]; exact span_stop q h l
    · rename_i hb
      rw [rawAt_cons]; simpa using hb
theorem isDig_end (base : Int) : isDig base (-1) = false := by
  unfold isDig digOk dig
  split
  · rfl
  · rename_i h
    rw [if_neg]
    · rfl
    · simp; omega
theorem natOf_step (base : Int) (h0 : 2 ≤ base) (h1 : base ≤ 36) (l : List UInt8) (j : Nat) (hj : j < span (isDig base) l) : (natOf base (l.take (j + 1)) : Int) = natOf base (l.take j) * base + digV (rawAt l j) base ∧ 0 ≤ digV (rawAt l j) base ∧ digV (rawAt l j) base ≤ 36 := by
  obtain ⟨hq, hl⟩ := span_rest _ _ _ hj
  rw [rawAt_in _ _ hl] at hq ⊢
  unfold isDig at hq
  rw [digOk_dgt _ _ h0 h1] at hq
  have hd : dgt (bAt l j) < base := by simpa using hq
  have := dgt_lo (bAt l j)
  have := dgt_hi (bAt l j)
  rw [natOf_take _ _ _ hl, digV_dgt _ _ h0 h1 hd]
  refine ⟨?_, by omega, by omega⟩
  push_cast
  rw [Int.toNat_of_nonneg (by omega), Int.toNat_of_nonneg (by omega)]
/-- The escape behind a backslash, in terms of the place of its digits. -/
theorem esc_none1 (l : List UInt8) (q : Int) (h : rawAt l 0 = 92) (hq : ¬rawAt l 0 = q) (hu : uneOk (rawAt l 1) = false) (hx : ¬(0 < escLen l ∧ escNum l ≤ 255 ∧ rawAt l (escFrom l + escLen l) = 92)) : quotedS l q = none := by
  unfold quotedS; rw [if_neg (by omega), if_neg hq, if_neg (fun hh => hh h), hu, if_neg (by simp), if_neg hx]
theorem esc_some1 (l : List UInt8) (q : Int) (h : rawAt l 0 = 92) (hq : ¬rawAt l 0 = q) (hu : uneOk (rawAt l 1) = false) (hx : 0 < escLen l ∧ escNum l ≤ 255 ∧ rawAt l (escFrom l + escLen l) = 92) : quotedS l q = some ((escNum l : Int), escFrom l + escLen l + 1) := by
  unfold quotedS; rw [if_neg (by omega), if_neg hq, if_neg (fun hh => hh h), hu, if_neg (by simp), if_pos hx]
end Hb
