/- The lexer as plain functions on lists of bytes. m: the converted bytes from a place on; l: the raw ones. -/
import Derived.Test.YtmjeajfakhmakaaDoorPlain
namespace Hb

/-- The byte at a place, -1 at the end. -/
def rawAt (l : List UInt8) (i : Nat) : Int := if i < l.length then bAt l i else -1
theorem rawAt_in (l : List UInt8) (i : Nat) (h : i < l.length) : rawAt l i = bAt l i := by unfold rawAt; rw [if_pos h]
theorem rawAt_out (l : List UInt8) (i : Nat) (h : l.length ≤ i) : rawAt l i = -1 := by unfold rawAt; rw [if_neg (by omega)]
theorem rawAt_lo (l : List UInt8) (i : Nat) : -1 ≤ rawAt l i := by
  unfold rawAt; split
  · have := bAt_lo l i; omega
  · omega
theorem rawAt_hi (l : List UInt8) (i : Nat) : rawAt l i ≤ 255 := by
  unfold rawAt; split
  · exact bAt_hi l i
  · omega
theorem rawAt_neg (l : List UInt8) (i : Nat) : rawAt l i < 0 ↔ l.length ≤ i := by
  unfold rawAt; split
  · have := bAt_lo l i; omega
  · omega
theorem bAt_drop (l : List UInt8) (i j : Nat) : bAt (l.drop i) j = bAt l (i + j) := by
  unfold bAt; simp [List.getD_eq_getElem?_getD, List.getElem?_drop]
theorem rawAt_drop (l : List UInt8) (i j : Nat) : rawAt (l.drop i) j = rawAt l (i + j) := by
  unfold rawAt; rw [bAt_drop, List.length_drop]
  by_cases h : j < l.length - i
  · rw [if_pos h, if_pos (by omega)]
  · rw [if_neg h, if_neg (by omega)]
theorem rawAt_cons (b : UInt8) (l : List UInt8) : rawAt (b :: l) 0 = (b.toNat : Int) := by
  unfold rawAt bAt; simp
theorem rawAt_succ (b : UInt8) (l : List UInt8) (i : Nat) : rawAt (b :: l) (i + 1) = rawAt l i := by
  unfold rawAt bAt; simp

/-- The converted bytes. -/
def cvt (tab : Int → Int) (l : List UInt8) : List UInt8 := l.map fun b => (tab (b.toNat : Int)).toNat.toUInt8
theorem cvt_len (tab : Int → Int) (l : List UInt8) : (cvt tab l).length = l.length := by simp [cvt]
def TabOk (tab : Int → Int) : Prop := ∀ c, 0 ≤ c → c ≤ 255 → 0 ≤ tab c ∧ tab c ≤ 255
theorem cvt_at (tab : Int → Int) (ht : TabOk tab) (l : List UInt8) (i : Nat) (h : i < l.length) : tab (bAt l i) = bAt (cvt tab l) i := by
  have h2 : i < (cvt tab l).length := by rw [cvt_len]; exact h
  have hb := ht (bAt l i) (bAt_lo l i) (bAt_hi l i)
  rw [← bAt_get _ _ h2, ← bAt_get _ _ h] at *
  simp only [cvt, List.getElem_map]
  simp; omega

def isSym (c : Int) : Bool := cls c == 5
/-- How many bytes at the head are selected. -/
def span (q : Int → Bool) : List UInt8 → Nat
  | [] => 0
  | b :: l => if q (b.toNat : Int) then span q l + 1 else 0
theorem span_le (q : Int → Bool) : ∀ l, span q l ≤ l.length
  | [] => Nat.le_refl _
  | b :: l => by unfold span; split; · have := span_le q l; simp; omega
                 · exact Nat.zero_le _
theorem drop_cons (l : List UInt8) (k : Nat) (h : k < l.length) : l.drop k = l[k] :: l.drop (k + 1) := List.drop_eq_getElem_cons h
theorem span_yes (q : Int → Bool) (l : List UInt8) (k : Nat) (h : k < l.length) (hq : q (bAt l k) = true) : span q (l.drop k) = span q (l.drop (k + 1)) + 1 := by
  rw [drop_cons l k h, span, bAt_get _ _ h, if_pos hq]
theorem span_no (q : Int → Bool) (l : List UInt8) (k : Nat) (h : k < l.length) (hq : q (bAt l k) = false) : span q (l.drop k) = 0 := by
  rw [drop_cons l k h, span, bAt_get _ _ h, hq]; rfl
theorem span_end (q : Int → Bool) (l : List UInt8) (k : Nat) (h : l.length ≤ k) : span q (l.drop k) = 0 := by
  rw [List.drop_of_length_le h]; rfl
/-- How long the layout text at the head is. -/
def closeAt : List UInt8 → Option Nat
  | [] => none
  | b :: l => if b = 42 ∧ rawAt l 0 = 47 then some 0 else (closeAt l).map (· + 1)
def notNl (c : Int) : Bool := !(c == 10)
def skipF : Nat → List UInt8 → Nat
  | 0, _ => 0
  | f + 1, l =>
    if l.isEmpty then 0
    else if cls (rawAt l 0) = 1 then 1 + skipF f (l.drop 1)
    else if rawAt l 0 = 37 then span notNl l + skipF f (l.drop (span notNl l))
    else if rawAt l 0 = 47 ∧ rawAt l 1 = 42 then
      match closeAt (l.drop 2) with
      | none => 0
      | some k => (k + 4) + skipF f (l.drop (k + 4))
    else 0
theorem span_pos (q : Int → Bool) (l : List UInt8) (h : 0 < l.length) (hq : q (rawAt l 0) = true) : 1 ≤ span q l := by
  match l, h with
  | b :: l, _ => rw [rawAt_cons] at hq; rw [span, if_pos hq]; omega
theorem skipF_fuel : ∀ (f g : Nat) (l : List UInt8), l.length ≤ f → l.length ≤ g → skipF f l = skipF g l
  | 0, 0, _, _, _ => rfl
  | 0, g + 1, l, h, _ => by
    have : l = [] := List.eq_nil_of_length_eq_zero (by omega)
    subst this; rfl
  | f + 1, 0, l, _, h => by
    have : l = [] := List.eq_nil_of_length_eq_zero (by omega)
    subst this; rfl
  | f + 1, g + 1, l, h1, h2 => by
    unfold skipF
    by_cases h0 : l.isEmpty
    · rw [if_pos h0, if_pos h0]
    · rw [if_neg h0, if_neg h0]
      have hl : 0 < l.length := by
        cases l with
        | nil => simp at h0
        | cons => simp
      rw [skipF_fuel f g (l.drop 1) (by simp; omega) (by simp; omega)]
      by_cases hp : rawAt l 0 = 37
      · have := span_pos notNl l hl (by rw [hp]; rfl)
        rw [skipF_fuel f g (l.drop (span notNl l)) (by simp; omega) (by simp; omega)]
        simp only [if_pos hp]
      · simp only [if_neg hp]
        cases closeAt (l.drop 2) with
        | none => rfl
        | some k => simp only []; rw [skipF_fuel f g (l.drop (k + 4)) (by simp; omega) (by simp; omega)]
def skipN (l : List UInt8) : Nat := skipF l.length l
theorem skipN_eq (l : List UInt8) : skipN l =
    if l.isEmpty then 0
    else if cls (rawAt l 0) = 1 then 1 + skipN (l.drop 1)
    else if rawAt l 0 = 37 then span notNl l + skipN (l.drop (span notNl l))
    else if rawAt l 0 = 47 ∧ rawAt l 1 = 42 then
      match closeAt (l.drop 2) with
      | none => 0
      | some k => (k + 4) + skipN (l.drop (k + 4))
    else 0 := by
  unfold skipN
  rw [skipF_fuel l.length (l.length + 1) l (Nat.le_refl _) (by omega), skipF]
  rw [skipF_fuel l.length (l.drop 1).length (l.drop 1) (by simp) (Nat.le_refl _), skipF_fuel l.length (l.drop (span notNl l)).length (l.drop (span notNl l)) (by simp) (Nat.le_refl _)]
  cases closeAt (l.drop 2) with
  | none => rfl
  | some k => simp only []; rw [skipF_fuel l.length (l.drop (k + 4)).length (l.drop (k + 4)) (by simp) (Nat.le_refl _)]
theorem closeAt_le : ∀ (l : List UInt8) (k : Nat), closeAt l = some k → k + 2 ≤ l.length
  | [], k, h => by simp [closeAt] at h
  | b :: l, k, h => by
    unfold closeAt at h
    split at h
    · rename_i hb
      injection h with h
      subst h
      have := rawAt_neg l 0
      simp; omega
    · cases hc : closeAt l with
      | none => rw [hc] at h; simp at h
      | some j =>
        rw [hc] at h
        have := closeAt_le l j hc
        simp at h; simp; omega
theorem skipF_le : ∀ (f : Nat) (l : List UInt8), skipF f l ≤ l.length
  | 0, _ => Nat.zero_le _
  | f + 1, l => by
    unfold skipF
    by_cases h0 : l.isEmpty
    · rw [if_pos h0]; omega
    · rw [if_neg h0]
      have hl : 0 < l.length := by
        cases l with
        | nil => simp at h0
        | cons => simp
      have h1 := skipF_le f (l.drop 1)
      have h2 := skipF_le f (l.drop (span notNl l))
      have h3 := span_le notNl l
      simp only [List.length_drop] at h1 h2
      by_cases a1 : cls (rawAt l 0) = 1
      · rw [if_pos a1]; omega
      rw [if_neg a1]
      by_cases a2 : rawAt l 0 = 37
      · rw [if_pos a2]; omega
      rw [if_neg a2]
      by_cases a3 : rawAt l 0 = 47 ∧ rawAt l 1 = 42
      · rw [if_pos a3]
        cases hc : closeAt (l.drop 2) with
        | none => simp
        | some k =>
          have := closeAt_le _ _ hc
          have h4 := skipF_le f (l.drop (k + 4))
          simp only [List.length_drop] at this h4 ⊢
          omega
      · rw [if_neg a3]; omega
theorem skipN_le (l : List UInt8) : skipN l ≤ l.length := skipF_le _ _
theorem closeAt_yes (l : List UInt8) (k : Nat) (h : k < l.length) (h1 : rawAt l k = 42) (h2 : rawAt l (k + 1) = 47) : closeAt (l.drop k) = some 0 := by
  rw [rawAt_in _ _ h] at h1
  rw [← bAt_get _ _ h] at h1
  have e : l[k] = 42 := UInt8.toNat_inj.1 (by show l[k].toNat = 42; omega)
  rw [drop_cons l k h, closeAt, rawAt_drop, Nat.add_zero, if_pos ⟨e, h2⟩]
theorem closeAt_no (l : List UInt8) (k : Nat) (h : k < l.length) (h1 : ¬(rawAt l k = 42 ∧ rawAt l (k + 1) = 47)) : closeAt (l.drop k) = (closeAt (l.drop (k + 1))).map (· + 1) := by
  rw [rawAt_in _ _ h] at h1
  rw [drop_cons l k h, closeAt, rawAt_drop, Nat.add_zero, if_neg]
  rintro ⟨a, b⟩
  refine h1 ⟨?_, b⟩
  rw [← bAt_get _ _ h, a]; rfl
theorem closeAt_end (l : List UInt8) (k : Nat) (h : l.length ≤ k) : closeAt (l.drop k) = none := by
  rw [List.drop_of_length_le h]; rfl
theorem skip_at (l : List UInt8) (k : Nat) (h : k < l.length) : skipN (l.drop k) =
    if cls (rawAt l k) = 1 then 1 + skipN (l.drop (k + 1))
    else if rawAt l k = 37 then span notNl (l.drop k) + skipN (l.drop (k + span notNl (l.drop k)))
    else if rawAt l k = 47 ∧ rawAt l (k + 1) = 42 then
      match closeAt (l.drop (k + 2)) with
      | none => 0
      | some j => (j + 4) + skipN (l.drop (k + (j + 4)))
    else 0 := by
  rw [skipN_eq]
  have : (l.drop k).isEmpty = false := by
    rw [drop_cons l k h]; rfl
  rw [this]
  simp only [Bool.false_eq_true, if_false, rawAt_drop, List.drop_drop, Nat.add_zero]
theorem skip_end (l : List UInt8) (k : Nat) (h : l.length ≤ k) : skipN (l.drop k) = 0 := by
  rw [List.drop_of_length_le h]; rfl
theorem skip_lay (l : List UInt8) (k : Nat) (h : k < l.length) (h1 : cls (rawAt l k) = 1) : skipN (l.drop k) = 1 + skipN (l.drop (k + 1)) := by rw [skip_at l k h, if_pos h1]
theorem skip_pct (l : List UInt8) (k : Nat) (h : k < l.length) (h1 : ¬cls (rawAt l k) = 1) (h2 : rawAt l k = 37) : skipN (l.drop k) = span notNl (l.drop k) + skipN (l.drop (k + span notNl (l.drop k))) := by rw [skip_at l k h, if_neg h1, if_pos h2]
theorem skip_open (l : List UInt8) (k : Nat) (h : k < l.length) (h1 : rawAt l k = 47) (h2 : rawAt l (k + 1) = 42) (h3 : closeAt (l.drop (k + 2)) = none) : skipN (l.drop k) = 0 := by
  rw [skip_at l k h, if_neg (by rw [h1]; decide), if_neg (by rw [h1]; decide), if_pos ⟨h1, h2⟩, h3]
theorem skip_com (l : List UInt8) (k j : Nat) (h : k < l.length) (h1 : rawAt l k = 47) (h2 : rawAt l (k + 1) = 42) (h3 : closeAt (l.drop (k + 2)) = some j) : skipN (l.drop k) = (j + 4) + skipN (l.drop (k + (j + 4))) := by
  rw [skip_at l k h, if_neg (by rw [h1]; decide), if_neg (by rw [h1]; decide), if_pos ⟨h1, h2⟩, h3]
theorem skip_no (l : List UInt8) (k : Nat) (h : k < l.length) (h1 : ¬cls (rawAt l k) = 1) (h2 : ¬rawAt l k = 37) (h3 : ¬(rawAt l k = 47 ∧ rawAt l (k + 1) = 42)) : skipN (l.drop k) = 0 := by
  rw [skip_at l k h, if_neg h1, if_neg h2, if_neg h3]
end Hb
