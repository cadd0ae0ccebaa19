/- Plain functions and laws: characters, digits, escapes. No program in sight. -/
namespace Hb

/-- The byte at a place, as an integer (0 behind the end). -/
def bAt (l : List UInt8) (k : Nat) : Int := ((l.getD k 0).toNat : Int)
theorem bAt_lo (l : List UInt8) (k : Nat) : 0 ≤ bAt l k := by unfold bAt; omega
theorem bAt_hi (l : List UInt8) (k : Nat) : bAt l k ≤ 255 := by unfold bAt; have := (l.getD k 0).toNat_lt; omega
theorem bAt_get (l : List UInt8) (k : Nat) (h : k < l.length) : (l[k].toNat : Int) = bAt l k := by
  unfold bAt; rw [List.getD_eq_getElem?_getD, List.getElem?_eq_getElem h]; rfl
theorem bAt_mk (s : ByteArray) (k : Nat) (h : k < s.size) : (s[k].toNat : Int) = bAt s.data.toList k := by
  have h' : k < s.data.toList.length := by simpa using h
  rw [← bAt_get _ _ h']; rfl

def isCh (c : Int) : Bool := decide (0 ≤ c) && decide (c ≤ 255)
theorem isCh_iff (c : Int) : isCh c = true ↔ 0 ≤ c ∧ c ≤ 255 := by simp [isCh]

def among (l : List UInt8) (c : Int) : Bool := l.any fun b => (b.toNat : Int) == c
theorem among_snoc (l : List UInt8) (k : Nat) (c : Int) (h : k < l.length) : among (l.take (k+1)) c = (among (l.take k) c || (bAt l k == c)) := by
  unfold among; rw [List.take_succ_eq_append_getElem h, List.any_append, ← bAt_get _ _ h]; simp
theorem among_stop (l : List UInt8) (k : Nat) (c : Int) (h : k < l.length) (e : bAt l k = c) : among l c = true := by
  unfold among; rw [List.any_eq_true]; exact ⟨l[k], List.getElem_mem h, by rw [bAt_get _ _ h, e]; simp⟩
theorem among_all (l : List UInt8) (k : Nat) (c : Int) (h : l.length ≤ k) (e : among (l.take k) c = false) : among l c = false := by
  rwa [List.take_of_length_le h] at e

/-- The class of a character. -/
def cls (c : Int) : Int :=
  if ¬(0 ≤ c ∧ c ≤ 255) then 0
  else if (9 ≤ c ∧ c ≤ 13) ∨ c = 32 then 1
  else if 97 ≤ c ∧ c ≤ 122 then 2
  else if (65 ≤ c ∧ c ≤ 90) ∨ c = 95 then 3
  else if 48 ≤ c ∧ c ≤ 57 then 4
  else if among [35, 36, 38, 42, 43, 45, 46, 47, 58, 60, 61, 62, 63, 64, 94, 126, 92] c then 5
  else if among [33, 40, 41, 44, 59, 91, 93, 123, 125, 37, 124] c then 6
  else if among [39, 34, 96] c then 7
  else 8
theorem cls_ite (P : Int → Prop) (c : Prop) [Decidable c] (a b : Int) (ha : P a) (hb : P b) : P (if c then a else b) := by split <;> assumption
theorem cls_lo (c : Int) : 0 ≤ cls c := by
  unfold cls; repeat' (refine cls_ite (0 ≤ ·) _ _ _ (by omega) ?_)
  omega
theorem cls_hi (c : Int) : cls c ≤ 8 := by
  unfold cls; repeat' (refine cls_ite (· ≤ 8) _ _ _ (by omega) ?_)
  omega
theorem cls_out (c : Int) (h : ¬(0 ≤ c ∧ c ≤ 255)) : cls c = 0 := by unfold cls; rw [if_pos h]

def alnum (c : Int) : Bool := cls c == 2 || (cls c == 3 || cls c == 4)

/-- The rows of the program's table of classes. -/
def rowOf : List (List UInt8) := [[9, 10, 11, 12, 13, 32],
  [97, 98, 99, 100, 101, 102, 103, 104, 105, 106, 107, 108, 109, 110, 111, 112, 113, 114, 115, 116, 117, 118, 119, 120, 121, 122],
  [65, 66, 67, 68, 69, 70, 71, 72, 73, 74, 75, 76, 77, 78, 79, 80, 81, 82, 83, 84, 85, 86, 87, 88, 89, 90, 95],
  [48, 49, 50, 51, 52, 53, 54, 55, 56, 57], [35, 36, 38, 42, 43, 45, 46, 47, 58, 60, 61, 62, 63, 64, 94, 126, 92],
  [33, 40, 41, 44, 59, 91, 93, 123, 125, 37, 124], [39, 34, 96]]
/-- The first row that holds a character (7: none). -/
def rowIx (c : Int) : Nat := rowOf.findIdx fun l => among l c
theorem rowIx_cls : ∀ n : Nat, n < 256 → cls (n : Int) = (rowIx (n : Int) : Int) + 1 := by decide +kernel
theorem rowIx_le (c : Int) : rowIx c ≤ 7 := List.findIdx_le_length

/-- The value of a digit. -/
def dig (c base : Int) : Option Int :=
  if base < 2 ∨ 36 < base then none
  else
    let v := if 48 ≤ c ∧ c ≤ 57 then c - 48 else if 97 ≤ c ∧ c ≤ 122 then c - 97 + 10 else if 65 ≤ c ∧ c ≤ 90 then c - 65 + 10 else 36
    if v < base then some v else none
def digV (c base : Int) : Int := (dig c base).getD 0
def digOk (c base : Int) : Bool := (dig c base).isSome

/-- What a letter behind a backslash denotes. -/
def une (c : Int) : Option Int :=
  if c = 92 ∨ c = 39 ∨ c = 34 ∨ c = 96 then some c
  else if c = 97 then some 7 else if c = 98 then some 8 else if c = 116 then some 9 else if c = 110 then some 10
  else if c = 118 then some 11 else if c = 102 then some 12 else if c = 114 then some 13 else none
def uneV (c : Int) : Int := (une c).getD 0
def uneOk (c : Int) : Bool := (une c).isSome

def letters : List UInt8 := [97, 98, 116, 110, 118, 102, 114]
theorem une_at (k : Nat) (h : k < 7) (c : Int) (e : bAt letters k = c) : une c = some (7 + k) := by
  subst e
  match k, h with
  | 0, _ => rfl
  | 1, _ => rfl
  | 2, _ => rfl
  | 3, _ => rfl
  | 4, _ => rfl
  | 5, _ => rfl
  | 6, _ => rfl
theorem among_iff (l : List UInt8) (c : Int) : among l c = true ↔ ∃ b ∈ l, (b.toNat : Int) = c := by simp [among]
theorem une_no (c : Int) (h : among letters c = false) : une c = if among [92, 39, 34, 96] c then some c else none := by
  simp only [among, letters, List.any_cons, List.any_nil, Bool.or_eq_false_iff, beq_eq_false_iff_ne, ne_eq, Bool.or_eq_true, beq_iff_eq] at h ⊢
  obtain ⟨h1, h2, h3, h4, h5, h6, h7, _⟩ := h
  simp at h1 h2 h3 h4 h5 h6 h7
  unfold une
  by_cases e : c = 92 ∨ c = 39 ∨ c = 34 ∨ c = 96
  · rw [if_pos e, if_pos (by simp; omega)]
  · rw [if_neg e, if_neg (by omega), if_neg (by omega), if_neg (by omega), if_neg (by omega), if_neg (by omega), if_neg (by omega), if_neg (by omega), if_neg (by simp; omega)]

/-- How a character is written within single quotes. -/
def hexd (n : Nat) : UInt8 := if n < 10 then (48 + n).toUInt8 else (87 + n).toUInt8
def esc (c : Int) : List UInt8 :=
  if ¬(0 ≤ c ∧ c ≤ 255) then []
  else if 7 ≤ c ∧ c ≤ 13 then [92, letters.getD (c - 7).toNat 0]
  else if c = 39 ∨ c = 92 then [92, c.toNat.toUInt8]
  else if 32 ≤ c ∧ c ≤ 126 then [c.toNat.toUInt8]
  else if 16 ≤ c then [92, 120, hexd (c.toNat / 16), hexd (c.toNat % 16), 92]
  else [92, 120, hexd (c.toNat % 16), 92]

/-- Conversion tables. -/
def prF (l : List (Int × Int)) (j : Nat) : Int := (l.getD j (0, 0)).1
def prT (l : List (Int × Int)) (j : Nat) : Int := (l.getD j (0, 0)).2
theorem prF_get (l : List (Int × Int)) (j : Nat) (h : j < l.length) : l[j].1 = prF l j := by
  unfold prF; rw [List.getD_eq_getElem?_getD, List.getElem?_eq_getElem h]; rfl
theorem prT_get (l : List (Int × Int)) (j : Nat) (h : j < l.length) : l[j].2 = prT l j := by
  unfold prT; rw [List.getD_eq_getElem?_getD, List.getElem?_eq_getElem h]; rfl
def okAt (l : List (Int × Int)) (j : Nat) : Bool := isCh (prF l j) && (isCh (prT l j) && (!(prF l j == prT l j) && (j == 0 || decide (prF l (j - 1) < prF l j))))
theorem okAt_1 (l k) (h : isCh (prF l k) = false) : okAt l k = false := by unfold okAt; rw [h]; rfl
theorem okAt_2 (l k) (h : isCh (prF l k) = true) (h2 : isCh (prT l k) = false) : okAt l k = false := by unfold okAt; rw [h, h2]; rfl
theorem okAt_3 (l k) (h : isCh (prF l k) = true) (h2 : isCh (prT l k) = true) (h3 : (prF l k == prT l k) = true) : okAt l k = false := by unfold okAt; rw [h, h2, h3]; rfl
theorem okAt_4 (l k) (h0 : k = 0) (h : isCh (prF l k) = true) (h2 : isCh (prT l k) = true) (h3 : (prF l k == prT l k) = false) : okAt l k = true := by unfold okAt; rw [h, h2, h3, h0]; rfl
theorem okAt_5 (l k) (h : isCh (prF l k) = true) (h2 : isCh (prT l k) = true) (h3 : (prF l k == prT l k) = false) (h4 : prF l (k - 1) < prF l k) : okAt l k = true := by unfold okAt; rw [h, h2, h3]; simp [h4]
theorem okAt_6 (l k) (h : isCh (prF l k) = true) (h2 : isCh (prT l k) = true) (h3 : (prF l k == prT l k) = false) (h0 : 0 < k) (h4 : ¬ prF l (k - 1) < prF l k) : okAt l k = false := by unfold okAt; rw [h, h2, h3]; simp; omega
def pvalid (l : List (Int × Int)) : Bool := (List.range l.length).all (okAt l)
theorem pvalid_all (l : List (Int × Int)) (h : ∀ j, j < l.length → okAt l j = true) : pvalid l = true := by
  unfold pvalid; rw [List.all_eq_true]; intro x hx; exact h x (List.mem_range.1 hx)
theorem pvalid_no (l : List (Int × Int)) (j : Nat) (hj : j < l.length) (h : okAt l j = false) : pvalid l = false := by
  unfold pvalid; rw [List.all_eq_false]; exact ⟨j, List.mem_range.2 hj, by simp [h]⟩
theorem pvalid_at (l : List (Int × Int)) (h : pvalid l = true) (j : Nat) (hj : j < l.length) : okAt l j = true := by
  unfold pvalid at h; rw [List.all_eq_true] at h; exact h j (List.mem_range.2 hj)
/-- The table: the last pair of a character counts. -/
def convT (l : List (Int × Int)) (c : Int) : Int := l.foldl (fun t p => if p.1 = c then p.2 else t) c
end Hb
