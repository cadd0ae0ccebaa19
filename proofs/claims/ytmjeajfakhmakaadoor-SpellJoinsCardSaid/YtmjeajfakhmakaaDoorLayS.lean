/- Plain laws: layout text before a token; a text without quotes under a table. -/
import Derived.Test.YtmjeajfakhmakaaDoorAllS
namespace Hb

/-- A token, moved. -/
def shL (n : Int) (r : LexR) : LexR := if r.err = 0 then ⟨r.kind, r.text, r.n, r.at_ + n, r.end_ + n, 0⟩ else r
theorem shL_err (n e : Int) (h : ¬e = 0) : shL n (errR e) = errR e := by unfold shL errR; rw [if_neg h]
theorem shL_named (n kind : Int) (t : List UInt8) (a e a' e' : Int) (ha : a' = a + n) (he : e' = e + n) : namedR kind t a' e' = shL n (namedR kind t a e) := by
  subst ha; subst he
  unfold namedR
  by_cases h : 100 < t.length
  · rw [if_pos h, if_pos h, shL_err _ _ (by decide)]
  · rw [if_neg h, if_neg h]; rfl
theorem shL_int (n base : Int) (t : List UInt8) (a e a' e' : Int) (ha : a' = a + n) (he : e' = e + n) : intR base t a' e' = shL n (intR base t a e) := by
  subst ha; subst he
  unfold intR
  by_cases h : natOf base t ≤ 9223372036854775808
  · rw [if_pos h, if_pos h]; rfl
  · rw [if_neg h, if_neg h, shL_err _ _ (by decide)]
theorem shL_ok (n kind n0 a e a' e' : Int) (t : List UInt8) (ha : a' = a + n) (he : e' = e + n) : (⟨kind, t, n0, a', e', 0⟩ : LexR) = shL n ⟨kind, t, n0, a, e, 0⟩ := by
  subst ha; subst he; rfl
theorem shL_shL (n k : Int) (r : LexR) : shL n (shL k r) = shL (k + n) r := by
  by_cases h : r.err = 0
  · unfold shL; rw [if_pos h]; simp only [if_true]; rw [if_pos h]; simp [Int.add_assoc]
  · unfold shL; rw [if_neg h, if_neg h, if_neg h]
theorem numBase_drop (m : List UInt8) (p : Nat) : numBase (m.drop p) 0 = numBase m p := by
  unfold numBase; simp only [rawAt_drop, Nat.add_zero, Nat.zero_add]
theorem tok_drop (m l : List UInt8) (p : Nat) : tokR m l p = shL p (tokR (m.drop p) (l.drop p) 0) := by
  have r0 : rawAt (m.drop p) 0 = rawAt m p := by rw [rawAt_drop, Nat.add_zero]
  have r1 : rawAt (m.drop p) (0 + 1) = rawAt m (p + 1) := by rw [rawAt_drop, Nat.zero_add]
  unfold tokR
  simp only [r0, r1]
  split
  · rw [shL_err _ _ (by decide)]
  split
  · unfold wordR; rw [r0]; simp only [List.drop_zero]; exact shL_named _ _ _ _ _ _ _ (by simp) (by simp; omega)
  split
  · unfold numR
    simp only [r0, r1, numBase_drop, List.drop_drop, Nat.zero_add]
    split
    · cases quotedS (l.drop (p + 2)) 39 with
      | none => rw [shL_err _ _ (by decide)]
      | some ck => exact shL_ok _ _ _ _ _ _ _ _ (by simp) (by simp; omega)
    split
    · exact shL_int _ _ _ _ _ _ _ (by simp) (by simp; omega)
    · exact shL_int _ _ _ _ _ _ _ (by simp) (by simp; omega)
  split
  · unfold symR
    simp only [r0, r1, List.drop_zero]
    split
    · exact shL_ok _ _ _ _ _ _ _ _ (by simp) (by simp; omega)
    · exact shL_named _ _ _ _ _ _ _ (by simp) (by simp; omega)
  split
  · unfold soloR; rw [r0]; simp only [List.drop_zero]; exact shL_named _ _ _ _ _ _ _ (by simp) (by simp; omega)
  split
  · unfold quoteR
    simp only [r0, List.drop_drop, Nat.zero_add]
    split
    · cases item (l.drop (p + 1)) 34 with
      | none => unfold strRes; rw [shL_err _ _ (by decide)]
      | some x => unfold strRes; exact shL_ok _ _ _ _ _ _ _ _ (by simp) (by simp; omega)
    split
    · cases item (l.drop (p + 1)) 39 with
      | none => unfold nmRes; rw [shL_err _ _ (by decide)]
      | some x => unfold nmRes; exact shL_named _ _ _ _ _ _ _ (by simp) (by simp; omega)
    · rw [shL_err _ _ (by decide)]
  · rw [shL_err _ _ (by decide)]
theorem tok_app (pre l : List UInt8) (p : Nat) : tokR (pre ++ l) (pre ++ l) (pre.length + p) = shL pre.length (tokR l l p) := by
  rw [tok_drop, tok_drop l l p, shL_shL, List.drop_append, List.drop_of_length_le (by omega), show pre.length + p - pre.length = p by omega, List.nil_append]
  congr 1; simp; omega
theorem shL_errv (n : Int) (r : LexR) : (shL n r).err = r.err := by
  unfold shL; split
  · rename_i h; exact h.symm
  · rfl
/-- Layout text before a text. -/
def Lay (pre : List UInt8) : Prop := ∀ l, skipN (pre ++ l) = pre.length + skipN l
theorem Lay.nil : Lay [] := fun l => by simp
theorem Lay.app {a b : List UInt8} (ha : Lay a) (hb : Lay b) : Lay (a ++ b) := fun l => by rw [List.append_assoc, ha, hb, List.length_append]; omega
theorem next_lay (pre l : List UInt8) (h : Lay pre) : nextR (pre ++ l) (pre ++ l) 0 =
    if (nextR l l 0).r.err = 0 then ⟨shL pre.length (nextR l l 0).r, decide (0 < pre.length) || (nextR l l 0).lay, 0⟩
    else ⟨(nextR l l 0).r, false, pre.length + (nextR l l 0).where_⟩ := by
  unfold nextR
  simp only [List.drop_zero, Nat.zero_add, h l, tok_app, List.length_append, shL_errv]
  by_cases e1 : skipN l = l.length
  · rw [if_pos (by omega), if_pos e1, if_neg (by show ¬(14 : Int) = 0; decide)]; simp
  · rw [if_neg (by omega), if_neg e1]
    by_cases e2 : (tokR l l (skipN l)).err = 0
    · simp only [if_pos e2]
      rw [show decide (0 < pre.length + skipN l) = (decide (0 < pre.length) || decide (0 < skipN l)) by rw [← Bool.decide_or]; congr 1; apply propext; omega]
    · simp only [if_neg e2]
      rw [if_neg (by exact e2)]
      simp [errR]
theorem lay_one (b : UInt8) (h : cls (b.toNat : Int) = 1) : Lay [b] := fun l => by
  rw [List.singleton_append, skipN_eq, rawAt_cons]
  simp only [List.isEmpty_cons, Bool.false_eq_true, if_false, if_pos h, List.drop_succ_cons, List.drop_zero, List.length_singleton]
theorem cvt_id (l : List UInt8) : cvt (convT []) l = l := by
  unfold cvt convT
  simp
theorem lay_com (body : List UInt8) (h : ∀ l, closeAt (body ++ 42 :: 47 :: l) = some body.length) : Lay (47 :: 42 :: (body ++ [42, 47])) := fun l => by
  have e : (47 :: 42 :: (body ++ [42, 47])) ++ l = 47 :: 42 :: (body ++ 42 :: 47 :: l) := by simp
  rw [e, skipN_eq, rawAt_succ, rawAt_cons, rawAt_cons]
  simp only [List.isEmpty_cons, Bool.false_eq_true, if_false, List.drop_succ_cons, List.drop_zero, h l]
  rw [if_neg (by decide +kernel), if_neg (by decide), if_pos (by decide)]
  have d : List.drop (body.length + 2) (body ++ 42 :: 47 :: l) = l := by
    rw [List.drop_append, List.drop_of_length_le (by omega), show body.length + 2 - body.length = 2 by omega]; rfl
  simp only [d]
  simp
theorem lay_line (body : List UInt8) (h : ∀ l, span notNl (body ++ 10 :: l) = body.length) : Lay (37 :: (body ++ [10])) := fun l => by
  have e : (37 :: (body ++ [10])) ++ l = 37 :: (body ++ 10 :: l) := by simp
  have hs : span notNl (37 :: (body ++ 10 :: l)) = body.length + 1 := by rw [span, if_pos (by decide), h l]
  have d : List.drop (body.length + 1) (37 :: (body ++ 10 :: l)) = [10] ++ l := by rw [List.drop_succ_cons, List.drop_left]; rfl
  rw [e, skipN_eq, rawAt_cons]
  simp only [List.isEmpty_cons, Bool.false_eq_true, if_false, hs, d]
  rw [if_neg (by decide +kernel), if_pos (by decide), lay_one 10 (by decide +kernel) l]
  simp; omega
/-- The pieces of layout text. -/
def piece : Nat → List UInt8
  | 0 => [32]
  | 1 => [10]
  | 2 => [9]
  | 3 => [37, 32, 97, 32, 39, 98, 32, 47, 42, 10]
  | 4 => [47, 42, 32, 37, 32, 39, 32, 42, 32, 47, 32, 42, 42, 47]
  | 5 => [47, 42, 42, 47]
  | _ => [13, 10]
theorem piece_lay : ∀ k, Lay (piece k)
  | 0 => lay_one 32 (by decide +kernel)
  | 1 => lay_one 10 (by decide +kernel)
  | 2 => lay_one 9 (by decide +kernel)
  | 3 => lay_line [32, 97, 32, 39, 98, 32, 47, 42] (fun l => rfl)
  | 4 => lay_com [32, 37, 32, 39, 32, 42, 32, 47, 32, 42] (fun l => by simp [closeAt, rawAt_cons])
  | 5 => lay_com [] (fun l => by simp [closeAt, rawAt_cons])
  | _ + 6 => (lay_one 13 (by decide +kernel)).app (lay_one 10 (by decide +kernel))
theorem piece_len (k : Nat) : 1 ≤ (piece k).length ∧ (piece k).length ≤ 14 := by
  unfold piece; split <;> simp
/-- A text without quotes reads as its converted text. -/
theorem num_noq (m l : List UInt8) (p : Nat) (h : ∀ k, ¬rawAt m k = 39) : numR m l p = numR m m p := by
  unfold numR
  rw [if_neg (fun x => h _ x.2), if_neg (show ¬(rawAt m p = 48 ∧ rawAt m (p + 1) = 39) from fun x => h _ x.2)]
theorem quote_noq (m l : List UInt8) (p : Nat) (h : ∀ k, ¬rawAt m k = 39) (h2 : ∀ k, ¬rawAt m k = 34) : quoteR m l p = quoteR m m p := by
  unfold quoteR
  rw [if_neg (h2 _), if_neg (h _), if_neg (h2 _), if_neg (h _)]
theorem tok_noq (m l : List UInt8) (p : Nat) (h : ∀ k, ¬rawAt m k = 39) (h2 : ∀ k, ¬rawAt m k = 34) : tokR m l p = tokR m m p := by
  unfold tokR
  rw [num_noq m l p h, quote_noq m l p h h2]
theorem next_noq (m l : List UInt8) (hml : m.length = l.length) (a : Nat) (h : ∀ k, ¬rawAt m k = 39) (h2 : ∀ k, ¬rawAt m k = 34) : nextR m l a = nextR m m a := by
  unfold nextR
  simp only [tok_noq m l _ h h2, hml]
end Hb
