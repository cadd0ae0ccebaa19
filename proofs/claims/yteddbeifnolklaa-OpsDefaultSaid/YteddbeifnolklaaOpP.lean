/- Operators: the order, tables in order, Set's result. -/
import Derived.Test.YteddbeifnolklaaOpSort
import Derived.Test.YteddbeifnolklaaOpB
import Derived.Test.YteddbeifnolklaaOpD
namespace Hb
open Go Go.RowKit Go.Sort Go.Proofs
theorem cmp_bef (a b : OpR) : cmpOp a b < 0 ↔ befOp a b = true := by rw [befOp_cmp]; simp
theorem bef_trans {a b c : OpR} (h1 : befOp a b = true) (h2 : befOp b c = true) : befOp a c = true := by
  have := swo_op.trans a b c
  rw [ltOf_bef, ltOf_bef, ltOf_bef] at this
  exact this h1 h2
theorem bef_irrefl (a : OpR) : befOp a a = false := by
  have := swo_op.irrefl a
  rw [ltOf_bef] at this
  exact this
theorem bef_asymm {a b : OpR} (h : befOp a b = true) : befOp b a = false := by
  rw [← Bool.not_eq_true]
  intro h2
  have := bef_trans h h2
  rw [bef_irrefl] at this
  cases this
/-- Operators of one name and class: they compare equal. -/
theorem eqOp_iff (o a : OpR) : eqOp o a = true ↔ a.name.toList = o.name.toList ∧ clsOp a.typ = clsOp o.typ := by
  unfold eqOp cmpOp orI cmpS
  by_cases h : a.name.toList = o.name.toList
  · rw [h, bytesLess_irrefl]
    simp [cmpN_zero]
  · have h2 : (a.name.toList == o.name.toList) = false := by simpa using h
    rw [h2]
    cases h3 : Op.bytesLess a.name.toList o.name.toList <;> simp [h]
theorem bef_tri {a o : OpR} (h1 : befOp a o = false) (h2 : eqOp o a = false) : befOp o a = true := by
  rw [← Bool.not_eq_true, befOp_iff] at h1
  rw [← Bool.not_eq_true, eqOp_iff] at h2
  rw [befOp_iff]
  have a1 : o.name.toList ≤ a.name.toList := fun h => h1 (.inl h)
  by_cases he : a.name.toList = o.name.toList
  · have c1 : ¬clsOp a.typ < clsOp o.typ := fun h => h1 (.inr ⟨he, h⟩)
    have c2 : ¬clsOp a.typ = clsOp o.typ := fun h => h2 ⟨he, h⟩
    exact .inr ⟨he.symm, by omega⟩
  · rcases Classical.em (o.name.toList < a.name.toList) with h | h
    · exact .inl h
    · exact absurd (List.le_antisymm (fun hh => h hh) a1) he
theorem bef_congr {a b o : OpR} (h : eqOp b a = true) : befOp a o = befOp b o ∧ befOp o a = befOp o b := by
  obtain ⟨h1, h2⟩ := (eqOp_iff b a).1 h
  constructor <;> rw [Bool.eq_iff_iff, befOp_iff, befOp_iff, h1, h2]
/-- A table in order. -/
def Sorted (l : List OpR) : Prop := l.Pairwise fun a b => befOp a b = true
theorem valid_next {l : List OpR} (h : opsValid l = true) (j : Nat) (hj : j + 1 < l.length) : opLt l[j] l[j + 1] = true := by
  have h1 := (opsValid_at l h).2 (j + 1) hj
  unfold okJ at h1
  rw [getD_at l (j + 1) hj, Nat.add_sub_cancel, getD_at l j (by omega)] at h1
  simp at h1
  exact h1.2
theorem valid_ok {l : List OpR} (h : opsValid l = true) (j : Nat) (hj : j < l.length) : opOk l[j] = true := by
  have h1 := (opsValid_at l h).2 j hj
  unfold okJ at h1
  rw [getD_at l j hj] at h1
  simp at h1
  exact h1.1
theorem opLt_bef {a b : OpR} (h : opLt a b = true) : befOp a b = true := by
  unfold opLt at h
  rw [befOp_cmp]
  simp at h ⊢
  exact h.1
theorem sorted_valid {l : List OpR} (h : opsValid l = true) : Sorted l := by
  unfold Sorted
  rw [List.pairwise_iff_getElem]
  have key : ∀ d i (hi : i + d + 1 < l.length), befOp l[i] l[i + d + 1] = true := by
    intro d
    induction d with
    | zero => intro i hi; exact opLt_bef (valid_next h i hi)
    | succ d ih => intro i hi; exact bef_trans (ih i (by omega)) (opLt_bef (valid_next h (i + d + 1) (by omega)))
  intro i j hi hj hij
  have := key (j - i - 1) i (by omega)
  simp only [show i + (j - i - 1) + 1 = j by omega] at this
  exact this
theorem Sorted.rest {l : List OpR} (h : Sorted l) (o : OpR) : Sorted (restL o l) := List.Pairwise.filter _ h
theorem Sorted.mono {l : List OpR} (h : Sorted l) (o : OpR) : Mono o l := by
  intro i j hj hij hc
  rcases Nat.lt_or_ge i j with hlt | hge
  · rw [cmp_bef] at *
    exact bef_trans ((List.pairwise_iff_getElem.1 h) i j (by omega) hj hlt) hc
  · have : i = j := by omega
    subst this; exact hc
theorem rest_ne (o : OpR) (l : List OpR) : ∀ a ∈ restL o l, eqOp o a = false := by
  intro a ha
  have := (List.mem_filter.1 ha).2
  simpa using this
theorem insO_parts (o : OpR) : ∀ (t : List OpR) (i : Nat), (∀ a ∈ t, eqOp o a = false) → Parts o t i i → t.take i ++ o :: t.drop i = insO o t
  | [], i, _, h => by
    have := h.hl
    simp at this
    subst this
    rfl
  | a :: t, 0, hne, h => by
    have h1 := h.post 0 (by simp) (Nat.le_refl _)
    have h2 : befOp o a = true := bef_tri (by rw [← Bool.not_eq_true, ← cmp_bef]; exact h1) (hne a (by simp))
    unfold insO
    rw [if_pos ((cmp_bef o a).2 h2)]
    rfl
  | a :: t, i + 1, hne, h => by
    have h1 := h.pre 0 (by simp) (by omega)
    have h2 : befOp o a = false := bef_asymm ((cmp_bef a o).1 h1)
    unfold insO
    rw [if_neg (by rw [cmp_bef, h2]; simp), ← insO_parts o t i (fun b hb => hne b (by simp [hb])) ⟨Nat.le_refl _, by have := h.hl; simpa using this, fun j hj hji => by have := h.pre (j + 1) (by simpa using hj) (by omega); simpa using this, fun j hj hji => by have := h.post (j + 1) (by simpa using hj) (by omega); simpa using this⟩]
    rfl
/-- An operator that cannot be set. -/
def fixedS (l : List OpR) (o : OpR) : Bool :=
  if (isN o [44] || isN o [91, 93] || isN o [123, 125]) = true then true
  else if (isN o [124] && (!clsOp o.typ == 2 || (decide (0 < o.prec) && decide (o.prec ≤ 1000)))) = true then true
  else if (o.prec == 0 || clsOp o.typ == 1) = true then false
  else (findR l o.name (5 - clsOp o.typ)).isSome
/-- The new table, before its length is looked at. -/
def newL (l : List OpR) (o : OpR) : List OpR := if 0 < o.prec then insO o (restL o l) else restL o l
/-- Set. -/
def setR (l : List OpR) (o : OpR) : List OpR × Int :=
  if (!opsValid l || decide (o.prec < 0) || decide (1200 < o.prec) || clsOp o.typ == 0 || decide (100 < o.name.size)) = true then ([], 1)
  else if fixedS l o = true then ([], 5)
  else if 100 < (newL l o).length then ([], 13) else (newL l o, 0)
end Hb
