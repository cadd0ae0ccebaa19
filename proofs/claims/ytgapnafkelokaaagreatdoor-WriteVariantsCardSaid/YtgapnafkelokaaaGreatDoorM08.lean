/- Operators: rows of the call's own; the two Clone. Operators: BinarySearchFunc with compare. Operators: DeleteFunc with Set's closure. Operators: the order, tables in order, Set's result. Operators: fixed. Operators: slices.Insert of one operator. Operators: Set. -/
import Derived.Test.YtgapnafkelokaaaGreatDoorM07
import Derived.Laws.AppendOwnNone
import Derived.Laws.OwnMore
import Derived.Lib.SliceRun
import Derived.Deep.RegionHeld3
import Derived.Laws.Shifts
import Derived.Test.YtgapnafkelokaaaGreatDoorM03
namespace Hb
open Go Go.RowKit
theorem opsCells_len (l : List OpR) : (opsCells l).length = l.length * 3 := by
  unfold opsCells; induction l with
  | nil => rfl
  | cons p l ih => rw [List.flatMap_cons, List.length_append, ih]; simp [opCells]; omega
theorem oc_get : ∀ (l : List OpR) (i : Nat) (h : i < l.length), (opsCells l)[i * 3]? = some (.string l[i].name) ∧ (opsCells l)[i * 3 + 1]? = some (.int .i64 l[i].typ) ∧ (opsCells l)[i * 3 + 2]? = some (.int .i64 l[i].prec)
  | p :: l, 0, _ => ⟨rfl, rfl, rfl⟩
  | p :: l, i + 1, h => by
    have := oc_get l i (by simpa using h)
    have e : opsCells (p :: l) = .string p.name :: .int .i64 p.typ :: .int .i64 p.prec :: opsCells l := rfl
    rw [e, show (i + 1) * 3 = i * 3 + 3 by omega]
    exact ⟨by simpa using this.1, by simpa using this.2.1, by simpa using this.2.2⟩
/-- The operators lie from a place on. -/
def OpsIn (w : World) (b off : Nat) (l : List OpR) : Prop :=
  ∀ j (hj : j < l.length), w.cell? ⟨b, off + j * 3, none⟩ = some (.string l[j].name) ∧ w.cell? ⟨b, off + j * 3 + 1, none⟩ = some (.int .i64 l[j].typ) ∧ w.cell? ⟨b, off + j * 3 + 2, none⟩ = some (.int .i64 l[j].prec)
theorem OpsAt.cases {w : World} {A : Option Addr} {l : List OpR} (h : OpsAt w A l) : l = [] ∨ ∃ b off, A = some ⟨b, off, none⟩ ∧ b < w.heap.size ∧ OpsIn w b off l := by
  cases l with
  | nil => exact .inl rfl
  | cons a l =>
    obtain ⟨b, off, e, hb, _⟩ := h 0 (by simp)
    refine .inr ⟨b, off, e, hb, fun j hj => ?_⟩
    obtain ⟨b', off', e', _, c⟩ := h j hj
    rw [e] at e'; injection e' with e'; injection e' with e1 e2 _; subst e1; subst e2
    exact c
theorem OpsIn.ops {w : World} {b off : Nat} {l : List OpR} (h : OpsIn w b off l) (hb : b < w.heap.size) : OpsAt w (some ⟨b, off, none⟩) l := fun j hj => ⟨b, off, rfl, hb, h j hj⟩
theorem OpsIn.below {w w' : World} {b off : Nat} {l : List OpR} (h : OpsIn w b off l) (hb : b < w.heap.size) (hB : Below w.heap.size w w') : OpsIn w' b off l := fun j hj => by
  obtain ⟨c0, c1, c2⟩ := h j hj
  exact ⟨(hB.cell (p := ⟨b, _, none⟩) hb).trans c0, (hB.cell (p := ⟨b, _, none⟩) hb).trans c1, (hB.cell (p := ⟨b, _, none⟩) hb).trans c2⟩
theorem own_sliceO {w : World} {base e size : Nat} {v : Value} {n : Nat} {xs : List Value} (h : w.ownsRow base e size v n xs) : ∃ A cap, v = .slice A n cap := by
  rcases h.2 with ⟨rfl, h0⟩ | ⟨g, cap, cur, rfl, _⟩
  · exact ⟨none, 0, by rw [h0]⟩
  · exact ⟨_, cap, rfl⟩
theorem own_in {w : World} {base e n g cap : Nat} {l : List OpR} (h : w.ownsRow base e 3 (.slice (some ⟨g, 0, none⟩) n cap) n (opsCells l)) : OpsIn w g 0 l := by
  have hn : n = l.length := by have := h.1; rw [opsCells_len] at this; omega
  intro j hj
  obtain ⟨p1, p2, p3⟩ := oc_get l j hj
  exact ⟨by rw [Nat.zero_add, h.cellAt _ (by omega)]; exact p1, by rw [Nat.zero_add, h.cellAt _ (by omega)]; exact p2, by rw [Nat.zero_add, h.cellAt _ (by omega)]; exact p3⟩
theorem ops_own {w : World} {base e n cap : Nat} {A : Option Addr} {l : List OpR} (h : w.ownsRow base e 3 (.slice A n cap) n (opsCells l)) : OpsAt w A l := by
  have hn : n = l.length := by have := h.1; rw [opsCells_len] at this; omega
  rcases h.2 with ⟨hv, h0⟩ | ⟨g, cap', cur, hv, hbg, hh, rest⟩
  · intro j hj; omega
  · injection hv with hA _ _
    subst hA
    exact (own_in h).ops (h.lt g rfl).2
end Hb
namespace Go.Proofs.YtgapnafkelokaaaGreatDoor
open Go.RowKit Hb
set_option maxRecDepth 100000
end Go.Proofs.YtgapnafkelokaaaGreatDoor
namespace Hb
open Go Go.RowKit
/-- The target in a box of the call's own, an operator of the row beside it. -/
structure BHeld (w0 w : World) (o a : OpR) (b p : Nat) : Prop where
  bel : Below w0.heap.size w0 w
  lt : w0.heap.size < w.heap.size
  o0 : w.cell? ⟨w0.heap.size, 0, none⟩ = some (.string o.name)
  o1 : w.cell? ⟨w0.heap.size, 1, none⟩ = some (.int .i64 o.typ)
  o2 : w.cell? ⟨w0.heap.size, 2, none⟩ = some (.int .i64 o.prec)
  bl : b < w0.heap.size
  a0 : w.cell? ⟨b, p, none⟩ = some (.string a.name)
  a1 : w.cell? ⟨b, p + 1, none⟩ = some (.int .i64 a.typ)
  a2 : w.cell? ⟨b, p + 2, none⟩ = some (.int .i64 a.prec)
section
variable {w0 w w' : World} {o a : OpR} {b p : Nat}
theorem BHeld.keep (h : BHeld w0 w o a b p) : w.cell? ⟨w0.heap.size, 0, none⟩ = some (.string o.name) ∧ w.cell? ⟨w0.heap.size, 1, none⟩ = some (.int .i64 o.typ) ∧ w.cell? ⟨w0.heap.size, 2, none⟩ = some (.int .i64 o.prec) ∧ w.cell? ⟨b, p, none⟩ = some (.string a.name) ∧ w.cell? ⟨b, p + 1, none⟩ = some (.int .i64 a.typ) ∧ w.cell? ⟨b, p + 2, none⟩ = some (.int .i64 a.prec) ∧ BHeld w0 w o a b p := ⟨h.o0, h.o1, h.o2, h.a0, h.a1, h.a2, h⟩
theorem BHeld.of (h : w.cell? ⟨w0.heap.size, 0, none⟩ = some (.string o.name) ∧ w.cell? ⟨w0.heap.size, 1, none⟩ = some (.int .i64 o.typ) ∧ w.cell? ⟨w0.heap.size, 2, none⟩ = some (.int .i64 o.prec) ∧ w.cell? ⟨b, p, none⟩ = some (.string a.name) ∧ w.cell? ⟨b, p + 1, none⟩ = some (.int .i64 a.typ) ∧ w.cell? ⟨b, p + 2, none⟩ = some (.int .i64 a.prec) ∧ BHeld w0 w o a b p) : BHeld w0 w o a b p := h.2.2.2.2.2.2
theorem BHeld.call (hB : Below w.heap.size w w') (h : BHeld w0 w o a b p) : BHeld w0 w' o a b p where
  bel := h.bel.trans (hB.mono (by have := h.lt; omega))
  lt := Nat.lt_of_lt_of_le h.lt hB.size
  o0 := (hB.cell (p := ⟨_, _, none⟩) h.lt).trans h.o0
  o1 := (hB.cell (p := ⟨_, _, none⟩) h.lt).trans h.o1
  o2 := (hB.cell (p := ⟨_, _, none⟩) h.lt).trans h.o2
  bl := h.bl
  a0 := (hB.cell (p := ⟨_, _, none⟩) (Nat.lt_trans h.bl h.lt)).trans h.a0
  a1 := (hB.cell (p := ⟨_, _, none⟩) (Nat.lt_trans h.bl h.lt)).trans h.a1
  a2 := (hB.cell (p := ⟨_, _, none⟩) (Nat.lt_trans h.bl h.lt)).trans h.a2
theorem BHeld.drew (h : BHeld w0 w o a b p) : BHeld w0 w.drew o a b p := h.call (Below.refl w.heap.size w).drew
end
/-- The target's box. -/
structure TBox (w0 w : World) (o : OpR) : Prop where
  bel : Below w0.heap.size w0 w
  lt : w0.heap.size < w.heap.size
  o0 : w.cell? ⟨w0.heap.size, 0, none⟩ = some (.string o.name)
  o1 : w.cell? ⟨w0.heap.size, 1, none⟩ = some (.int .i64 o.typ)
  o2 : w.cell? ⟨w0.heap.size, 2, none⟩ = some (.int .i64 o.prec)
theorem TBox.start (w : World) (o : OpR) (e : TypeId) : TBox w (w.alloc (.cells #[.string o.name, .int .i64 o.typ, .int .i64 o.prec] e)) o where
  bel := (Below.refl _ _).alloc (Nat.le_refl _) _
  lt := by simp
  o0 := World.cell?_alloc_new _ _ _ 0
  o1 := World.cell?_alloc_new _ _ _ 1
  o2 := World.cell?_alloc_new _ _ _ 2
theorem TBox.held {w0 w : World} {o a : OpR} {b p : Nat} (h : TBox w0 w o) (hb : b < w0.heap.size) (c : w0.cell? ⟨b, p, none⟩ = some (.string a.name) ∧ w0.cell? ⟨b, p + 1, none⟩ = some (.int .i64 a.typ) ∧ w0.cell? ⟨b, p + 2, none⟩ = some (.int .i64 a.prec)) : BHeld w0 w o a b p where
  bel := h.bel
  lt := h.lt
  o0 := h.o0
  o1 := h.o1
  o2 := h.o2
  bl := hb
  a0 := (h.bel.cell (p := ⟨b, _, none⟩) hb).trans c.1
  a1 := (h.bel.cell (p := ⟨b, _, none⟩) hb).trans c.2.1
  a2 := (h.bel.cell (p := ⟨b, _, none⟩) hb).trans c.2.2
theorem BHeld.box {w0 w : World} {o a : OpR} {b p : Nat} (h : BHeld w0 w o a b p) : TBox w0 w o := ⟨h.bel, h.lt, h.o0, h.o1, h.o2⟩
/-- The place i parts those before the target from the others. -/
structure Parts (o : OpR) (l : List OpR) (lo hi : Nat) : Prop where
  le : lo ≤ hi
  hl : hi ≤ l.length
  pre : ∀ j (hj : j < l.length), j < lo → cmpOp l[j] o < 0
  post : ∀ j (hj : j < l.length), hi ≤ j → ¬ cmpOp l[j] o < 0
/-- What stands before the target stands ahead of what does not. -/
def Mono (o : OpR) (l : List OpR) : Prop := ∀ i j (hj : j < l.length) (hij : i ≤ j), cmpOp l[j] o < 0 → cmpOp (l[i]'(by omega)) o < 0
theorem Parts.start (o : OpR) (l : List OpR) : Parts o l 0 l.length := ⟨Nat.zero_le _, Nat.le_refl _, fun j _ h => absurd h (by omega), fun j hj h => absurd hj (by omega)⟩
end Hb
namespace Go.Proofs.YtgapnafkelokaaaGreatDoor
open Go.RowKit Hb
set_option maxRecDepth 100000
end Go.Proofs.YtgapnafkelokaaaGreatDoor
namespace Hb
open Go Go.RowKit
/-- Operators of one name and class. -/
def eqOp (o a : OpR) : Bool := cmpOp a o == 0
def restL (o : OpR) (l : List OpR) : List OpR := l.filter fun a => !eqOp o a
theorem filt_yes (q : OpR → Bool) (l : List OpR) (j : Nat) (hj : j < l.length) (h : q l[j] = true) : (l.take (j + 1)).filter q = (l.take j).filter q ++ [l[j]] := by
  rw [List.take_succ_eq_append_getElem hj, List.filter_append]; simp [h]
theorem filt_no (q : OpR → Bool) (l : List OpR) (j : Nat) (hj : j < l.length) (h : q l[j] = false) : (l.take (j + 1)).filter q = (l.take j).filter q := by
  rw [List.take_succ_eq_append_getElem hj, List.filter_append]; simp [h]
theorem own_len {w : World} {base e n : Nat} {v : Value} {l : List OpR} (h : w.ownsRow base e 3 v n (opsCells l)) : l.length = n := by
  have := h.1; rw [opsCells_len] at this; omega
theorem own_belowO {w w' : World} {base e n : Nat} {v : Value} {xs : List Value} (h : w.ownsRow base e 3 v n xs) (hB : Below w.heap.size w w') : w'.ownsRow base e 3 v n xs := by
  refine ⟨h.1, ?_⟩
  rcases h.2 with hn | ⟨g, cap, cur, hv, hb, hg, rest⟩
  · exact .inl hn
  · refine .inr ⟨g, cap, cur, hv, hb, ?_, rest⟩
    have hlt : g < w.heap.size := (Array.getElem?_eq_some_iff.1 hg).1
    rw [← hg]; exact hB.block g hlt
/-- How far the table is done: the first i are what stays of the first j, and from j on it is as it was. -/
structure Done (q : OpR → Bool) (l L : List OpR) (i j : Nat) : Prop where
  len : L.length = l.length
  le : i < j
  jl : j ≤ l.length
  pre : L.take i = (l.take j).filter q
  post : L.drop j = l.drop j
theorem Done.start {q : OpR → Bool} {l : List OpR} {k : Nat} (hk : k < l.length) (h : q l[k] = false) (hb : ∀ j (hj : j < k), q (l[j]'(by omega)) = true) : Done q l l k (k + 1) where
  len := rfl
  le := by omega
  jl := hk
  pre := by
    rw [filt_no q l k hk h]
    refine (List.filter_eq_self.2 fun a ha => ?_).symm
    obtain ⟨j, hj, rfl⟩ := List.getElem_of_mem ha
    rw [List.length_take] at hj
    rw [List.getElem_take]
    exact hb j (by omega)
  post := rfl
theorem Done.no {q : OpR → Bool} {l L : List OpR} {i j : Nat} (h : Done q l L i j) (hj : j < l.length) (hq : q l[j] = false) : Done q l L i (j + 1) where
  len := h.len
  le := by have := h.le; omega
  jl := hj
  pre := by rw [filt_no q l j hj hq]; exact h.pre
  post := by rw [← List.drop_drop, h.post, List.drop_drop]
theorem Done.yes {q : OpR → Bool} {l L : List OpR} {i j : Nat} (h : Done q l L i j) (hj : j < l.length) (hq : q l[j] = true) : Done q l (L.set i l[j]) (i + 1) (j + 1) where
  len := by rw [List.length_set]; exact h.len
  le := by have := h.le; omega
  jl := hj
  pre := by
    have hi : i < L.length := by have := h.le; have := h.len; omega
    rw [filt_yes q l j hj hq, ← h.pre, List.take_succ_eq_append_getElem (by rw [List.length_set]; exact hi), List.take_set_of_le (Nat.le_refl i), List.getElem_set_self]
  post := by rw [List.drop_set_of_lt (by have := h.le; omega), ← List.drop_drop, h.post, List.drop_drop]
theorem Done.at {q : OpR → Bool} {l L : List OpR} {i j : Nat} (h : Done q l L i j) (hj : j < l.length) (hj2 : j < L.length) : L[j] = l[j] := by
  have : (L.drop j)[0]? = (l.drop j)[0]? := by rw [h.post]
  rw [List.getElem?_drop, List.getElem?_drop, Nat.add_zero, List.getElem?_eq_getElem hj, List.getElem?_eq_getElem hj2] at this
  exact Option.some.inj this
theorem Done.last {q : OpR → Bool} {l L : List OpR} {i : Nat} (h : Done q l L i l.length) : L.take i = l.filter q := by rw [h.pre, List.take_length]
end Hb
namespace Go.Proofs.YtgapnafkelokaaaGreatDoor
open Go.RowKit Hb
set_option maxRecDepth 100000
end Go.Proofs.YtgapnafkelokaaaGreatDoor
namespace Hb
open Go Go.RowKit Go.Sort Go.Proofs
theorem cmp_bef (a b : OpR) : cmpOp a b < 0 ↔ befOp a b = true := by rw [befOp_cmp]; simp
theorem bef_trans {a b c : OpR} (h1 : befOp a b = true) (h2 : befOp b c = true) : befOp a c = true := by
  have := swo_op.trans a b c
  rw [ltOf_bef, ltOf_bef, ltOf_bef] at this
  exact this h1 h2
/-- Operators of one name and class: they compare equal. -/
theorem eqOp_iff (o a : OpR) : eqOp o a = true ↔ a.name.toList = o.name.toList ∧ clsOp a.typ = clsOp o.typ := by
  unfold eqOp cmpOp orI cmpS
  by_cases h : a.name.toList = o.name.toList
  · rw [h, bytesLess_irrefl]
    simp [cmpN_zero]
  · have h2 : (a.name.toList == o.name.toList) = false := by simpa using h
    rw [h2]
    cases h3 : Op.bytesLess a.name.toList o.name.toList <;> simp [h]
theorem bef_tri {a o : OpR} (h1 : befOp a o = false) (h2 : eqOp o a = false) : befOp o a = true := by
  rw [← Bool.not_eq_true, befOp_iff] at h1
  rw [← Bool.not_eq_true, eqOp_iff] at h2
  rw [befOp_iff]
  have a1 : o.name.toList ≤ a.name.toList := fun h => h1 (.inl h)
  by_cases he : a.name.toList = o.name.toList
  · have c1 : ¬clsOp a.typ < clsOp o.typ := fun h => h1 (.inr ⟨he, h⟩)
    have c2 : ¬clsOp a.typ = clsOp o.typ := fun h => h2 ⟨he, h⟩
    exact .inr ⟨he.symm, by omega⟩
  · rcases Classical.em (o.name.toList < a.name.toList) with h | h
    · exact .inl h
    · exact absurd (List.le_antisymm (fun hh => h hh) a1) he
/-- A table in order. -/
def Sorted (l : List OpR) : Prop := l.Pairwise fun a b => befOp a b = true
theorem valid_next {l : List OpR} (h : opsValid l = true) (j : Nat) (hj : j + 1 < l.length) : opLt l[j] l[j + 1] = true := by
  have h1 := (opsValid_at l h).2 (j + 1) hj
  unfold okJ at h1
  rw [getD_at l (j + 1) hj, Nat.add_sub_cancel, getD_at l j (by omega)] at h1
  simp at h1
  exact h1.2
theorem valid_ok {l : List OpR} (h : opsValid l = true) (j : Nat) (hj : j < l.length) : opOk l[j] = true := by
  have h1 := (opsValid_at l h).2 j hj
  unfold okJ at h1
  rw [getD_at l j hj] at h1
  simp at h1
  exact h1.1
theorem opLt_bef {a b : OpR} (h : opLt a b = true) : befOp a b = true := by
  unfold opLt at h
  rw [befOp_cmp]
  simp at h ⊢
  exact h.1
theorem sorted_valid {l : List OpR} (h : opsValid l = true) : Sorted l := by
  unfold Sorted
  rw [List.pairwise_iff_getElem]
  have key : ∀ d i (hi : i + d + 1 < l.length), befOp l[i] l[i + d + 1] = true := by
    intro d
    induction d with
    | zero => intro i hi; exact opLt_bef (valid_next h i hi)
    | succ d ih => intro i hi; exact bef_trans (ih i (by omega)) (opLt_bef (valid_next h (i + d + 1) (by omega)))
  intro i j hi hj hij
  have := key (j - i - 1) i (by omega)
  simp only [show i + (j - i - 1) + 1 = j by omega] at this
  exact this
theorem Sorted.rest {l : List OpR} (h : Sorted l) (o : OpR) : Sorted (restL o l) := List.Pairwise.filter _ h
theorem Sorted.mono {l : List OpR} (h : Sorted l) (o : OpR) : Mono o l := by
  intro i j hj hij hc
  rcases Nat.lt_or_ge i j with hlt | hge
  · rw [cmp_bef] at *
    exact bef_trans ((List.pairwise_iff_getElem.1 h) i j (by omega) hj hlt) hc
  · have : i = j := by omega
    subst this; exact hc
theorem rest_ne (o : OpR) (l : List OpR) : ∀ a ∈ restL o l, eqOp o a = false := by
  intro a ha
  have := (List.mem_filter.1 ha).2
  simpa using this
/-- An operator that cannot be set. -/
def fixedS (l : List OpR) (o : OpR) : Bool :=
  if (isN o [44] || isN o [91, 93] || isN o [123, 125]) = true then true
  else if (isN o [124] && (!clsOp o.typ == 2 || (decide (0 < o.prec) && decide (o.prec ≤ 1000)))) = true then true
  else if (o.prec == 0 || clsOp o.typ == 1) = true then false
  else (findR l o.name (5 - clsOp o.typ)).isSome
/-- The new table, before its length is looked at. -/
def newL (l : List OpR) (o : OpR) : List OpR := if 0 < o.prec then insO o (restL o l) else restL o l
end Hb
namespace Hb
open Go Go.RowKit
theorem cls_ge (t : Int) : 0 ≤ clsOp t := by unfold clsOp; grind
theorem cls_le (t : Int) : clsOp t ≤ 3 := by unfold clsOp; grind
end Hb
namespace Go.Proofs.YtgapnafkelokaaaGreatDoor
open Go.RowKit Hb
set_option maxRecDepth 100000
end Go.Proofs.YtgapnafkelokaaaGreatDoor
namespace Hb
open Go Go.RowKit
end Hb
namespace Go.Proofs.YtgapnafkelokaaaGreatDoor
open Go.RowKit Hb
set_option maxRecDepth 100000
end Go.Proofs.YtgapnafkelokaaaGreatDoor
namespace Hb
open Go Go.RowKit
theorem own_nil {w : World} {base e n cap : Nat} {A : Option Addr} {xs : List Value} (h : w.ownsRow base e 3 (.slice A n cap) n xs) : n = 0 → (Value.slice A n cap = .slice none 0 0 ∨ ∃ ad, A = some ad) := by
  intro _
  rcases h.2 with ⟨hv, _⟩ | ⟨g, c, cur, hv, _⟩
  · exact .inl hv
  · injection hv with h1 _ _
    exact .inr ⟨_, h1⟩
theorem BoxAt.over {w0 w w' : World} {o : OpR} {B : Nat} (h : BoxAt w0 w o) (hlt : w0.heap.size < B) (hB : Below B w w') : BoxAt w0 w' o where
  bel := h.bel.trans (hB.mono (Nat.le_of_lt hlt))
  lt := Nat.lt_of_lt_of_le h.lt hB.size
  c0 := (hB.cell (p := ⟨_, _, none⟩) hlt).trans h.c0
  c1 := (hB.cell (p := ⟨_, _, none⟩) hlt).trans h.c1
  c2 := (hB.cell (p := ⟨_, _, none⟩) hlt).trans h.c2
/-- A table as a call hands it back. -/
structure Tab (w : World) (A : Option Addr) (n cap : Nat) (l : List OpR) : Prop where
  len : n = l.length
  ops : OpsAt w A l
  nil : n = 0 → (Value.slice A n cap = .slice none 0 0 ∨ ∃ ad, A = some ad)
theorem Tab.none (w : World) : Tab w none 0 0 [] := ⟨rfl, OpsAt.nil _ _, fun _ => .inl rfl⟩
theorem Tab.below {w w' : World} {A : Option Addr} {n cap : Nat} {l : List OpR} (h : Tab w A n cap l) (hB : Below w.heap.size w w') : Tab w' A n cap l := ⟨h.len, h.ops.below hB, h.nil⟩
theorem Tab.own {w : World} {base e n cap : Nat} {A : Option Addr} {l : List OpR} (h : w.ownsRow base e 3 (.slice A n cap) n (opsCells l)) : Tab w A n cap l := ⟨(own_len h).symm, ops_own h, own_nil h⟩
end Hb
namespace Go.Proofs.YtgapnafkelokaaaGreatDoor
open Go.RowKit Hb
set_option maxRecDepth 100000
end Go.Proofs.YtgapnafkelokaaaGreatDoor
