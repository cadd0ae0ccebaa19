/- Operators: what Set keeps, in plain words. -/
import Derived.Test.YteddbeifnolklaaOpG
namespace Hb
open Go Go.RowKit
theorem sorted_idx {l : List OpR} (h : Sorted l) {i j : Nat} (hj : j < l.length) (hij : i < j) : befOp (l[i]'(by omega)) l[j] = true := (List.pairwise_iff_getElem.1 h) i j (by omega) hj hij
theorem bef_names {a b : OpR} (h : befOp a b = true) : a.name.toList ≤ b.name.toList := by
  rw [befOp_iff] at h
  rcases h with h | ⟨h, _⟩
  · exact List.le_of_lt h
  · rw [h]; exact List.le_refl _
theorem bef_cls {a b : OpR} (h : befOp a b = true) (he : a.name.toList = b.name.toList) : clsOp a.typ < clsOp b.typ := by
  rw [befOp_iff] at h
  rcases h with h | ⟨_, h⟩
  · rw [he] at h; exact absurd h (List.lt_irrefl _)
  · exact h
/-- No infix operator beside a postfix one of the same name. -/
def NoMix (l : List OpR) : Prop := ∀ a ∈ l, ∀ b ∈ l, a.name.toList = b.name.toList → ¬(clsOp a.typ = 2 ∧ clsOp b.typ = 3)
theorem nomix_valid {l : List OpR} (h : opsValid l = true) : NoMix l := by
  intro a ha b hb hn ⟨h2, h3⟩
  have hs := sorted_valid h
  obtain ⟨i, hi, rfl⟩ := List.getElem_of_mem ha
  obtain ⟨j, hj, rfl⟩ := List.getElem_of_mem hb
  rcases Nat.lt_trichotomy i j with hij | hij | hij
  · rcases Nat.eq_or_lt_of_le (show i + 1 ≤ j from hij) with he | hlt
    · subst he
      have := valid_next h i hj
      rw [opLt_ref, hn, h2, h3] at this
      simp at this
    · have b1 := sorted_idx hs (i := i) (j := i + 1) (by omega) (by omega)
      have b2 := sorted_idx hs (i := i + 1) (j := j) hj hlt
      have n1 := bef_names b1
      have n2 := bef_names b2
      have e1 : l[i].name.toList = l[i + 1].name.toList := List.le_antisymm n1 (by rw [hn]; exact n2)
      have c1 := bef_cls b1 e1
      have c2 := bef_cls b2 (e1.symm.trans hn)
      omega
  · subst hij; omega
  · have := bef_cls (sorted_idx hs hi hij) hn.symm
    omega
theorem valid_of {l : List OpR} (h1 : l.length ≤ 100) (h2 : ∀ a ∈ l, opOk a = true) (h3 : Sorted l) (h4 : NoMix l) : opsValid l = true := by
  refine opsValid_yes l h1 fun j hj => ?_
  unfold okJ
  rw [getD_at l j hj, h2 _ (List.getElem_mem hj)]
  rcases Nat.eq_zero_or_pos j with h0 | h0
  · subst h0; rfl
  · have hp := sorted_idx h3 hj (show j - 1 < j by omega)
    rw [getD_at l (j - 1) (by omega), opLt_ref, hp]
    have hne : ¬((l[j - 1].name.toList == l[j].name.toList && (clsOp l[j - 1].typ == 2 && clsOp l[j].typ == 3)) = true) := by
      intro hh
      simp only [Bool.and_eq_true, beq_iff_eq] at hh
      exact h4 _ (List.getElem_mem _) _ (List.getElem_mem hj) hh.1 hh.2
    rw [Bool.not_eq_true] at hne
    rw [hne]; simp
theorem valid_all {l : List OpR} (h : opsValid l = true) : ∀ a ∈ l, opOk a = true := by
  intro a ha
  obtain ⟨j, hj, rfl⟩ := List.getElem_of_mem ha
  exact valid_ok h j hj
theorem find_one {l : List OpR} (hs : Sorted l) {name : ByteArray} {c : Int} {a : OpR} (ha : a ∈ l) (hi : isOp name c a = true) : l.find? (isOp name c) = some a := by
  cases hf : l.find? (isOp name c) with
  | none => rw [List.find?_eq_none] at hf; exact absurd hi (hf a ha)
  | some b =>
    have hb := List.mem_of_find?_eq_some hf
    have hib := List.find?_some hf
    unfold isOp at hi hib
    simp only [Bool.and_eq_true, beq_iff_eq] at hi hib
    obtain ⟨i, hi1, rfl⟩ := List.getElem_of_mem ha
    obtain ⟨j, hj1, rfl⟩ := List.getElem_of_mem hb
    rcases Nat.lt_trichotomy i j with hij | hij | hij
    · have := bef_cls (sorted_idx hs hj1 hij) (hi.1.trans hib.1.symm)
      omega
    · subst hij; rfl
    · have := bef_cls (sorted_idx hs hi1 hij) (hib.1.trans hi.1.symm)
      omega
theorem mem_rest {o a : OpR} {l : List OpR} : a ∈ restL o l ↔ a ∈ l ∧ eqOp o a = false := by
  unfold restL
  rw [List.mem_filter]
  simp
theorem mem_new {o a : OpR} {l : List OpR} : a ∈ newL l o ↔ (0 < o.prec ∧ a = o) ∨ (a ∈ l ∧ eqOp o a = false) := by
  unfold newL
  split
  · rename_i h
    rw [(insO_perm o (restL o l)).mem_iff, List.mem_cons, mem_rest]
    simp [h]
  · rename_i h
    rw [mem_rest]
    simp [h]
theorem sorted_ins {o : OpR} : ∀ {t : List OpR}, Sorted t → (∀ a ∈ t, eqOp o a = false) → Sorted (insO o t)
  | [], _, _ => by unfold insO Sorted; simp
  | a :: t, h, hne => by
    unfold Sorted at h ⊢
    rw [List.pairwise_cons] at h
    unfold insO
    split
    · rename_i hc
      rw [List.pairwise_cons]
      refine ⟨fun b hb => ?_, List.pairwise_cons.2 h⟩
      rcases List.mem_cons.1 hb with rfl | hb
      · exact (cmp_bef _ _).1 hc
      · exact bef_trans ((cmp_bef _ _).1 hc) (h.1 b hb)
    · rename_i hc
      rw [List.pairwise_cons]
      refine ⟨fun b hb => ?_, sorted_ins h.2 fun b hb => hne b (by simp [hb])⟩
      rcases List.mem_cons.1 ((insO_perm o t).mem_iff.1 hb) with rfl | hb
      · have h1 : befOp b a = false := by rw [← Bool.not_eq_true, ← cmp_bef]; exact hc
        have h2 : eqOp a b = false := by
          have := hne a (by simp)
          rw [← Bool.not_eq_true, eqOp_iff] at this ⊢
          exact fun hh => this ⟨hh.1.symm, hh.2.symm⟩
        exact bef_tri h1 h2
      · exact h.1 b hb
theorem sorted_new {l : List OpR} (h : Sorted l) (o : OpR) : Sorted (newL l o) := by
  unfold newL
  split
  · exact sorted_ins (h.rest o) (rest_ne o l)
  · exact h.rest o
theorem rest_ins {o : OpR} : ∀ {t : List OpR}, (∀ a ∈ t, eqOp o a = false) → restL o (insO o t) = t
  | [], _ => by
    unfold insO restL
    rw [List.filter_cons_of_neg]
    · rfl
    · simp [(eqOp_iff o o).2 ⟨rfl, rfl⟩]
  | a :: t, h => by
    unfold insO
    have ho : eqOp o o = true := (eqOp_iff o o).2 ⟨rfl, rfl⟩
    have hall : restL o (a :: t) = a :: t := List.filter_eq_self.2 fun b hb => by simp [h b hb]
    split
    · unfold restL at hall ⊢
      rw [List.filter_cons_of_neg (by simp [ho])]
      exact hall
    · have ih := rest_ins (o := o) (t := t) fun b hb => h b (by simp [hb])
      unfold restL at ih ⊢
      rw [List.filter_cons_of_pos (by simp [h a (by simp)]), ih]
theorem rest_rest (o : OpR) (l : List OpR) : restL o (restL o l) = restL o l := List.filter_eq_self.2 fun a ha => by simp [rest_ne o l a ha]
theorem rest_new (o : OpR) (l : List OpR) : restL o (newL l o) = restL o l := by
  unfold newL
  split
  · exact rest_ins (rest_ne o l)
  · exact rest_rest o l
theorem new_new (o : OpR) (l : List OpR) : newL (newL l o) o = newL l o := by
  show (if 0 < o.prec then insO o (restL o (newL l o)) else restL o (newL l o)) = _
  rw [rest_new]; rfl
theorem isOp_eq {o a : OpR} : isOp o.name (clsOp o.typ) a = eqOp o a := by
  rw [Bool.eq_iff_iff, eqOp_iff]
  unfold isOp
  simp
/-- What Set asks, when it sets. -/
structure Sets (l : List OpR) (o : OpR) : Prop where
  val : opsValid l = true
  p0 : 0 ≤ o.prec
  p1 : o.prec ≤ 1200
  cls : clsOp o.typ ≠ 0
  sz : o.name.size ≤ 100
  fix : fixedS l o = false
  len : (newL l o).length ≤ 100
theorem setR_iff (l : List OpR) (o : OpR) : (setR l o).2 = 0 ↔ Sets l o := by
  cases hb : (!opsValid l || decide (o.prec < 0) || decide (1200 < o.prec) || clsOp o.typ == 0 || decide (100 < o.name.size))
  · cases hf : fixedS l o
    · by_cases hn : 100 < (newL l o).length
      · rw [setR_full hb hf hn]
        exact ⟨fun h => (by cases h), fun h => absurd h.len (by omega)⟩
      · rw [setR_ok hb hf hn]
        simp at hb
        exact ⟨fun _ => ⟨hb.1.1.1.1, by omega, by omega, hb.1.2, by omega, hf, by omega⟩, fun _ => rfl⟩
    · rw [setR_fix hb hf]
      exact ⟨fun h => (by cases h), fun h => (by rw [h.fix] at hf; cases hf)⟩
  · rw [setR_bad hb]
    refine ⟨fun h => (by cases h), fun h => ?_⟩
    have h0 := h.p0; have h1 := h.p1; have h2 := h.cls; have h3 := h.sz
    rw [h.val] at hb
    simp [h2] at hb
    omega
theorem setR_new {l : List OpR} {o : OpR} (h : Sets l o) : setR l o = (newL l o, 0) := by
  refine setR_ok ?_ h.fix (by have := h.len; omega)
  have h0 := h.p0; have h1 := h.p1; have h2 := h.cls; have h3 := h.sz
  rw [h.val]
  simp [h2]
  omega
theorem setR_none {l : List OpR} {o : OpR} (h : ¬(setR l o).2 = 0) : (setR l o).1 = [] := by
  unfold setR at h ⊢
  split
  · rfl
  · rename_i h1
    rw [if_neg h1] at h
    split
    · rfl
    · rename_i h2
      rw [if_neg h2] at h
      split
      · rfl
      · rename_i h3
        rw [if_neg h3] at h
        exact absurd rfl h
theorem findR_valid {l : List OpR} (h : opsValid l = true) (name : ByteArray) (c : Int) : findR l name c = l.find? (isOp name c) := by unfold findR; rw [h]; rfl
/-- The operator itself is a valid one. -/
theorem Sets.ok {l : List OpR} {o : OpR} (h : Sets l o) (hp : 0 < o.prec) : opOk o = true := by
  have h1 := h.p1; have h2 := h.cls; have h3 := h.sz
  have hf := h.fix
  unfold fixedS at hf
  unfold opOk
  grind
theorem Sets.mix {l : List OpR} {o b : OpR} (h : Sets l o) (hp : 0 < o.prec) (hc : clsOp o.typ ≠ 1) (hb : b ∈ l) (hn : b.name.toList = o.name.toList) : clsOp b.typ ≠ 5 - clsOp o.typ := by
  intro hcb
  have hf := h.fix
  unfold fixedS at hf
  have hnone : (findR l o.name (5 - clsOp o.typ)).isSome = false := by grind
  rw [findR_valid h.val, find_one (sorted_valid h.val) hb (by unfold isOp; simp [hn, hcb])] at hnone
  cases hnone
theorem Sets.valid {l : List OpR} {o : OpR} (h : Sets l o) : opsValid (newL l o) = true := by
  refine valid_of h.len (fun a ha => ?_) (sorted_new (sorted_valid h.val) o) ?_
  · rcases mem_new.1 ha with ⟨hp, rfl⟩ | ⟨ha, _⟩
    · exact h.ok hp
    · exact valid_all h.val a ha
  · intro a ha b hb hn hh
    rcases mem_new.1 ha with ⟨hp, ea⟩ | ⟨la, _⟩ <;> rcases mem_new.1 hb with ⟨hp2, eb⟩ | ⟨lb, _⟩
    · rw [ea, eb] at hh; omega
    · rw [ea] at hn hh; exact h.mix hp (by omega) lb hn.symm (by omega)
    · rw [eb] at hn hh; exact h.mix hp2 (by omega) la hn (by omega)
    · exact nomix_valid h.val a la b lb hn hh
/-- What is found under the name and class that were set. -/
theorem Sets.found {l : List OpR} {o : OpR} (h : Sets l o) : findR (newL l o) o.name (clsOp o.typ) = if 0 < o.prec then some o else none := by
  rw [findR_valid h.valid]
  split
  · rename_i hp
    exact find_one (sorted_new (sorted_valid h.val) o) (mem_new.2 (.inl ⟨hp, rfl⟩)) (by rw [isOp_eq, eqOp_iff]; exact ⟨rfl, rfl⟩)
  · rename_i hp
    rw [List.find?_eq_none]
    intro a ha
    rcases mem_new.1 ha with ⟨hp2, _⟩ | ⟨_, hne⟩
    · exact absurd hp2 hp
    · rw [isOp_eq, hne]; simp
/-- Other names and classes. -/
theorem Sets.other {l : List OpR} {o : OpR} (h : Sets l o) (name : ByteArray) (c : Int) (hne : ¬(c = clsOp o.typ ∧ name.toList = o.name.toList)) : findR (newL l o) name c = findR l name c := by
  rw [findR_valid h.valid, findR_valid h.val]
  have key : ∀ a, isOp name c a = true → eqOp o a = false := by
    intro a ha
    rw [← Bool.not_eq_true, eqOp_iff]
    unfold isOp at ha
    simp only [Bool.and_eq_true, beq_iff_eq] at ha
    exact fun hh => hne ⟨ha.2.symm.trans hh.2, ha.1.symm.trans hh.1⟩
  cases hf : l.find? (isOp name c) with
  | some a =>
    have hi := List.find?_some hf
    exact find_one (sorted_new (sorted_valid h.val) o) (mem_new.2 (.inr ⟨List.mem_of_find?_eq_some hf, key a hi⟩)) hi
  | none =>
    rw [List.find?_eq_none] at hf ⊢
    intro a ha
    rcases mem_new.1 ha with ⟨_, rfl⟩ | ⟨ha, _⟩
    · intro hi
      have h1 := key a hi
      rw [← Bool.not_eq_true, eqOp_iff] at h1
      exact h1 ⟨rfl, rfl⟩
    · exact hf a ha
theorem Sets.again {l : List OpR} {o : OpR} (h : Sets l o) : Sets (newL l o) o where
  val := h.valid
  p0 := h.p0
  p1 := h.p1
  cls := h.cls
  sz := h.sz
  fix := by
    have hf := h.fix
    have ho : findR (newL l o) o.name (5 - clsOp o.typ) = findR l o.name (5 - clsOp o.typ) := h.other _ _ (fun hh => by omega)
    unfold fixedS at hf ⊢
    rw [ho]; exact hf
  len := by rw [new_new]; exact h.len
theorem Sets.again_eq {l : List OpR} {o : OpR} (h : Sets l o) : setR (newL l o) o = (newL l o, 0) := by
  rw [setR_new h.again, new_new]
theorem Sets.undo {l : List OpR} {o : OpR} (h : Sets l o) : setR (newL l o) ⟨o.name, o.typ, 0⟩ = (restL o l, 0) := by
  have hnew : newL (newL l o) ⟨o.name, o.typ, 0⟩ = restL o l := by
    show (if (0 : Int) < 0 then _ else restL o (newL l o)) = _
    rw [if_neg (by omega), rest_new]
  have hs : Sets (newL l o) ⟨o.name, o.typ, 0⟩ := ⟨h.valid, by show (0 : Int) ≤ 0; omega, by show (0 : Int) ≤ 1200; omega, h.cls, h.sz, by
    have hf := h.fix
    unfold fixedS at hf ⊢
    unfold isN at *
    grind, by
    rw [hnew]
    have := filt_le o l
    have := (opsValid_at l h.val).1
    omega⟩
  rw [setR_new hs, hnew]
theorem Sets.undone {l : List OpR} {o : OpR} (h : Sets l o) (hn : findR l o.name (clsOp o.typ) = none) : restL o l = l := by
  rw [findR_valid h.val, List.find?_eq_none] at hn
  refine List.filter_eq_self.2 fun a ha => ?_
  have := hn a ha
  rw [isOp_eq] at this
  simp at this
  simp [this]
end Hb
