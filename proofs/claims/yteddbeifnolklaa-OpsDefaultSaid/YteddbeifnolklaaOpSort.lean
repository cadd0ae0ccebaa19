/- Operators: slices.SortFunc at the predefined operators, by the shelf's contract. -/
import Derived.Shelf.SlSortCmp.WholeK
import Derived.Laws.OwnMore
import Derived.Test.YteddbeifnolklaaOp8
import Derived.Test.YteddbeifnolklaaSortShelf
namespace Hb
open Go Go.RowKit Go.Sort Go.Proofs
theorem befOp_iff (a b : OpR) : befOp a b = true ↔ a.name.toList < b.name.toList ∨ (a.name.toList = b.name.toList ∧ clsOp a.typ < clsOp b.typ) := by
  unfold befOp
  by_cases h : a.name.toList = b.name.toList
  · have hi : ¬b.name.toList < b.name.toList := List.lt_irrefl _
    simp [h, hi]
  · have h2 : (a.name.toList == b.name.toList) = false := by simpa using h
    rw [h2, if_neg (by simp), bytesLess_eq]
    simp [h]
theorem ltOf_bef (a b : OpR) : ltOf cmpOp a b = befOp a b := (befOp_cmp a b).symm
theorem swo_op : SWO (ltOf cmpOp) where
  irrefl x := by
    rw [ltOf_bef, ← Bool.not_eq_true, befOp_iff]
    rintro (h | ⟨_, h⟩)
    · exact List.lt_irrefl _ h
    · omega
  trans x y z h1 h2 := by
    rw [ltOf_bef, befOp_iff] at *
    rcases h1 with h1 | ⟨e1, h1⟩ <;> rcases h2 with h2 | ⟨e2, h2⟩
    · exact .inl (List.lt_trans h1 h2)
    · exact .inl (e2 ▸ h1)
    · exact .inl (e1 ▸ h2)
    · exact .inr ⟨e1.trans e2, by omega⟩
  ntrans x y z h1 h2 := by
    rw [ltOf_bef, ← Bool.not_eq_true, befOp_iff] at *
    rintro h
    have a1 : y.name.toList ≤ x.name.toList := fun h => h1 (.inl h)
    have a2 : z.name.toList ≤ y.name.toList := fun h => h2 (.inl h)
    rcases h with h | ⟨e, h⟩
    · exact List.lt_irrefl _ (List.lt_of_le_of_lt (List.le_trans a2 a1) h)
    · have e1 : y.name.toList = x.name.toList := List.le_antisymm a1 (by rw [e]; exact a2)
      have c1 : ¬clsOp x.typ < clsOp y.typ := fun hh => h1 (.inr ⟨e1.symm, hh⟩)
      have c2 : ¬clsOp y.typ < clsOp z.typ := fun hh => h2 (.inr ⟨e1.trans e, hh⟩)
      omega
theorem defL_sorted : defL.Pairwise fun a b => befOp b a = false := by decide +kernel
theorem defL_apart : ∀ a ∈ defL, ∀ b ∈ defL, befOp b a = false → befOp a b = false → a = b := by decide +kernel
theorem defL_len : defL.length = 41 := by decide +kernel
/-- Whatever a sort makes of the predefined operators: the table. -/
theorem sorted_defL (d : Array OpR) (h : d.toList.Perm (preL 12)) (hs : ∀ i j, i < j → j < 41 → ltOf cmpOp d[j]! d[i]! = false) : d.toList = defL := by
  have hp : d.toList.Perm defL := h.trans defL_perm.symm
  have hl : d.size = 41 := by
    have := hp.length_eq
    rw [defL_len] at this
    simpa using this
  have hpw : d.toList.Pairwise fun a b => befOp b a = false := by
    rw [List.pairwise_iff_getElem]
    intro i j hi hj hij
    have := hs i j hij (by simp at hj; omega)
    rw [ltOf_bef] at this
    have e1 : d[j]! = d.toList[j] := by rw [getElem!_pos d j (by simpa using hj)]; simp
    have e2 : d[i]! = d.toList[i] := by rw [getElem!_pos d i (by simpa using hi)]; simp
    rw [e1, e2] at this
    exact this
  exact hp.eq_of_pairwise (fun a b ha hb h1 h2 => defL_apart a (hp.subset ha) b hb h1 h2) hpw defL_sorted
end Hb
namespace Hb
open Go Go.RowKit Go.Sort Go.Proofs
theorem opsCells_get : ∀ (l : List OpR) (j : Nat), j < l.length * 3 → (opsCells l)[j]? = some ((opCells l[j / 3]!)[j % 3]!)
  | [], j, h => absurd h (by simp)
  | o :: l, j, h => by
    have e : opsCells (o :: l) = opCells o ++ opsCells l := rfl
    rw [e]
    by_cases hj : j < 3
    · have : j = 0 ∨ j = 1 ∨ j = 2 := by omega
      rcases this with rfl | rfl | rfl <;> rfl
    · have ih := opsCells_get l (j - 3) (by simp at h; omega)
      rw [List.getElem?_append_right (by simp [opCells]; omega)]
      have e1 : (opCells o).length = 3 := rfl
      have e2 : j / 3 = (j - 3) / 3 + 1 := by omega
      have e3 : j % 3 = (j - 3) % 3 := by omega
      rw [e1, ih, e2, e3]
      simp
theorem grows_of {w w' : World} (h : Below w.heap.size w w') (hd : w.drawn ≤ w'.drawn) : ∃ q os', w' = Sort.grow (w.drewN q) os' := by
  refine ⟨w'.drawn - w.drawn, w'.heap.extract w.heap.size w'.heap.size, ?_⟩
  have hh : w'.heap = w.heap ++ w'.heap.extract w.heap.size w'.heap.size := by
    apply Array.ext_getElem?
    intro i
    by_cases hi : i < w.heap.size
    · rw [h.block i hi, Array.getElem?_append_left hi]
    · rw [Array.getElem?_append_right (by omega), Array.getElem?_extract]
      have := h.size
      by_cases h2 : i < w'.heap.size
      · rw [if_pos (by omega)]; congr 1; omega
      · rw [if_neg (by omega), Array.getElem?_eq_none (by omega)]
  obtain ⟨H', t', d', o', u'⟩ := w'
  obtain ⟨H, t, d, o, u⟩ := w
  have e1 := h.os
  have e2 := h.tape
  have e3 := h.output
  simp only [] at e1 e2 e3 hh hd
  subst e1 e2 e3
  unfold Sort.grow World.drewN
  simp only []
  rw [← hh]
  congr 1
  omega
end Hb
namespace Go.Proofs.Yteddbeifnolklaa
open Go.RowKit Hb Go.Sort
set_option maxRecDepth 100000
theorem sorted_heap (W : World) (g n : Nat) (d : Array OpR) (os : Array Obj) : (sortWorldK opCells 3 W g 0 n d os).heap = W.heap.modify g (onCells (putCells id 0 (flatK opCells 3 d))) ++ os := rfl
theorem below_sorted {B g n : Nat} {w0 W : World} (hB : Below B w0 W) (hg : B ≤ g) (hW : g < W.heap.size) (d : Array OpR) (os : Array Obj) : Below B w0 (sortWorldK opCells 3 W g 0 n d os) := by
  refine hB.trans ⟨rfl, rfl, rfl, ?_, fun k hk => ?_⟩
  · rw [sorted_heap]; simp
  · rw [sorted_heap, Array.getElem?_append_left (by simp; omega), Array.getElem?_modify, if_neg (by omega)]
theorem sort_said : SortSaid := by
  intro W g cap B w0 hown hB
  obtain ⟨hBg, hlt⟩ := hown.lt g rfl
  have hsz : (preL 12).toArray.size = 41 := by rw [List.size_toArray, preL_len]
  have eg : ∀ args w, (callFunc 35 args).run Try.prog w = .ok (.enter 35 args) w := enters_of Try.func35 (by kernel_rfl) rfl
  have aE : ∀ w, (isAgg 34).run Try.prog w = .ok true w := fun w => by kernel_rfl
  have zE : ∀ w, (Go.sizeOf 34).run Try.prog w = .ok 3 w := fun w => by kernel_rfl
  have hH : HoldsK opCells 3 W g 0 (preL 12).toArray := fun j hj => by
    have hj' : j < (preL 12).toArray.size * 3 := by rw [size_flatK] at hj; exact hj
    have hj2 : j < (preL 12).length * 3 := by rw [preL_len]; rw [hsz] at hj'; exact hj'
    refine ⟨?_, hown.frozenAt _⟩
    rw [Nat.zero_add, hown.cellAt j (by rw [preL_len] at hj2; exact hj2), opsCells_get _ j hj2, get_flatK _ _ _ _ hj']
    simp
  have hc : CmpLays Try.prog 35 #[] opCells 3 cmpOp g 0 (preL 12).toArray.size W := fun m os dk _ x y =>
    (op_compare_up x y _).mono fun _ _ ⟨he, hb, hdr⟩ => ⟨he, grows_of hb hdr⟩
  have H := AnyQ.slices_SortFunc Try.sortOps 3 aE zE opCells (fun _ => rfl) (fun x v hv => by simp [opCells] at hv; rcases hv with rfl | rfl | rfl <;> rfl) cmpOp swo_op 35 #[] g 0 cap (preL 12).toArray W eg hc hH hlt (by rw [hsz]; decide)
  rw [hsz] at H
  refine H.mono ?_
  rintro e w' ⟨rfl, d', n, os, hp, hs, rfl⟩
  have hd41 : d'.size = 41 := hp.1.trans hsz
  have hperm : d'.toList.Perm (preL 12) := by
    have := hp.2.2
    rw [Array.extract_eq_self_of_le (by omega), Array.extract_eq_self_of_le (by omega)] at this
    simpa using this
  have hdl := sorted_defL d' hperm (fun i j hij hj => hs i j (Nat.zero_le _) hij hj)
  have hK : HoldsK opCells 3 (sortWorldK opCells 3 W g 0 n d' os) g 0 d' := by
    have h1 : HoldsK opCells 3 (Sort.ahead W n) g 0 (preL 12).toArray := holdsK_ahead _ _ _ _ _ _ _ hH
    have h2 : HoldsK opCells 3 (putRowK opCells 3 (Sort.ahead W n) g 0 d') g 0 d' := holdsK_putRowK _ _ _ _ _ _ _ h1 (by rw [hd41, hsz])
    exact holdsK_grow _ _ _ os _ _ _ (by show g < (putRowK opCells 3 (Sort.ahead W n) g 0 d').heap.size; simp [putRowK, putRow, mapBlock, Sort.ahead, hlt]) h2
  have hbel := below_sorted (n := n) hB hBg hlt d' os
  refine ⟨rfl, hbel, fun j hj => ?_⟩
  have hj41 : j < 41 := by rw [defL_len] at hj; exact hj
  have hjd : j < d'.size := by omega
  have e0 : d'[j]! = defL[j] := by
    rw [getElem!_pos d' j hjd]
    have : d'.toList[j]'(by simpa using hjd) = defL[j] := by simp only [hdl]
    rw [← this]; simp
  have k0 := (hK.cell hjd (c := 0) (by omega)).1
  have k1 := (hK.cell hjd (c := 1) (by omega)).1
  have k2 := (hK.cell hjd (c := 2) (by omega)).1
  rw [e0] at k0 k1 k2
  refine ⟨g, 0, rfl, ?_, k0, k1, k2⟩
  rw [sorted_heap]; simp; omega
end Go.Proofs.Yteddbeifnolklaa
