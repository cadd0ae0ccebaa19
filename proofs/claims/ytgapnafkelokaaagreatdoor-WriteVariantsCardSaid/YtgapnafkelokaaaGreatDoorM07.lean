/- Operators: the predefined ones, as they are written down. Operators: slices.SortFunc at the predefined operators, by the shelf's contract. Operators: the reference's one and before, in worlds that grow. Operators: the reference's Valid. -/
import Derived.Test.YtgapnafkelokaaaGreatDoorM03
import Derived.Laws.Rows
import Derived.Laws.Tables
import Derived.Laws.CopyOwn
import Derived.Shelf.SlSortCmp.Insertion
import Derived.Laws.OwnMore
import Derived.Shelf.SlSortCmp.QuietGrown
namespace Hb
open Go Go.RowKit
/-- The groups: priority, type, names. -/
def grs : List (Int × Int × List ByteArray) := [(1200, 1, [⟨#[58, 45]⟩, ⟨#[45, 45, 62]⟩]), (1200, 5, [⟨#[58, 45]⟩, ⟨#[63, 45]⟩]), (1100, 2, [⟨#[59]⟩]), (1050, 2, [⟨#[45, 62]⟩]), (1000, 2, [⟨#[44]⟩]), (900, 4, [⟨#[92, 43]⟩]), (700, 1, [⟨#[61]⟩, ⟨#[92, 61]⟩, ⟨#[61, 61]⟩, ⟨#[92, 61, 61]⟩, ⟨#[64, 60]⟩, ⟨#[64, 61, 60]⟩, ⟨#[64, 62]⟩, ⟨#[64, 62, 61]⟩, ⟨#[61, 46, 46]⟩, ⟨#[105, 115]⟩, ⟨#[61, 58, 61]⟩, ⟨#[61, 92, 61]⟩, ⟨#[60]⟩, ⟨#[61, 60]⟩, ⟨#[62]⟩, ⟨#[62, 61]⟩]), (500, 3, [⟨#[43]⟩, ⟨#[45]⟩, ⟨#[47, 92]⟩, ⟨#[92, 47]⟩]), (400, 3, [⟨#[42]⟩, ⟨#[47]⟩, ⟨#[47, 47]⟩, ⟨#[114, 101, 109]⟩, ⟨#[109, 111, 100]⟩, ⟨#[100, 105, 118]⟩, ⟨#[60, 60]⟩, ⟨#[62, 62]⟩]), (200, 1, [⟨#[42, 42]⟩]), (200, 2, [⟨#[94]⟩]), (200, 4, [⟨#[43]⟩, ⟨#[45]⟩, ⟨#[92]⟩])]
def grP (k : Nat) : Int := (grs.getD k (0, 0, [])).1
def grT (k : Nat) : Int := (grs.getD k (0, 0, [])).2.1
def grN (k : Nat) : List ByteArray := (grs.getD k (0, 0, [])).2.2
def grA (k : Nat) : Array Value := ((grN k).map Value.string).toArray
/-- A row of names of the call's own. -/
structure BS (w w1 : World) (b : Nat) (k : Nat) : Prop where
  bel : Below w.heap.size w w1
  lt : b < w1.heap.size
  le : w.heap.size ≤ b
  cells : ∀ j v, (grA k)[j]? = some v → w1.cell? ⟨b, j, none⟩ = some v
theorem BS.start (w : World) (k : Nat) (t : TypeId) : BS w (w.alloc (.cells (grA k) t)) w.heap.size k where
  bel := (Below.refl _ _).alloc (Nat.le_refl _) _
  lt := by simp
  le := Nat.le_refl _
  cells := fun j v h => (World.cell?_alloc_new _ _ _ j).trans h
theorem grA_get (k j : Nat) (h : j < (grN k).length) : (grA k)[j]? = some (.string (grN k)[j]) := by
  unfold grA
  simp [h]
theorem BS.out {w w1 wb : World} {b k : Nat} (h : BS w w1 b k) (c : Below w1.heap.size w1 wb) : b < wb.heap.size ∧ ∀ (j : Nat) (hj : j < (grN k).length), wb.cell? ⟨b, j, none⟩ = some (.string (grN k)[j]) :=
  ⟨Nat.lt_of_lt_of_le h.lt c.size, fun j hj => (c.cell (p := ⟨b, j, none⟩) h.lt).trans (h.cells j _ (grA_get k j hj))⟩
def opsCells (l : List OpR) : List Value := l.flatMap opCells
theorem opsCells_app (a b : List OpR) : opsCells (a ++ b) = opsCells a ++ opsCells b := by unfold opsCells; rw [List.flatMap_append]
def grO (k : Nat) : List OpR := (grN k).map fun s => ⟨s, grT k, grP k⟩
def preL (k : Nat) : List OpR := (List.range k).flatMap grO
theorem preL_succ (k : Nat) : preL (k + 1) = preL k ++ grO k := by unfold preL; rw [List.range_succ, List.flatMap_append]; simp
theorem preL_len : (preL 12).length = 41 := by decide +kernel
theorem preL_le (k : Nat) (h : k ≤ 12) : (preL k).length ≤ 41 := by
  have : ∀ d j, (preL j).length ≤ (preL (j + d)).length := by
    intro d
    induction d with
    | zero => intro j; exact Nat.le_refl _
    | succ d ih => intro j; refine Nat.le_trans (ih j) ?_; rw [show j + (d + 1) = (j + d) + 1 by omega, preL_succ, List.length_append]; omega
  have h2 := this (12 - k) k
  rw [show k + (12 - k) = 12 by omega, preL_len] at h2
  exact h2
theorem grO_le (k : Nat) (h : k < 12) : (preL k).length + (grN k).length ≤ 41 := by
  have := preL_le (k + 1) (by omega)
  rw [preL_succ, List.length_append] at this
  unfold grO at this
  rw [List.length_map] at this
  exact this
/-- An operator put in its place. -/
def insO (o : OpR) : List OpR → List OpR
  | [] => [o]
  | a :: l => if cmpOp o a < 0 then o :: a :: l else a :: insO o l
theorem insO_perm (o : OpR) : ∀ l : List OpR, (insO o l).Perm (o :: l)
  | [] => List.Perm.refl _
  | a :: l => by
    unfold insO
    split
    · exact List.Perm.refl _
    · exact ((insO_perm o l).cons a).trans (List.Perm.swap o a l)
theorem insO_len (o : OpR) (l : List OpR) : (insO o l).length = l.length + 1 := by rw [(insO_perm o l).length_eq]; rfl
def insAll (acc l : List OpR) : List OpR := l.foldl (fun t o => insO o t) acc
theorem insAll_perm : ∀ (l acc : List OpR), (insAll acc l).Perm (acc ++ l)
  | [], acc => by unfold insAll; simp
  | o :: l, acc => by
    have h1 := insAll_perm l (insO o acc)
    have h2 : (insO o acc ++ l).Perm (acc ++ o :: l) := ((insO_perm o acc).append_right l).trans (by simpa using (List.perm_middle (a := o) (l₁ := acc) (l₂ := l)).symm)
    exact h1.trans h2
/-- The predefined operators. -/
def defL : List OpR := insAll [] (preL 12)
theorem defL_ok : opsValid defL = true := by decide +kernel
theorem cell_of_heap {w : World} {g : Nat} {cs : Array Value} {t : TypeId} {fr : Nat × Nat} (hg : w.heap[g]? = some (.cells cs t fr)) (j : Nat) : w.cell? ⟨g, j, none⟩ = cs[j]? := by
  simp [World.cell?, hg]
end Hb
namespace Go.Proofs.YtgapnafkelokaaaGreatDoor
open Go.RowKit Hb
set_option maxRecDepth 100000
theorem infoOp : (Tryz.prog.info? 80).map (fun i => (i.zero, i.size, i.bytes)) = some (some (.agg #[.string ⟨#[]⟩, .int .i64 0, .int .i64 0]), 3, 32) := by kernel_rfl
theorem at_appOO {ops : Array Oper} {rest : List Oper} {a : Act} {Q : Exit → Act → World → Prop} {w : World} {d t p f x g} (h : wpList Tryz.prog ops Q (⟨d, .call { callee := .builtin .append, args := x, argTypes := #[25, 25] }, t, p, f, g⟩ :: rest) a w) : wpList Tryz.prog ops Q (⟨d, .call { callee := .builtin .append, args := x, argTypes := #[25, 25] }, t, p, f, g⟩ :: rest) a w := h
theorem wpList_append_op {w : World} {ops : Array Oper} {rest : List Oper} {o : Oper} {a : Act} {Q : Exit → Act → World → Prop} (hgd : o.guard = none) (s x : Operand)
    (ho : o.op = .call { callee := .builtin .append, args := #[s, x], argTypes := #[25, 25] })
    (base : Nat) (v : Value) (m : Nat) (l : List OpR) (hs : a.eval s = v) (W : World) (hown : W.ownsRow base 80 3 v m (opsCells l)) (r : OpR)
    (hw : w = W.alloc (.cells #[.string r.name, .int .i64 r.typ, .int .i64 r.prec] 80)) (hx : a.eval x = .slice (some ⟨W.heap.size, 0, none⟩) 1 1) (h63 : m ≤ 70368744) (hbase : base ≤ W.heap.size)
    (h : ∀ v' w', w'.ownsRow base 80 3 v' (m + 1) (opsCells (l ++ [r])) → Below base W w' → w.grownBy w' v.ownBlock → wpList Tryz.prog ops Q rest (a.put o.dst v') w') : wpList Tryz.prog ops Q (o :: rest) a w := by
  refine wpList_append_one hgd s x 25 80 ho Tryz.underlying25 _ 3 32 infoOp rfl (by decide) base v m _ hs W hown #[.string r.name, .int .i64 r.typ, .int .i64 r.prec] rfl (by simp [Value.oneCell']) hw hx (by omega) (by omega) hbase fun v' w' ho' hb' hg' => h v' w' ?_ hb' hg'
  rw [opsCells_app]
  exact ho'
theorem at_bs {ops : Array Oper} {rest : List Oper} {a : Act} {Q : Exit → Act → World → Prop} {w : World} {d n t p f x g} (h : wpList Tryz.prog ops Q (⟨d, .buildSlice 28 n x, t, p, f, g⟩ :: rest) a w) : wpList Tryz.prog ops Q (⟨d, .buildSlice 28 n x, t, p, f, g⟩ :: rest) a w := h
theorem wpList_bs {ops : Array Oper} {rest : List Oper} {o : Oper} {a : Act} {Q : Exit → Act → World → Prop} {w : World} (hgd : o.guard = none) (k n : Nat) (parts : List (Nat × Operand)) (parts' : List (Nat × Value))
    (ho : o.op = .buildSlice 28 n parts.toArray) (hm : parts.map (fun x => (x.fst, a.eval x.snd)) = parts')
    (hr : ∀ w : World, (Instr.buildSlice 28 n parts'.toArray).run Tryz.prog w = .ok (.slice (some ⟨w.heap.size, 0, none⟩) n n) (w.alloc (.cells (grA k) 9)))
    (h : ∀ b w1, BS w w1 b k → wpList Tryz.prog ops Q rest (a.put o.dst (.slice (some ⟨b, 0, none⟩) n n)) w1) : wpList Tryz.prog ops Q (o :: rest) a w := by
  refine wpList_plain hgd fun K hK => ?_
  have e : (execOp a.eval o).run Tryz.prog w = .ok (.value (.slice (some ⟨w.heap.size, 0, none⟩) n n)) (w.alloc (.cells (grA k) 9)) := by
    unfold execOp
    rw [ho]
    simp only [List.map_toArray, hm]
    rw [Sem.run_bind, hr]
    rfl
  unfold Oper.wp
  rw [e]
  exact hK _ _ (h _ _ (BS.start w k _))
theorem bs_0 (w : World) : (Instr.buildSlice 28 2 #[(0, .string ⟨#[58, 45]⟩), (1, .string ⟨#[45, 45, 62]⟩)]).run Tryz.prog w = .ok (.slice (some ⟨w.heap.size, 0, none⟩) 2 2) (w.alloc (.cells (grA 0) 9)) := by kernel_rfl
theorem bs_1 (w : World) : (Instr.buildSlice 28 2 #[(0, .string ⟨#[58, 45]⟩), (1, .string ⟨#[63, 45]⟩)]).run Tryz.prog w = .ok (.slice (some ⟨w.heap.size, 0, none⟩) 2 2) (w.alloc (.cells (grA 1) 9)) := by kernel_rfl
theorem bs_2 (w : World) : (Instr.buildSlice 28 1 #[(0, .string ⟨#[59]⟩)]).run Tryz.prog w = .ok (.slice (some ⟨w.heap.size, 0, none⟩) 1 1) (w.alloc (.cells (grA 2) 9)) := by kernel_rfl
theorem bs_3 (w : World) : (Instr.buildSlice 28 1 #[(0, .string ⟨#[45, 62]⟩)]).run Tryz.prog w = .ok (.slice (some ⟨w.heap.size, 0, none⟩) 1 1) (w.alloc (.cells (grA 3) 9)) := by kernel_rfl
theorem bs_4 (w : World) : (Instr.buildSlice 28 1 #[(0, .string ⟨#[44]⟩)]).run Tryz.prog w = .ok (.slice (some ⟨w.heap.size, 0, none⟩) 1 1) (w.alloc (.cells (grA 4) 9)) := by kernel_rfl
theorem bs_5 (w : World) : (Instr.buildSlice 28 1 #[(0, .string ⟨#[92, 43]⟩)]).run Tryz.prog w = .ok (.slice (some ⟨w.heap.size, 0, none⟩) 1 1) (w.alloc (.cells (grA 5) 9)) := by kernel_rfl
theorem bs_6 (w : World) : (Instr.buildSlice 28 16 #[(0, .string ⟨#[61]⟩), (1, .string ⟨#[92, 61]⟩), (2, .string ⟨#[61, 61]⟩), (3, .string ⟨#[92, 61, 61]⟩), (4, .string ⟨#[64, 60]⟩), (5, .string ⟨#[64, 61, 60]⟩), (6, .string ⟨#[64, 62]⟩), (7, .string ⟨#[64, 62, 61]⟩), (8, .string ⟨#[61, 46, 46]⟩), (9, .string ⟨#[105, 115]⟩), (10, .string ⟨#[61, 58, 61]⟩), (11, .string ⟨#[61, 92, 61]⟩), (12, .string ⟨#[60]⟩), (13, .string ⟨#[61, 60]⟩), (14, .string ⟨#[62]⟩), (15, .string ⟨#[62, 61]⟩)]).run Tryz.prog w = .ok (.slice (some ⟨w.heap.size, 0, none⟩) 16 16) (w.alloc (.cells (grA 6) 9)) := by kernel_rfl
theorem bs_7 (w : World) : (Instr.buildSlice 28 4 #[(0, .string ⟨#[43]⟩), (1, .string ⟨#[45]⟩), (2, .string ⟨#[47, 92]⟩), (3, .string ⟨#[92, 47]⟩)]).run Tryz.prog w = .ok (.slice (some ⟨w.heap.size, 0, none⟩) 4 4) (w.alloc (.cells (grA 7) 9)) := by kernel_rfl
theorem bs_8 (w : World) : (Instr.buildSlice 28 8 #[(0, .string ⟨#[42]⟩), (1, .string ⟨#[47]⟩), (2, .string ⟨#[47, 47]⟩), (3, .string ⟨#[114, 101, 109]⟩), (4, .string ⟨#[109, 111, 100]⟩), (5, .string ⟨#[100, 105, 118]⟩), (6, .string ⟨#[60, 60]⟩), (7, .string ⟨#[62, 62]⟩)]).run Tryz.prog w = .ok (.slice (some ⟨w.heap.size, 0, none⟩) 8 8) (w.alloc (.cells (grA 8) 9)) := by kernel_rfl
theorem bs_9 (w : World) : (Instr.buildSlice 28 1 #[(0, .string ⟨#[42, 42]⟩)]).run Tryz.prog w = .ok (.slice (some ⟨w.heap.size, 0, none⟩) 1 1) (w.alloc (.cells (grA 9) 9)) := by kernel_rfl
theorem bs_10 (w : World) : (Instr.buildSlice 28 1 #[(0, .string ⟨#[94]⟩)]).run Tryz.prog w = .ok (.slice (some ⟨w.heap.size, 0, none⟩) 1 1) (w.alloc (.cells (grA 10) 9)) := by kernel_rfl
theorem bs_11 (w : World) : (Instr.buildSlice 28 3 #[(0, .string ⟨#[43]⟩), (1, .string ⟨#[45]⟩), (2, .string ⟨#[92]⟩)]).run Tryz.prog w = .ok (.slice (some ⟨w.heap.size, 0, none⟩) 3 3) (w.alloc (.cells (grA 11) 9)) := by kernel_rfl
end Go.Proofs.YtgapnafkelokaaaGreatDoor
namespace Hb
open Go Go.RowKit Go.Sort Go.Proofs
theorem befOp_iff (a b : OpR) : befOp a b = true ↔ a.name.toList < b.name.toList ∨ (a.name.toList = b.name.toList ∧ clsOp a.typ < clsOp b.typ) := by
  unfold befOp
  by_cases h : a.name.toList = b.name.toList
  · have hi : ¬b.name.toList < b.name.toList := List.lt_irrefl _
    simp [h, hi]
  · have h2 : (a.name.toList == b.name.toList) = false := by simpa using h
    rw [h2, if_neg (by simp), bytesLess_eq]
    simp [h]
theorem ltOf_bef (a b : OpR) : ltOf cmpOp a b = befOp a b := (befOp_cmp a b).symm
theorem swo_op : SWO (ltOf cmpOp) where
  irrefl x := by
    rw [ltOf_bef, ← Bool.not_eq_true, befOp_iff]
    rintro (h | ⟨_, h⟩)
    · exact List.lt_irrefl _ h
    · omega
  trans x y z h1 h2 := by
    rw [ltOf_bef, befOp_iff] at *
    rcases h1 with h1 | ⟨e1, h1⟩ <;> rcases h2 with h2 | ⟨e2, h2⟩
    · exact .inl (List.lt_trans h1 h2)
    · exact .inl (e2 ▸ h1)
    · exact .inl (e1 ▸ h2)
    · exact .inr ⟨e1.trans e2, by omega⟩
  ntrans x y z h1 h2 := by
    rw [ltOf_bef, ← Bool.not_eq_true, befOp_iff] at *
    rintro h
    have a1 : y.name.toList ≤ x.name.toList := fun h => h1 (.inl h)
    have a2 : z.name.toList ≤ y.name.toList := fun h => h2 (.inl h)
    rcases h with h | ⟨e, h⟩
    · exact List.lt_irrefl _ (List.lt_of_le_of_lt (List.le_trans a2 a1) h)
    · have e1 : y.name.toList = x.name.toList := List.le_antisymm a1 (by rw [e]; exact a2)
      have c1 : ¬clsOp x.typ < clsOp y.typ := fun hh => h1 (.inr ⟨e1.symm, hh⟩)
      have c2 : ¬clsOp y.typ < clsOp z.typ := fun hh => h2 (.inr ⟨e1.trans e, hh⟩)
      omega
theorem defL_len : defL.length = 41 := by decide +kernel
end Hb
namespace Hb
open Go Go.RowKit Go.Sort Go.Proofs
theorem grows_of {w w' : World} (h : Below w.heap.size w w') (hd : w.drawn ≤ w'.drawn) : ∃ q os', w' = Sort.grow (w.drewN q) os' := by
  refine ⟨w'.drawn - w.drawn, w'.heap.extract w.heap.size w'.heap.size, ?_⟩
  have hh : w'.heap = w.heap ++ w'.heap.extract w.heap.size w'.heap.size := by
    apply Array.ext_getElem?
    intro i
    by_cases hi : i < w.heap.size
    · rw [h.block i hi, Array.getElem?_append_left hi]
    · rw [Array.getElem?_append_right (by omega), Array.getElem?_extract]
      have := h.size
      by_cases h2 : i < w'.heap.size
      · rw [if_pos (by omega)]; congr 1; omega
      · rw [if_neg (by omega), Array.getElem?_eq_none (by omega)]
  obtain ⟨H', t', d', o', u'⟩ := w'
  obtain ⟨H, t, d, o, u⟩ := w
  have e1 := h.os
  have e2 := h.tape
  have e3 := h.output
  simp only [] at e1 e2 e3 hh hd
  subst e1 e2 e3
  unfold Sort.grow World.drewN
  simp only []
  rw [← hh]
  congr 1
  omega
end Hb
namespace Go.Proofs.YtgapnafkelokaaaGreatDoor
open Go.RowKit Hb Go.Sort
set_option maxRecDepth 100000
end Go.Proofs.YtgapnafkelokaaaGreatDoor
namespace Hb
open Go Go.RowKit
theorem bl_grow (w : World) (n : Nat) (os : Array Obj) : Below w.heap.size w (Sort.grow (w.drewN n) os) :=
  ⟨rfl, rfl, rfl, by show w.heap.size ≤ (w.heap ++ os).size; simp, fun k hk => by show (w.heap ++ os)[k]? = _; rw [Array.getElem?_append_left hk]⟩
end Hb
namespace Go.Proofs.YtgapnafkelokaaaGreatDoor
open Go.RowKit Hb
set_option maxRecDepth 100000
set_option maxHeartbeats 1600000 in
theorem ref_one_up (o : OpR) (w : World) : Calls Tryz.prog 41 #[opV o] w fun e w' => e = .returned (.bool (opOk o)) ∧ ∃ q os', w' = Sort.grow (w.drewN q) os' := by
  unfold opV
  go_enter Tryz.func41, Tryz.ntmps41
  go_wp2_with (first | (go_at_call 43; (with_reducible refine (ref_classO o.typ _).mono ?_); rintro e w2 ⟨rfl, rfl⟩))
  all_goals go_ret
  all_goals refine ⟨ret_bool ?_, grows_of ((Below.refl _ _).alloc (Nat.le_refl _) _) (Nat.le_refl _)⟩
  all_goals unfold opOk isN
  all_goals grind
theorem ref_before_up (a b : OpR) (w : World) : Calls Tryz.prog 42 #[opV a, opV b] w fun e w' => e = .returned (.bool (befOp a b)) ∧ ∃ q os', w' = Sort.grow (w.drewN q) os' := by
  have H1 := CmpHeld.start w a b 80
  unfold opV
  cases h : (a.name.toList == b.name.toList)
  · have hs := Lib.hid (show befOp a b = Op.bytesLess a.name.toList b.name.toList by unfold befOp; rw [h, if_neg (by simp)])
    have h2 : ¬a.name.toList = b.name.toList := by simpa using h
    go_enter Tryz.func42, Tryz.ntmps42
    go_wp2_with fail
    go_ret
    exact ⟨ret_bool hs.out.symm, grows_of H1.bel H1.dr⟩
  · have hs := Lib.hid (show befOp a b = decide (clsOp a.typ < clsOp b.typ) by unfold befOp; rw [h, if_pos rfl])
    have h2 : a.name.toList = b.name.toList := by simpa using h
    go_enter Tryz.func42, Tryz.ntmps42
    go_wp2_with fail
    go_quiet ((go_at_call 43; first | with_reducible exact quiet0 ((ref_classO a.typ _).mono fun _ _ ⟨he, hw⟩ => ⟨he, hw.symm⟩) | with_reducible exact quiet0 ((ref_classO b.typ _).mono fun _ _ ⟨he, hw⟩ => ⟨he, hw.symm⟩)))
    go_wp2_with fail
    go_ret
    exact ⟨ret_bool hs.out.symm, grows_of (bl_drewN H1.bel _) (Nat.le_trans H1.dr (Nat.le_add_right _ _))⟩
end Go.Proofs.YtgapnafkelokaaaGreatDoor
namespace Go.Proofs.YtgapnafkelokaaaGreatDoor
open Go.RowKit Hb
set_option maxRecDepth 100000
theorem wpQuiet_run {P : Program} {ops : Array Oper} {C : World → Prop} {Q : Act → Prop} {a : Act} {o : Oper} {rest : List Oper} (hw : Region.wanted o (yielded ops a.tmps) = true) (h : ∀ K : Act → Prop, (∀ a, wpQuiet P ops C Q rest a → K a) → o.quiet P a C K) : wpQuiet P ops C Q (o :: rest) a :=
  wpQuiet_step fun K hK => by rw [if_pos hw]; exact h K hK
theorem wpQuiet_skip {P : Program} {ops : Array Oper} {C : World → Prop} {Q : Act → Prop} {a : Act} {o : Oper} {rest : List Oper} (hw : Region.wanted o (yielded ops a.tmps) = false) (h : wpQuiet P ops C Q rest (a.put o.dst undef)) : wpQuiet P ops C Q (o :: rest) a :=
  wpQuiet_step fun K hK => by rw [if_neg (by rw [hw]; simp)]; exact hK _ h
set_option maxHeartbeats 6400000 in
theorem ref_valid (A : Option Addr) (n cap : Nat) (l : List OpR) (w : World) (hn : n = l.length) (hm : n ≤ 400) (hp : OpsAt w A l) :
    Calls Tryz.prog 20 #[.slice A n cap] w fun e w' => e = .returned (.bool (opsValid l)) ∧ Below w.heap.size w w' := by
  by_cases c1 : 100 < n
  · have b1 : decide ((100 : Int) < n) = true := by simp; omega
    have HV := Lib.hid (opsValid_long l (by omega))
    clear hn hp c1
    go_enter Tryz.func20, Tryz.ntmps20
    go_wp2_with fail
    go_ret
    exact ⟨ret_bool HV.out.symm, Below.refl _ _⟩
  have b1 : decide ((100 : Int) < n) = false := by simp; omega
  have h100 : n ≤ 100 := by omega
  have HN := Lib.hid hn
  have HP := Lib.hid hp
  have mixed : Tryz.prog.follows Departure.mixedOrders = true := by kernel_rfl
  clear hn hp c1
  go_enter Tryz.func20, Tryz.ntmps20
  go_wp2_with fail
  go_loopw [3] (fun i wr => ∃ k : Nat, k ≤ n ∧ i = .int .i64 k ∧ Below w.heap.size w wr ∧ Hid (∀ j, j < k → okJ l j = true)) (fun i _ => n - (intOf i).toNat)
  case atStart => exact ⟨0, Nat.zero_le _, rfl, Below.refl _ _, fun j hj => absurd hj (by omega)⟩
  case round =>
    obtain ⟨k, hk, rfl, hB, HA⟩ := hrel
    by_cases hlt : k < n
    · have hbs := hB.size
      have hkl : k < l.length := by have := HN.out; omega
      obtain ⟨b, off, rfl, hb, c0, c1, c2⟩ := (HP.out.below hB) k hkl
      have hprev : 0 < k → wr.cell? ⟨b, off + (k - 1) * 3, none⟩ = some (.string (l[k - 1]'(by omega)).name) ∧ wr.cell? ⟨b, off + (k - 1) * 3 + 1, none⟩ = some (.int .i64 (l[k - 1]'(by omega)).typ) ∧ wr.cell? ⟨b, off + (k - 1) * 3 + 2, none⟩ = some (.int .i64 (l[k - 1]'(by omega)).prec) := fun h0 => by
        obtain ⟨b', off', e', _, d0, d1, d2⟩ := (HP.out.below hB) (k - 1) (by omega)
        injection e' with e'
        injection e' with e1 e2 _
        subst e1 e2
        exact ⟨d0, d1, d2⟩
      have HPr := Lib.hid hprev
      have J1 := Lib.hid (okJ_1 l k hkl)
      have J0 := Lib.hid (okJ_0 l k hkl)
      have JS := Lib.hid (okJ_s l k hkl)
      have HNO := Lib.hid (opsValid_no l k hkl)
      generalize l[k] = o at *
      clear hprev
      have hki0 : (0 : Int) ≤ (k : Int) := by omega
      have hki1 : (k : Int) < (n : Int) := by omega
      have HW := Lib.hid (fun W => ref_one_up o W)
      unfold opV at HW
      have hcW : ∀ n os, Calls Tryz.prog 41 #[.agg #[.string o.name, .int .i64 o.typ, .int .i64 o.prec]] (Sort.grow (wr.drewN n) os) fun e w' => e = .returned (.bool (opOk o)) ∧ ∃ q os', w' = Sort.grow ((Sort.grow (wr.drewN n) os).drewN q) os' := fun n os => HW.out _
      have HCW := Lib.hid hcW
      clear hcW HW
      have q0 : ∀ n os, (Sort.grow (wr.drewN n) os).cell? ⟨b, off + k * 3, none⟩ = some (.string o.name) := cell_grown hb c0
      have q1 : ∀ n os, (Sort.grow (wr.drewN n) os).cell? ⟨b, off + k * 3 + 1, none⟩ = some (.int .i64 o.typ) := cell_grown hb c1
      have q2 : ∀ n os, (Sort.grow (wr.drewN n) os).cell? ⟨b, off + k * 3 + 2, none⟩ = some (.int .i64 o.prec) := cell_grown hb c2
      clear c0 c1 c2
      by_cases h0 : k = 0
      · have HH0 := Lib.hid h0
        have g1 : decide (0 < (k : Int)) = false := by simp; omega
        have g1b : decide (0 < k) = false := by simp; omega
        have g1c : ¬ (0 : Int) < (k : Int) := by omega
        clear h0
        cases hok : opOk o
        · skip
          have HO := Lib.hid hok
          rw [hok] at HCW
          clear hok
          go_wp2_with fail
          refine wp_region_quiet_grown (by assumption) (by kernel_rfl) ?_
          with_reducible refine wpQuiet_run (by kernel_rfl) (fun K hK => ?_)
          go_simp
          refine hK _ ?_
          clear hK K
          with_reducible refine wpQuiet_run (by kernel_rfl) (fun K hK => ?_)
          go_simp
          refine hK _ ?_
          clear hK K
          with_reducible refine wpQuiet_run (by kernel_rfl) (fun K hK => ?_)
          go_simp
          refine hK _ ?_
          clear hK K
          with_reducible refine wpQuiet_run (by kernel_rfl) (fun K hK => ?_)
          go_simp
          refine hK _ ?_
          clear hK K
          with_reducible refine wpQuiet_run (by kernel_rfl) (fun K hK => ?_)
          go_simp
          apply Exists.intro
          refine ⟨fun _ => ?_, hK _ ?_⟩
          (go_at_call 41; (with_reducible refine Calls.grown_of (HCW.out _ _)))
          clear hK K
          with_reducible refine wpQuiet_run (by kernel_rfl) (fun K hK => ?_)
          go_simp
          refine hK _ ?_
          clear hK K
          with_reducible refine wpQuiet_run (by kernel_rfl) (fun K hK => ?_)
          go_simp
          refine hK _ ?_
          clear hK K
          with_reducible refine wpQuiet_skip (by kernel_rfl) ?_
          simp only [Act.put, List.setIfInBounds_toArray, List.set_cons_zero, List.set_cons_succ]
          with_reducible refine wpQuiet_skip (by kernel_rfl) ?_
          simp only [Act.put, List.setIfInBounds_toArray, List.set_cons_zero, List.set_cons_succ]
          with_reducible refine wpQuiet_skip (by kernel_rfl) ?_
          simp only [Act.put, List.setIfInBounds_toArray, List.set_cons_zero, List.set_cons_succ]
          with_reducible refine wpQuiet_skip (by kernel_rfl) ?_
          simp only [Act.put, List.setIfInBounds_toArray, List.set_cons_zero, List.set_cons_succ]
          with_reducible refine wpQuiet_skip (by kernel_rfl) ?_
          simp only [Act.put, List.setIfInBounds_toArray, List.set_cons_zero, List.set_cons_succ]
          with_reducible refine wpQuiet_skip (by kernel_rfl) ?_
          simp only [Act.put, List.setIfInBounds_toArray, List.set_cons_zero, List.set_cons_succ]
          with_reducible refine wpQuiet_skip (by kernel_rfl) ?_
          simp only [Act.put, List.setIfInBounds_toArray, List.set_cons_zero, List.set_cons_succ]
          with_reducible refine wpQuiet_skip (by kernel_rfl) ?_
          simp only [Act.put, List.setIfInBounds_toArray, List.set_cons_zero, List.set_cons_succ]
          with_reducible refine wpQuiet_skip (by kernel_rfl) ?_
          simp only [Act.put, List.setIfInBounds_toArray, List.set_cons_zero, List.set_cons_succ]
          with_reducible refine wpQuiet_skip (by kernel_rfl) ?_
          simp only [Act.put, List.setIfInBounds_toArray, List.set_cons_zero, List.set_cons_succ]
          with_reducible refine wpQuiet_skip (by kernel_rfl) ?_
          simp only [Act.put, List.setIfInBounds_toArray, List.set_cons_zero, List.set_cons_succ]
          with_reducible refine wpQuiet_skip (by kernel_rfl) ?_
          simp only [Act.put, List.setIfInBounds_toArray, List.set_cons_zero, List.set_cons_succ]
          with_reducible refine wpQuiet_skip (by kernel_rfl) ?_
          simp only [Act.put, List.setIfInBounds_toArray, List.set_cons_zero, List.set_cons_succ]
          with_reducible refine wpQuiet_skip (by kernel_rfl) ?_
          simp only [Act.put, List.setIfInBounds_toArray, List.set_cons_zero, List.set_cons_succ]
          with_reducible refine wpQuiet_skip (by kernel_rfl) ?_
          simp only [Act.put, List.setIfInBounds_toArray, List.set_cons_zero, List.set_cons_succ]
          with_reducible refine wpQuiet_run (by kernel_rfl) (fun K hK => ?_)
          go_simp
          refine hK _ ?_
          clear hK K
          refine wpQuiet_nil ?_
          intro _ hw'
          obtain ⟨⟨nq, osq⟩, hw''⟩ := hw'
          subst hw''
          have hBf := bl_grow wr nq osq
          go_wp2_with fail
          go_ret
          exact ⟨ret_bool (HNO.out (J1.out HO.out)).symm, hB.trans (hBf.mono hbs)⟩
        · have HO := Lib.hid hok
          have HJ := Lib.hid (J0.out HH0.out hok)
          rw [hok] at HCW
          clear hok
          go_wp2_with fail
          refine wp_region_quiet_grown (by assumption) (by kernel_rfl) ?_
          with_reducible refine wpQuiet_run (by kernel_rfl) (fun K hK => ?_)
          go_simp
          refine hK _ ?_
          clear hK K
          with_reducible refine wpQuiet_run (by kernel_rfl) (fun K hK => ?_)
          go_simp
          refine hK _ ?_
          clear hK K
          with_reducible refine wpQuiet_run (by kernel_rfl) (fun K hK => ?_)
          go_simp
          refine hK _ ?_
          clear hK K
          with_reducible refine wpQuiet_run (by kernel_rfl) (fun K hK => ?_)
          go_simp
          refine hK _ ?_
          clear hK K
          with_reducible refine wpQuiet_run (by kernel_rfl) (fun K hK => ?_)
          go_simp
          apply Exists.intro
          refine ⟨fun _ => ?_, hK _ ?_⟩
          (go_at_call 41; (with_reducible refine Calls.grown_of (HCW.out _ _)))
          clear hK K
          with_reducible refine wpQuiet_run (by kernel_rfl) (fun K hK => ?_)
          go_simp
          refine hK _ ?_
          clear hK K
          with_reducible refine wpQuiet_run (by kernel_rfl) (fun K hK => ?_)
          go_simp
          refine hK _ ?_
          clear hK K
          with_reducible refine wpQuiet_run (by kernel_rfl) (fun K hK => ?_)
          go_simp
          refine hK _ ?_
          clear hK K
          with_reducible refine wpQuiet_run (by kernel_rfl) (fun K hK => ?_)
          go_simp
          refine hK _ ?_
          clear hK K
          with_reducible refine wpQuiet_run (by kernel_rfl) (fun K hK => ?_)
          go_simp
          refine hK _ ?_
          clear hK K
          with_reducible refine wpQuiet_skip (by kernel_rfl) ?_
          simp only [Act.put, List.setIfInBounds_toArray, List.set_cons_zero, List.set_cons_succ]
          with_reducible refine wpQuiet_skip (by kernel_rfl) ?_
          simp only [Act.put, List.setIfInBounds_toArray, List.set_cons_zero, List.set_cons_succ]
          with_reducible refine wpQuiet_skip (by kernel_rfl) ?_
          simp only [Act.put, List.setIfInBounds_toArray, List.set_cons_zero, List.set_cons_succ]
          with_reducible refine wpQuiet_skip (by kernel_rfl) ?_
          simp only [Act.put, List.setIfInBounds_toArray, List.set_cons_zero, List.set_cons_succ]
          with_reducible refine wpQuiet_skip (by kernel_rfl) ?_
          simp only [Act.put, List.setIfInBounds_toArray, List.set_cons_zero, List.set_cons_succ]
          with_reducible refine wpQuiet_skip (by kernel_rfl) ?_
          simp only [Act.put, List.setIfInBounds_toArray, List.set_cons_zero, List.set_cons_succ]
          with_reducible refine wpQuiet_skip (by kernel_rfl) ?_
          simp only [Act.put, List.setIfInBounds_toArray, List.set_cons_zero, List.set_cons_succ]
          with_reducible refine wpQuiet_skip (by kernel_rfl) ?_
          simp only [Act.put, List.setIfInBounds_toArray, List.set_cons_zero, List.set_cons_succ]
          with_reducible refine wpQuiet_skip (by kernel_rfl) ?_
          simp only [Act.put, List.setIfInBounds_toArray, List.set_cons_zero, List.set_cons_succ]
          with_reducible refine wpQuiet_skip (by kernel_rfl) ?_
          simp only [Act.put, List.setIfInBounds_toArray, List.set_cons_zero, List.set_cons_succ]
          with_reducible refine wpQuiet_skip (by kernel_rfl) ?_
          simp only [Act.put, List.setIfInBounds_toArray, List.set_cons_zero, List.set_cons_succ]
          with_reducible refine wpQuiet_run (by kernel_rfl) (fun K hK => ?_)
          go_simp
          refine hK _ ?_
          clear hK K
          with_reducible refine wpQuiet_run (by kernel_rfl) (fun K hK => ?_)
          go_simp
          refine hK _ ?_
          clear hK K
          refine wpQuiet_nil ?_
          intro _ hw'
          obtain ⟨⟨nq, osq⟩, hw''⟩ := hw'
          subst hw''
          have hBf := bl_grow wr nq osq
          have z0 := q0 nq osq
          have z1 := q1 nq osq
          have z2 := q2 nq osq
          have hbl := Nat.lt_of_lt_of_le hb hBf.size
          have hBm := hB.trans (hBf.mono hbs)
          generalize Sort.grow (wr.drewN nq) osq = w6 at *
          clear q0 q1 q2
          go_wp2_with fail
          refine wp_region_quiet_grown (by assumption) (by kernel_rfl) ?_
          with_reducible refine wpQuiet_run (by kernel_rfl) (fun K hK => ?_)
          go_simp
          refine hK _ ?_
          clear hK K
          with_reducible refine wpQuiet_run (by kernel_rfl) (fun K hK => ?_)
          go_simp
          refine hK _ ?_
          clear hK K
          with_reducible refine wpQuiet_run (by kernel_rfl) (fun K hK => ?_)
          go_simp
          refine hK _ ?_
          clear hK K
          with_reducible refine wpQuiet_skip (by kernel_rfl) ?_
          simp only [Act.put, List.setIfInBounds_toArray, List.set_cons_zero, List.set_cons_succ]
          with_reducible refine wpQuiet_skip (by kernel_rfl) ?_
          simp only [Act.put, List.setIfInBounds_toArray, List.set_cons_zero, List.set_cons_succ]
          with_reducible refine wpQuiet_skip (by kernel_rfl) ?_
          simp only [Act.put, List.setIfInBounds_toArray, List.set_cons_zero, List.set_cons_succ]
          with_reducible refine wpQuiet_skip (by kernel_rfl) ?_
          simp only [Act.put, List.setIfInBounds_toArray, List.set_cons_zero, List.set_cons_succ]
          with_reducible refine wpQuiet_skip (by kernel_rfl) ?_
          simp only [Act.put, List.setIfInBounds_toArray, List.set_cons_zero, List.set_cons_succ]
          with_reducible refine wpQuiet_skip (by kernel_rfl) ?_
          simp only [Act.put, List.setIfInBounds_toArray, List.set_cons_zero, List.set_cons_succ]
          with_reducible refine wpQuiet_skip (by kernel_rfl) ?_
          simp only [Act.put, List.setIfInBounds_toArray, List.set_cons_zero, List.set_cons_succ]
          with_reducible refine wpQuiet_skip (by kernel_rfl) ?_
          simp only [Act.put, List.setIfInBounds_toArray, List.set_cons_zero, List.set_cons_succ]
          with_reducible refine wpQuiet_skip (by kernel_rfl) ?_
          simp only [Act.put, List.setIfInBounds_toArray, List.set_cons_zero, List.set_cons_succ]
          with_reducible refine wpQuiet_skip (by kernel_rfl) ?_
          simp only [Act.put, List.setIfInBounds_toArray, List.set_cons_zero, List.set_cons_succ]
          with_reducible refine wpQuiet_skip (by kernel_rfl) ?_
          simp only [Act.put, List.setIfInBounds_toArray, List.set_cons_zero, List.set_cons_succ]
          with_reducible refine wpQuiet_skip (by kernel_rfl) ?_
          simp only [Act.put, List.setIfInBounds_toArray, List.set_cons_zero, List.set_cons_succ]
          with_reducible refine wpQuiet_run (by kernel_rfl) (fun K hK => ?_)
          go_simp
          refine hK _ ?_
          clear hK K
          with_reducible refine wpQuiet_run (by kernel_rfl) (fun K hK => ?_)
          go_simp
          refine hK _ ?_
          clear hK K
          with_reducible refine wpQuiet_skip (by kernel_rfl) ?_
          simp only [Act.put, List.setIfInBounds_toArray, List.set_cons_zero, List.set_cons_succ]
          with_reducible refine wpQuiet_skip (by kernel_rfl) ?_
          simp only [Act.put, List.setIfInBounds_toArray, List.set_cons_zero, List.set_cons_succ]
          with_reducible refine wpQuiet_skip (by kernel_rfl) ?_
          simp only [Act.put, List.setIfInBounds_toArray, List.set_cons_zero, List.set_cons_succ]
          with_reducible refine wpQuiet_skip (by kernel_rfl) ?_
          simp only [Act.put, List.setIfInBounds_toArray, List.set_cons_zero, List.set_cons_succ]
          with_reducible refine wpQuiet_skip (by kernel_rfl) ?_
          simp only [Act.put, List.setIfInBounds_toArray, List.set_cons_zero, List.set_cons_succ]
          with_reducible refine wpQuiet_skip (by kernel_rfl) ?_
          simp only [Act.put, List.setIfInBounds_toArray, List.set_cons_zero, List.set_cons_succ]
          with_reducible refine wpQuiet_skip (by kernel_rfl) ?_
          simp only [Act.put, List.setIfInBounds_toArray, List.set_cons_zero, List.set_cons_succ]
          with_reducible refine wpQuiet_skip (by kernel_rfl) ?_
          simp only [Act.put, List.setIfInBounds_toArray, List.set_cons_zero, List.set_cons_succ]
          with_reducible refine wpQuiet_run (by kernel_rfl) (fun K hK => ?_)
          go_simp
          refine hK _ ?_
          clear hK K
          with_reducible refine wpQuiet_run (by kernel_rfl) (fun K hK => ?_)
          go_simp
          refine hK _ ?_
          clear hK K
          with_reducible refine wpQuiet_skip (by kernel_rfl) ?_
          simp only [Act.put, List.setIfInBounds_toArray, List.set_cons_zero, List.set_cons_succ]
          with_reducible refine wpQuiet_skip (by kernel_rfl) ?_
          simp only [Act.put, List.setIfInBounds_toArray, List.set_cons_zero, List.set_cons_succ]
          with_reducible refine wpQuiet_skip (by kernel_rfl) ?_
          simp only [Act.put, List.setIfInBounds_toArray, List.set_cons_zero, List.set_cons_succ]
          with_reducible refine wpQuiet_skip (by kernel_rfl) ?_
          simp only [Act.put, List.setIfInBounds_toArray, List.set_cons_zero, List.set_cons_succ]
          with_reducible refine wpQuiet_skip (by kernel_rfl) ?_
          simp only [Act.put, List.setIfInBounds_toArray, List.set_cons_zero, List.set_cons_succ]
          with_reducible refine wpQuiet_skip (by kernel_rfl) ?_
          simp only [Act.put, List.setIfInBounds_toArray, List.set_cons_zero, List.set_cons_succ]
          with_reducible refine wpQuiet_skip (by kernel_rfl) ?_
          simp only [Act.put, List.setIfInBounds_toArray, List.set_cons_zero, List.set_cons_succ]
          with_reducible refine wpQuiet_run (by kernel_rfl) (fun K hK => ?_)
          go_simp
          refine hK _ ?_
          clear hK K
          refine wpQuiet_nil ?_
          intro _ hw'
          obtain ⟨⟨nq, osq⟩, hw''⟩ := hw'
          subst hw''
          have hBn := hBm.trans ((bl_grow w6 nq osq).mono hBm.size)
          go_wp2_with fail
          go_roundw
          case rel => exact ⟨k + 1, by omega, by go_num, hBn, Lib.hid fun j hj => by
            rcases Nat.lt_or_ge j k with h | h
            · exact HA.out j h
            · have : j = k := by omega
              subst this; exact HJ.out⟩
          case measure => simp [intOf] <;> omega
      · have h0' : 0 < k := by omega
        obtain ⟨d0, d1, d2⟩ := HPr.out h0'
        have JS2 := Lib.hid (JS.out h0')
        clear JS HPr
        generalize l[k - 1]'(by omega) = p at *
        have r0 : ∀ n os, (Sort.grow (wr.drewN n) os).cell? ⟨b, off + (k - 1) * 3, none⟩ = some (.string p.name) := cell_grown hb d0
        have r1 : ∀ n os, (Sort.grow (wr.drewN n) os).cell? ⟨b, off + (k - 1) * 3 + 1, none⟩ = some (.int .i64 p.typ) := cell_grown hb d1
        have r2 : ∀ n os, (Sort.grow (wr.drewN n) os).cell? ⟨b, off + (k - 1) * 3 + 2, none⟩ = some (.int .i64 p.prec) := cell_grown hb d2
        clear d0 d1 d2
        have HX := Lib.hid (fun W => ref_before_up p o W)
        unfold opV at HX
        have HCX : Hid (∀ n os, Calls Tryz.prog 42 #[.agg #[.string p.name, .int .i64 p.typ, .int .i64 p.prec], .agg #[.string o.name, .int .i64 o.typ, .int .i64 o.prec]] (Sort.grow (wr.drewN n) os) fun e w' => e = .returned (.bool (befOp p o)) ∧ ∃ q os', w' = Sort.grow ((Sort.grow (wr.drewN n) os).drewN q) os') := Lib.hid fun n os => HX.out _
        clear HX
        have g1 : decide (0 < (k : Int)) = true := by simp; omega
        have g1b : decide (0 < k) = true := by simp; omega
        have p0 : (0 : Int) ≤ (k : Int) - 1 := by omega
        have p4 : (1 : Int) ≤ (k : Int) := by omega
        have p1 : (k : Int) - 1 < (n : Int) := by omega
        have p2 : IntKind.i64.wrap ((k : Int) - 1) = (k : Int) - 1 := IntWalk.i64_in _ (by omega)
        have p3 : ((k : Int) - 1).toNat = k - 1 := by omega
        clear h0
        cases hok : opOk o
        · skip
          have HO := Lib.hid hok
          rw [hok] at HCW
          clear hok
          go_wp2_with fail
          refine wp_region_quiet_grown (by assumption) (by kernel_rfl) ?_
          with_reducible refine wpQuiet_run (by kernel_rfl) (fun K hK => ?_)
          go_simp
          refine hK _ ?_
          clear hK K
          with_reducible refine wpQuiet_run (by kernel_rfl) (fun K hK => ?_)
          go_simp
          refine hK _ ?_
          clear hK K
          with_reducible refine wpQuiet_run (by kernel_rfl) (fun K hK => ?_)
          go_simp
          refine hK _ ?_
          clear hK K
          with_reducible refine wpQuiet_run (by kernel_rfl) (fun K hK => ?_)
          go_simp
          refine hK _ ?_
          clear hK K
          with_reducible refine wpQuiet_run (by kernel_rfl) (fun K hK => ?_)
          go_simp
          apply Exists.intro
          refine ⟨fun _ => ?_, hK _ ?_⟩
          (go_at_call 41; (with_reducible refine Calls.grown_of (HCW.out _ _)))
          clear hK K
          with_reducible refine wpQuiet_run (by kernel_rfl) (fun K hK => ?_)
          go_simp
          refine hK _ ?_
          clear hK K
          with_reducible refine wpQuiet_run (by kernel_rfl) (fun K hK => ?_)
          go_simp
          refine hK _ ?_
          clear hK K
          with_reducible refine wpQuiet_skip (by kernel_rfl) ?_
          simp only [Act.put, List.setIfInBounds_toArray, List.set_cons_zero, List.set_cons_succ]
          with_reducible refine wpQuiet_skip (by kernel_rfl) ?_
          simp only [Act.put, List.setIfInBounds_toArray, List.set_cons_zero, List.set_cons_succ]
          with_reducible refine wpQuiet_skip (by kernel_rfl) ?_
          simp only [Act.put, List.setIfInBounds_toArray, List.set_cons_zero, List.set_cons_succ]
          with_reducible refine wpQuiet_skip (by kernel_rfl) ?_
          simp only [Act.put, List.setIfInBounds_toArray, List.set_cons_zero, List.set_cons_succ]
          with_reducible refine wpQuiet_skip (by kernel_rfl) ?_
          simp only [Act.put, List.setIfInBounds_toArray, List.set_cons_zero, List.set_cons_succ]
          with_reducible refine wpQuiet_skip (by kernel_rfl) ?_
          simp only [Act.put, List.setIfInBounds_toArray, List.set_cons_zero, List.set_cons_succ]
          with_reducible refine wpQuiet_skip (by kernel_rfl) ?_
          simp only [Act.put, List.setIfInBounds_toArray, List.set_cons_zero, List.set_cons_succ]
          with_reducible refine wpQuiet_skip (by kernel_rfl) ?_
          simp only [Act.put, List.setIfInBounds_toArray, List.set_cons_zero, List.set_cons_succ]
          with_reducible refine wpQuiet_skip (by kernel_rfl) ?_
          simp only [Act.put, List.setIfInBounds_toArray, List.set_cons_zero, List.set_cons_succ]
          with_reducible refine wpQuiet_skip (by kernel_rfl) ?_
          simp only [Act.put, List.setIfInBounds_toArray, List.set_cons_zero, List.set_cons_succ]
          with_reducible refine wpQuiet_skip (by kernel_rfl) ?_
          simp only [Act.put, List.setIfInBounds_toArray, List.set_cons_zero, List.set_cons_succ]
          with_reducible refine wpQuiet_skip (by kernel_rfl) ?_
          simp only [Act.put, List.setIfInBounds_toArray, List.set_cons_zero, List.set_cons_succ]
          with_reducible refine wpQuiet_skip (by kernel_rfl) ?_
          simp only [Act.put, List.setIfInBounds_toArray, List.set_cons_zero, List.set_cons_succ]
          with_reducible refine wpQuiet_skip (by kernel_rfl) ?_
          simp only [Act.put, List.setIfInBounds_toArray, List.set_cons_zero, List.set_cons_succ]
          with_reducible refine wpQuiet_skip (by kernel_rfl) ?_
          simp only [Act.put, List.setIfInBounds_toArray, List.set_cons_zero, List.set_cons_succ]
          with_reducible refine wpQuiet_run (by kernel_rfl) (fun K hK => ?_)
          go_simp
          refine hK _ ?_
          clear hK K
          refine wpQuiet_nil ?_
          intro _ hw'
          obtain ⟨⟨nq, osq⟩, hw''⟩ := hw'
          subst hw''
          have hBf := bl_grow wr nq osq
          go_wp2_with fail
          go_ret
          exact ⟨ret_bool (HNO.out (J1.out HO.out)).symm, hB.trans (hBf.mono hbs)⟩
        · have HO := Lib.hid hok
          have HJS := Lib.hid ((JS2.out hok).trans (opLt_ref p o))
          rw [hok] at HCW
          clear hok
          cases hbf : befOp p o
          · rw [hbf] at HCX HJS
            clear hbf
            go_wp2_with fail
            refine wp_region_quiet_grown (by assumption) (by kernel_rfl) ?_
            with_reducible refine wpQuiet_run (by kernel_rfl) (fun K hK => ?_)
            go_simp
            refine hK _ ?_
            clear hK K
            with_reducible refine wpQuiet_run (by kernel_rfl) (fun K hK => ?_)
            go_simp
            refine hK _ ?_
            clear hK K
            with_reducible refine wpQuiet_run (by kernel_rfl) (fun K hK => ?_)
            go_simp
            refine hK _ ?_
            clear hK K
            with_reducible refine wpQuiet_run (by kernel_rfl) (fun K hK => ?_)
            go_simp
            refine hK _ ?_
            clear hK K
            with_reducible refine wpQuiet_run (by kernel_rfl) (fun K hK => ?_)
            go_simp
            apply Exists.intro
            refine ⟨fun _ => ?_, hK _ ?_⟩
            (go_at_call 41; (with_reducible refine Calls.grown_of (HCW.out _ _)))
            clear hK K
            with_reducible refine wpQuiet_run (by kernel_rfl) (fun K hK => ?_)
            go_simp
            refine hK _ ?_
            clear hK K
            with_reducible refine wpQuiet_run (by kernel_rfl) (fun K hK => ?_)
            go_simp
            refine hK _ ?_
            clear hK K
            with_reducible refine wpQuiet_run (by kernel_rfl) (fun K hK => ?_)
            go_simp
            refine hK _ ?_
            clear hK K
            with_reducible refine wpQuiet_run (by kernel_rfl) (fun K hK => ?_)
            go_simp
            refine hK _ ?_
            clear hK K
            with_reducible refine wpQuiet_run (by kernel_rfl) (fun K hK => ?_)
            go_simp
            refine hK _ ?_
            clear hK K
            with_reducible refine wpQuiet_run (by kernel_rfl) (fun K hK => ?_)
            go_simp
            refine hK _ ?_
            clear hK K
            with_reducible refine wpQuiet_run (by kernel_rfl) (fun K hK => ?_)
            go_simp
            refine hK _ ?_
            clear hK K
            with_reducible refine wpQuiet_run (by kernel_rfl) (fun K hK => ?_)
            go_simp
            refine hK _ ?_
            clear hK K
            with_reducible refine wpQuiet_run (by kernel_rfl) (fun K hK => ?_)
            go_simp
            refine hK _ ?_
            clear hK K
            with_reducible refine wpQuiet_run (by kernel_rfl) (fun K hK => ?_)
            go_simp
            refine hK _ ?_
            clear hK K
            with_reducible refine wpQuiet_run (by kernel_rfl) (fun K hK => ?_)
            go_simp
            refine hK _ ?_
            clear hK K
            with_reducible refine wpQuiet_run (by kernel_rfl) (fun K hK => ?_)
            go_simp
            refine hK _ ?_
            clear hK K
            with_reducible refine wpQuiet_run (by kernel_rfl) (fun K hK => ?_)
            go_simp
            refine hK _ ?_
            clear hK K
            with_reducible refine wpQuiet_run (by kernel_rfl) (fun K hK => ?_)
            go_simp
            refine hK _ ?_
            clear hK K
            with_reducible refine wpQuiet_run (by kernel_rfl) (fun K hK => ?_)
            go_simp
            apply Exists.intro
            refine ⟨fun _ => ?_, hK _ ?_⟩
            (go_at_call 42; (with_reducible refine Calls.grown_of (HCX.out _ _)))
            clear hK K
            with_reducible refine wpQuiet_run (by kernel_rfl) (fun K hK => ?_)
            go_simp
            refine hK _ ?_
            clear hK K
            with_reducible refine wpQuiet_run (by kernel_rfl) (fun K hK => ?_)
            go_simp
            refine hK _ ?_
            clear hK K
            with_reducible refine wpQuiet_run (by kernel_rfl) (fun K hK => ?_)
            go_simp
            refine hK _ ?_
            clear hK K
            refine wpQuiet_nil ?_
            intro _ hw'
            obtain ⟨⟨nq, osq⟩, hw''⟩ := hw'
            subst hw''
            have hBf := bl_grow wr nq osq
            go_wp2_with fail
            go_ret
            exact ⟨ret_bool (HNO.out (HJS.out.trans rfl)).symm, hB.trans (hBf.mono hbs)⟩
          · rw [hbf] at HCX HJS
            clear hbf
            go_wp2_with fail
            refine wp_region_quiet_grown (by assumption) (by kernel_rfl) ?_
            with_reducible refine wpQuiet_run (by kernel_rfl) (fun K hK => ?_)
            go_simp
            refine hK _ ?_
            clear hK K
            with_reducible refine wpQuiet_run (by kernel_rfl) (fun K hK => ?_)
            go_simp
            refine hK _ ?_
            clear hK K
            with_reducible refine wpQuiet_run (by kernel_rfl) (fun K hK => ?_)
            go_simp
            refine hK _ ?_
            clear hK K
            with_reducible refine wpQuiet_run (by kernel_rfl) (fun K hK => ?_)
            go_simp
            refine hK _ ?_
            clear hK K
            with_reducible refine wpQuiet_run (by kernel_rfl) (fun K hK => ?_)
            go_simp
            apply Exists.intro
            refine ⟨fun _ => ?_, hK _ ?_⟩
            (go_at_call 41; (with_reducible refine Calls.grown_of (HCW.out _ _)))
            clear hK K
            with_reducible refine wpQuiet_run (by kernel_rfl) (fun K hK => ?_)
            go_simp
            refine hK _ ?_
            clear hK K
            with_reducible refine wpQuiet_run (by kernel_rfl) (fun K hK => ?_)
            go_simp
            refine hK _ ?_
            clear hK K
            with_reducible refine wpQuiet_run (by kernel_rfl) (fun K hK => ?_)
            go_simp
            refine hK _ ?_
            clear hK K
            with_reducible refine wpQuiet_run (by kernel_rfl) (fun K hK => ?_)
            go_simp
            refine hK _ ?_
            clear hK K
            with_reducible refine wpQuiet_run (by kernel_rfl) (fun K hK => ?_)
            go_simp
            refine hK _ ?_
            clear hK K
            with_reducible refine wpQuiet_run (by kernel_rfl) (fun K hK => ?_)
            go_simp
            refine hK _ ?_
            clear hK K
            with_reducible refine wpQuiet_run (by kernel_rfl) (fun K hK => ?_)
            go_simp
            refine hK _ ?_
            clear hK K
            with_reducible refine wpQuiet_run (by kernel_rfl) (fun K hK => ?_)
            go_simp
            refine hK _ ?_
            clear hK K
            with_reducible refine wpQuiet_run (by kernel_rfl) (fun K hK => ?_)
            go_simp
            refine hK _ ?_
            clear hK K
            with_reducible refine wpQuiet_run (by kernel_rfl) (fun K hK => ?_)
            go_simp
            refine hK _ ?_
            clear hK K
            with_reducible refine wpQuiet_run (by kernel_rfl) (fun K hK => ?_)
            go_simp
            refine hK _ ?_
            clear hK K
            with_reducible refine wpQuiet_run (by kernel_rfl) (fun K hK => ?_)
            go_simp
            refine hK _ ?_
            clear hK K
            with_reducible refine wpQuiet_run (by kernel_rfl) (fun K hK => ?_)
            go_simp
            refine hK _ ?_
            clear hK K
            with_reducible refine wpQuiet_run (by kernel_rfl) (fun K hK => ?_)
            go_simp
            refine hK _ ?_
            clear hK K
            with_reducible refine wpQuiet_run (by kernel_rfl) (fun K hK => ?_)
            go_simp
            apply Exists.intro
            refine ⟨fun _ => ?_, hK _ ?_⟩
            (go_at_call 42; (with_reducible refine Calls.grown_of (HCX.out _ _)))
            clear hK K
            with_reducible refine wpQuiet_run (by kernel_rfl) (fun K hK => ?_)
            go_simp
            refine hK _ ?_
            clear hK K
            with_reducible refine wpQuiet_run (by kernel_rfl) (fun K hK => ?_)
            go_simp
            refine hK _ ?_
            clear hK K
            with_reducible refine wpQuiet_run (by kernel_rfl) (fun K hK => ?_)
            go_simp
            refine hK _ ?_
            clear hK K
            refine wpQuiet_nil ?_
            intro _ hw'
            obtain ⟨⟨nq, osq⟩, hw''⟩ := hw'
            subst hw''
            have hBf := bl_grow wr nq osq
            have z0 := q0 nq osq
            have z1 := q1 nq osq
            have z2 := q2 nq osq
            have y0 := r0 nq osq
            have y1 := r1 nq osq
            have y2 := r2 nq osq
            have hbl := Nat.lt_of_lt_of_le hb hBf.size
            have hBm := hB.trans (hBf.mono hbs)
            generalize Sort.grow (wr.drewN nq) osq = w6 at *
            clear q0 q1 q2
            clear r0 r1 r2 HCW HCX
            have q0 : ∀ n os, (Sort.grow (w6.drewN n) os).cell? ⟨b, off + k * 3, none⟩ = some (.string o.name) := cell_grown hbl z0
            have q1 : ∀ n os, (Sort.grow (w6.drewN n) os).cell? ⟨b, off + k * 3 + 1, none⟩ = some (.int .i64 o.typ) := cell_grown hbl z1
            have r0 : ∀ n os, (Sort.grow (w6.drewN n) os).cell? ⟨b, off + (k - 1) * 3, none⟩ = some (.string p.name) := cell_grown hbl y0
            have r1 : ∀ n os, (Sort.grow (w6.drewN n) os).cell? ⟨b, off + (k - 1) * 3 + 1, none⟩ = some (.int .i64 p.typ) := cell_grown hbl y1
            have HKP : Hid (∀ n os, Calls Tryz.prog 43 #[.int .i64 p.typ] (Sort.grow (w6.drewN n) os) fun e w' => e = .returned (.int .i64 (clsOp p.typ)) ∧ ∃ q os', w' = Sort.grow ((Sort.grow (w6.drewN n) os).drewN q) os') := Lib.hid fun n os => (ref_classO p.typ _).mono fun _ _ ⟨he, hw⟩ => ⟨he, 0, #[], by rw [hw, Sort.grow_empty]; rfl⟩
            have HKO : Hid (∀ n os, Calls Tryz.prog 43 #[.int .i64 o.typ] (Sort.grow (w6.drewN n) os) fun e w' => e = .returned (.int .i64 (clsOp o.typ)) ∧ ∃ q os', w' = Sort.grow ((Sort.grow (w6.drewN n) os).drewN q) os') := Lib.hid fun n os => (ref_classO o.typ _).mono fun _ _ ⟨he, hw⟩ => ⟨he, 0, #[], by rw [hw, Sort.grow_empty]; rfl⟩
            clear z0 z1 z2 y0 y1 y2
            cases hne : (p.name.toList == o.name.toList)
            · rw [hne] at HJS
              have hn2 : ¬p.name.toList = o.name.toList := by simpa using hne
              have HJ := Lib.hid HJS.out
              go_wp2_with fail
              refine wp_region_quiet_grown (by assumption) (by kernel_rfl) ?_
              with_reducible refine wpQuiet_run (by kernel_rfl) (fun K hK => ?_)
              go_simp
              refine hK _ ?_
              clear hK K
              with_reducible refine wpQuiet_run (by kernel_rfl) (fun K hK => ?_)
              go_simp
              refine hK _ ?_
              clear hK K
              with_reducible refine wpQuiet_run (by kernel_rfl) (fun K hK => ?_)
              go_simp
              refine hK _ ?_
              clear hK K
              with_reducible refine wpQuiet_run (by kernel_rfl) (fun K hK => ?_)
              go_simp
              refine hK _ ?_
              clear hK K
              with_reducible refine wpQuiet_run (by kernel_rfl) (fun K hK => ?_)
              go_simp
              refine hK _ ?_
              clear hK K
              with_reducible refine wpQuiet_run (by kernel_rfl) (fun K hK => ?_)
              go_simp
              refine hK _ ?_
              clear hK K
              with_reducible refine wpQuiet_run (by kernel_rfl) (fun K hK => ?_)
              go_simp
              refine hK _ ?_
              clear hK K
              with_reducible refine wpQuiet_run (by kernel_rfl) (fun K hK => ?_)
              go_simp
              refine hK _ ?_
              clear hK K
              with_reducible refine wpQuiet_run (by kernel_rfl) (fun K hK => ?_)
              go_simp
              refine hK _ ?_
              clear hK K
              with_reducible refine wpQuiet_run (by kernel_rfl) (fun K hK => ?_)
              go_simp
              refine hK _ ?_
              clear hK K
              with_reducible refine wpQuiet_run (by kernel_rfl) (fun K hK => ?_)
              go_simp
              refine hK _ ?_
              clear hK K
              with_reducible refine wpQuiet_run (by kernel_rfl) (fun K hK => ?_)
              go_simp
              refine hK _ ?_
              clear hK K
              with_reducible refine wpQuiet_run (by kernel_rfl) (fun K hK => ?_)
              go_simp
              refine hK _ ?_
              clear hK K
              with_reducible refine wpQuiet_run (by kernel_rfl) (fun K hK => ?_)
              go_simp
              refine hK _ ?_
              clear hK K
              with_reducible refine wpQuiet_run (by kernel_rfl) (fun K hK => ?_)
              go_simp
              refine hK _ ?_
              clear hK K
              with_reducible refine wpQuiet_run (by kernel_rfl) (fun K hK => ?_)
              go_simp
              refine hK _ ?_
              clear hK K
              with_reducible refine wpQuiet_run (by kernel_rfl) (fun K hK => ?_)
              go_simp
              refine hK _ ?_
              clear hK K
              with_reducible refine wpQuiet_skip (by kernel_rfl) ?_
              simp only [Act.put, List.setIfInBounds_toArray, List.set_cons_zero, List.set_cons_succ]
              with_reducible refine wpQuiet_skip (by kernel_rfl) ?_
              simp only [Act.put, List.setIfInBounds_toArray, List.set_cons_zero, List.set_cons_succ]
              with_reducible refine wpQuiet_skip (by kernel_rfl) ?_
              simp only [Act.put, List.setIfInBounds_toArray, List.set_cons_zero, List.set_cons_succ]
              with_reducible refine wpQuiet_skip (by kernel_rfl) ?_
              simp only [Act.put, List.setIfInBounds_toArray, List.set_cons_zero, List.set_cons_succ]
              with_reducible refine wpQuiet_skip (by kernel_rfl) ?_
              simp only [Act.put, List.setIfInBounds_toArray, List.set_cons_zero, List.set_cons_succ]
              with_reducible refine wpQuiet_skip (by kernel_rfl) ?_
              simp only [Act.put, List.setIfInBounds_toArray, List.set_cons_zero, List.set_cons_succ]
              with_reducible refine wpQuiet_skip (by kernel_rfl) ?_
              simp only [Act.put, List.setIfInBounds_toArray, List.set_cons_zero, List.set_cons_succ]
              with_reducible refine wpQuiet_skip (by kernel_rfl) ?_
              simp only [Act.put, List.setIfInBounds_toArray, List.set_cons_zero, List.set_cons_succ]
              with_reducible refine wpQuiet_run (by kernel_rfl) (fun K hK => ?_)
              go_simp
              refine hK _ ?_
              clear hK K
              with_reducible refine wpQuiet_run (by kernel_rfl) (fun K hK => ?_)
              go_simp
              refine hK _ ?_
              clear hK K
              with_reducible refine wpQuiet_skip (by kernel_rfl) ?_
              simp only [Act.put, List.setIfInBounds_toArray, List.set_cons_zero, List.set_cons_succ]
              with_reducible refine wpQuiet_skip (by kernel_rfl) ?_
              simp only [Act.put, List.setIfInBounds_toArray, List.set_cons_zero, List.set_cons_succ]
              with_reducible refine wpQuiet_skip (by kernel_rfl) ?_
              simp only [Act.put, List.setIfInBounds_toArray, List.set_cons_zero, List.set_cons_succ]
              with_reducible refine wpQuiet_skip (by kernel_rfl) ?_
              simp only [Act.put, List.setIfInBounds_toArray, List.set_cons_zero, List.set_cons_succ]
              with_reducible refine wpQuiet_skip (by kernel_rfl) ?_
              simp only [Act.put, List.setIfInBounds_toArray, List.set_cons_zero, List.set_cons_succ]
              with_reducible refine wpQuiet_skip (by kernel_rfl) ?_
              simp only [Act.put, List.setIfInBounds_toArray, List.set_cons_zero, List.set_cons_succ]
              with_reducible refine wpQuiet_skip (by kernel_rfl) ?_
              simp only [Act.put, List.setIfInBounds_toArray, List.set_cons_zero, List.set_cons_succ]
              with_reducible refine wpQuiet_run (by kernel_rfl) (fun K hK => ?_)
              go_simp
              refine hK _ ?_
              clear hK K
              refine wpQuiet_nil ?_
              intro _ hw'
              obtain ⟨⟨nq, osq⟩, hw''⟩ := hw'
              subst hw''
              have hBn := hBm.trans ((bl_grow w6 nq osq).mono hBm.size)
              go_wp2_with fail
              go_roundw
              case rel => exact ⟨k + 1, by omega, by go_num, hBn, Lib.hid fun j hj => by
                rcases Nat.lt_or_ge j k with h | h
                · exact HA.out j h
                · have : j = k := by omega
                  subst this; exact HJ.out⟩
              case measure => simp [intOf] <;> omega
            · rw [hne] at HJS
              have hn2 : p.name.toList = o.name.toList := by simpa using hne
              generalize clsOp p.typ = cp at *
              generalize clsOp o.typ = co at *
              cases hc2 : (cp == 2)
              · rw [hc2] at HJS
                have hc2' : ¬cp = 2 := by simpa using hc2
                have HJ := Lib.hid HJS.out
                go_wp2_with fail
                refine wp_region_quiet_grown (by assumption) (by kernel_rfl) ?_
                with_reducible refine wpQuiet_run (by kernel_rfl) (fun K hK => ?_)
                go_simp
                refine hK _ ?_
                clear hK K
                with_reducible refine wpQuiet_run (by kernel_rfl) (fun K hK => ?_)
                go_simp
                refine hK _ ?_
                clear hK K
                with_reducible refine wpQuiet_run (by kernel_rfl) (fun K hK => ?_)
                go_simp
                refine hK _ ?_
                clear hK K
                with_reducible refine wpQuiet_run (by kernel_rfl) (fun K hK => ?_)
                go_simp
                refine hK _ ?_
                clear hK K
                with_reducible refine wpQuiet_run (by kernel_rfl) (fun K hK => ?_)
                go_simp
                refine hK _ ?_
                clear hK K
                with_reducible refine wpQuiet_run (by kernel_rfl) (fun K hK => ?_)
                go_simp
                refine hK _ ?_
                clear hK K
                with_reducible refine wpQuiet_run (by kernel_rfl) (fun K hK => ?_)
                go_simp
                refine hK _ ?_
                clear hK K
                with_reducible refine wpQuiet_run (by kernel_rfl) (fun K hK => ?_)
                go_simp
                refine hK _ ?_
                clear hK K
                with_reducible refine wpQuiet_run (by kernel_rfl) (fun K hK => ?_)
                go_simp
                refine hK _ ?_
                clear hK K
                with_reducible refine wpQuiet_run (by kernel_rfl) (fun K hK => ?_)
                go_simp
                refine hK _ ?_
                clear hK K
                with_reducible refine wpQuiet_run (by kernel_rfl) (fun K hK => ?_)
                go_simp
                refine hK _ ?_
                clear hK K
                with_reducible refine wpQuiet_run (by kernel_rfl) (fun K hK => ?_)
                go_simp
                refine hK _ ?_
                clear hK K
                with_reducible refine wpQuiet_run (by kernel_rfl) (fun K hK => ?_)
                go_simp
                refine hK _ ?_
                clear hK K
                with_reducible refine wpQuiet_run (by kernel_rfl) (fun K hK => ?_)
                go_simp
                refine hK _ ?_
                clear hK K
                with_reducible refine wpQuiet_run (by kernel_rfl) (fun K hK => ?_)
                go_simp
                refine hK _ ?_
                clear hK K
                with_reducible refine wpQuiet_run (by kernel_rfl) (fun K hK => ?_)
                go_simp
                refine hK _ ?_
                clear hK K
                with_reducible refine wpQuiet_run (by kernel_rfl) (fun K hK => ?_)
                go_simp
                refine hK _ ?_
                clear hK K
                with_reducible refine wpQuiet_run (by kernel_rfl) (fun K hK => ?_)
                go_simp
                refine hK _ ?_
                clear hK K
                with_reducible refine wpQuiet_run (by kernel_rfl) (fun K hK => ?_)
                go_simp
                refine hK _ ?_
                clear hK K
                with_reducible refine wpQuiet_run (by kernel_rfl) (fun K hK => ?_)
                go_simp
                refine hK _ ?_
                clear hK K
                with_reducible refine wpQuiet_run (by kernel_rfl) (fun K hK => ?_)
                go_simp
                refine hK _ ?_
                clear hK K
                with_reducible refine wpQuiet_run (by kernel_rfl) (fun K hK => ?_)
                go_simp
                refine hK _ ?_
                clear hK K
                with_reducible refine wpQuiet_run (by kernel_rfl) (fun K hK => ?_)
                go_simp
                refine hK _ ?_
                clear hK K
                with_reducible refine wpQuiet_run (by kernel_rfl) (fun K hK => ?_)
                go_simp
                apply Exists.intro
                refine ⟨fun _ => ?_, hK _ ?_⟩
                (go_at_call 43; (with_reducible refine Calls.grown_of (HKP.out _ _)))
                clear hK K
                with_reducible refine wpQuiet_run (by kernel_rfl) (fun K hK => ?_)
                go_simp
                refine hK _ ?_
                clear hK K
                with_reducible refine wpQuiet_run (by kernel_rfl) (fun K hK => ?_)
                go_simp
                refine hK _ ?_
                clear hK K
                with_reducible refine wpQuiet_run (by kernel_rfl) (fun K hK => ?_)
                go_simp
                refine hK _ ?_
                clear hK K
                with_reducible refine wpQuiet_skip (by kernel_rfl) ?_
                simp only [Act.put, List.setIfInBounds_toArray, List.set_cons_zero, List.set_cons_succ]
                with_reducible refine wpQuiet_skip (by kernel_rfl) ?_
                simp only [Act.put, List.setIfInBounds_toArray, List.set_cons_zero, List.set_cons_succ]
                with_reducible refine wpQuiet_skip (by kernel_rfl) ?_
                simp only [Act.put, List.setIfInBounds_toArray, List.set_cons_zero, List.set_cons_succ]
                with_reducible refine wpQuiet_skip (by kernel_rfl) ?_
                simp only [Act.put, List.setIfInBounds_toArray, List.set_cons_zero, List.set_cons_succ]
                with_reducible refine wpQuiet_skip (by kernel_rfl) ?_
                simp only [Act.put, List.setIfInBounds_toArray, List.set_cons_zero, List.set_cons_succ]
                with_reducible refine wpQuiet_skip (by kernel_rfl) ?_
                simp only [Act.put, List.setIfInBounds_toArray, List.set_cons_zero, List.set_cons_succ]
                with_reducible refine wpQuiet_skip (by kernel_rfl) ?_
                simp only [Act.put, List.setIfInBounds_toArray, List.set_cons_zero, List.set_cons_succ]
                with_reducible refine wpQuiet_run (by kernel_rfl) (fun K hK => ?_)
                go_simp
                refine hK _ ?_
                clear hK K
                refine wpQuiet_nil ?_
                intro _ hw'
                obtain ⟨⟨nq, osq⟩, hw''⟩ := hw'
                subst hw''
                have hBn := hBm.trans ((bl_grow w6 nq osq).mono hBm.size)
                go_wp2_with fail
                go_roundw
                case rel => exact ⟨k + 1, by omega, by go_num, hBn, Lib.hid fun j hj => by
                  rcases Nat.lt_or_ge j k with h | h
                  · exact HA.out j h
                  · have : j = k := by omega
                    subst this; exact HJ.out⟩
                case measure => simp [intOf] <;> omega
              · rw [hc2] at HJS
                have hc2' : cp = 2 := by simpa using hc2
                cases hc3 : (co == 3)
                · rw [hc3] at HJS
                  have hc3' : ¬co = 3 := by simpa using hc3
                  have HJ := Lib.hid HJS.out
                  go_wp2_with fail
                  refine wp_region_quiet_grown (by assumption) (by kernel_rfl) ?_
                  with_reducible refine wpQuiet_run (by kernel_rfl) (fun K hK => ?_)
                  go_simp
                  refine hK _ ?_
                  clear hK K
                  with_reducible refine wpQuiet_run (by kernel_rfl) (fun K hK => ?_)
                  go_simp
                  refine hK _ ?_
                  clear hK K
                  with_reducible refine wpQuiet_run (by kernel_rfl) (fun K hK => ?_)
                  go_simp
                  refine hK _ ?_
                  clear hK K
                  with_reducible refine wpQuiet_run (by kernel_rfl) (fun K hK => ?_)
                  go_simp
                  refine hK _ ?_
                  clear hK K
                  with_reducible refine wpQuiet_run (by kernel_rfl) (fun K hK => ?_)
                  go_simp
                  refine hK _ ?_
                  clear hK K
                  with_reducible refine wpQuiet_run (by kernel_rfl) (fun K hK => ?_)
                  go_simp
                  refine hK _ ?_
                  clear hK K
                  with_reducible refine wpQuiet_run (by kernel_rfl) (fun K hK => ?_)
                  go_simp
                  refine hK _ ?_
                  clear hK K
                  with_reducible refine wpQuiet_run (by kernel_rfl) (fun K hK => ?_)
                  go_simp
                  refine hK _ ?_
                  clear hK K
                  with_reducible refine wpQuiet_run (by kernel_rfl) (fun K hK => ?_)
                  go_simp
                  refine hK _ ?_
                  clear hK K
                  with_reducible refine wpQuiet_run (by kernel_rfl) (fun K hK => ?_)
                  go_simp
                  refine hK _ ?_
                  clear hK K
                  with_reducible refine wpQuiet_run (by kernel_rfl) (fun K hK => ?_)
                  go_simp
                  refine hK _ ?_
                  clear hK K
                  with_reducible refine wpQuiet_run (by kernel_rfl) (fun K hK => ?_)
                  go_simp
                  refine hK _ ?_
                  clear hK K
                  with_reducible refine wpQuiet_run (by kernel_rfl) (fun K hK => ?_)
                  go_simp
                  refine hK _ ?_
                  clear hK K
                  with_reducible refine wpQuiet_run (by kernel_rfl) (fun K hK => ?_)
                  go_simp
                  refine hK _ ?_
                  clear hK K
                  with_reducible refine wpQuiet_run (by kernel_rfl) (fun K hK => ?_)
                  go_simp
                  refine hK _ ?_
                  clear hK K
                  with_reducible refine wpQuiet_run (by kernel_rfl) (fun K hK => ?_)
                  go_simp
                  refine hK _ ?_
                  clear hK K
                  with_reducible refine wpQuiet_run (by kernel_rfl) (fun K hK => ?_)
                  go_simp
                  refine hK _ ?_
                  clear hK K
                  with_reducible refine wpQuiet_run (by kernel_rfl) (fun K hK => ?_)
                  go_simp
                  refine hK _ ?_
                  clear hK K
                  with_reducible refine wpQuiet_run (by kernel_rfl) (fun K hK => ?_)
                  go_simp
                  refine hK _ ?_
                  clear hK K
                  with_reducible refine wpQuiet_run (by kernel_rfl) (fun K hK => ?_)
                  go_simp
                  refine hK _ ?_
                  clear hK K
                  with_reducible refine wpQuiet_run (by kernel_rfl) (fun K hK => ?_)
                  go_simp
                  refine hK _ ?_
                  clear hK K
                  with_reducible refine wpQuiet_run (by kernel_rfl) (fun K hK => ?_)
                  go_simp
                  refine hK _ ?_
                  clear hK K
                  with_reducible refine wpQuiet_run (by kernel_rfl) (fun K hK => ?_)
                  go_simp
                  refine hK _ ?_
                  clear hK K
                  with_reducible refine wpQuiet_run (by kernel_rfl) (fun K hK => ?_)
                  go_simp
                  apply Exists.intro
                  refine ⟨fun _ => ?_, hK _ ?_⟩
                  (go_at_call 43; (with_reducible refine Calls.grown_of (HKP.out _ _)))
                  clear hK K
                  with_reducible refine wpQuiet_run (by kernel_rfl) (fun K hK => ?_)
                  go_simp
                  refine hK _ ?_
                  clear hK K
                  with_reducible refine wpQuiet_run (by kernel_rfl) (fun K hK => ?_)
                  go_simp
                  refine hK _ ?_
                  clear hK K
                  with_reducible refine wpQuiet_run (by kernel_rfl) (fun K hK => ?_)
                  go_simp
                  refine hK _ ?_
                  clear hK K
                  with_reducible refine wpQuiet_run (by kernel_rfl) (fun K hK => ?_)
                  go_simp
                  refine hK _ ?_
                  clear hK K
                  with_reducible refine wpQuiet_run (by kernel_rfl) (fun K hK => ?_)
                  go_simp
                  refine hK _ ?_
                  clear hK K
                  with_reducible refine wpQuiet_run (by kernel_rfl) (fun K hK => ?_)
                  go_simp
                  refine hK _ ?_
                  clear hK K
                  with_reducible refine wpQuiet_run (by kernel_rfl) (fun K hK => ?_)
                  go_simp
                  refine hK _ ?_
                  clear hK K
                  with_reducible refine wpQuiet_run (by kernel_rfl) (fun K hK => ?_)
                  go_simp
                  refine hK _ ?_
                  clear hK K
                  with_reducible refine wpQuiet_run (by kernel_rfl) (fun K hK => ?_)
                  go_simp
                  apply Exists.intro
                  refine ⟨fun _ => ?_, hK _ ?_⟩
                  (go_at_call 43; (with_reducible refine Calls.grown_of (HKO.out _ _)))
                  clear hK K
                  with_reducible refine wpQuiet_run (by kernel_rfl) (fun K hK => ?_)
                  go_simp
                  refine hK _ ?_
                  clear hK K
                  with_reducible refine wpQuiet_run (by kernel_rfl) (fun K hK => ?_)
                  go_simp
                  refine hK _ ?_
                  clear hK K
                  refine wpQuiet_nil ?_
                  intro _ hw'
                  obtain ⟨⟨nq, osq⟩, hw''⟩ := hw'
                  subst hw''
                  have hBn := hBm.trans ((bl_grow w6 nq osq).mono hBm.size)
                  go_wp2_with fail
                  go_roundw
                  case rel => exact ⟨k + 1, by omega, by go_num, hBn, Lib.hid fun j hj => by
                    rcases Nat.lt_or_ge j k with h | h
                    · exact HA.out j h
                    · have : j = k := by omega
                      subst this; exact HJ.out⟩
                  case measure => simp [intOf] <;> omega
                · rw [hc3] at HJS
                  have hc3' : co = 3 := by simpa using hc3
                  go_wp2_with fail
                  refine wp_region_quiet_grown (by assumption) (by kernel_rfl) ?_
                  with_reducible refine wpQuiet_run (by kernel_rfl) (fun K hK => ?_)
                  go_simp
                  refine hK _ ?_
                  clear hK K
                  with_reducible refine wpQuiet_run (by kernel_rfl) (fun K hK => ?_)
                  go_simp
                  refine hK _ ?_
                  clear hK K
                  with_reducible refine wpQuiet_run (by kernel_rfl) (fun K hK => ?_)
                  go_simp
                  refine hK _ ?_
                  clear hK K
                  with_reducible refine wpQuiet_run (by kernel_rfl) (fun K hK => ?_)
                  go_simp
                  refine hK _ ?_
                  clear hK K
                  with_reducible refine wpQuiet_run (by kernel_rfl) (fun K hK => ?_)
                  go_simp
                  refine hK _ ?_
                  clear hK K
                  with_reducible refine wpQuiet_run (by kernel_rfl) (fun K hK => ?_)
                  go_simp
                  refine hK _ ?_
                  clear hK K
                  with_reducible refine wpQuiet_run (by kernel_rfl) (fun K hK => ?_)
                  go_simp
                  refine hK _ ?_
                  clear hK K
                  with_reducible refine wpQuiet_run (by kernel_rfl) (fun K hK => ?_)
                  go_simp
                  refine hK _ ?_
                  clear hK K
                  with_reducible refine wpQuiet_run (by kernel_rfl) (fun K hK => ?_)
                  go_simp
                  refine hK _ ?_
                  clear hK K
                  with_reducible refine wpQuiet_run (by kernel_rfl) (fun K hK => ?_)
                  go_simp
                  refine hK _ ?_
                  clear hK K
                  with_reducible refine wpQuiet_run (by kernel_rfl) (fun K hK => ?_)
                  go_simp
                  refine hK _ ?_
                  clear hK K
                  with_reducible refine wpQuiet_run (by kernel_rfl) (fun K hK => ?_)
                  go_simp
                  refine hK _ ?_
                  clear hK K
                  with_reducible refine wpQuiet_run (by kernel_rfl) (fun K hK => ?_)
                  go_simp
                  refine hK _ ?_
                  clear hK K
                  with_reducible refine wpQuiet_run (by kernel_rfl) (fun K hK => ?_)
                  go_simp
                  refine hK _ ?_
                  clear hK K
                  with_reducible refine wpQuiet_run (by kernel_rfl) (fun K hK => ?_)
                  go_simp
                  refine hK _ ?_
                  clear hK K
                  with_reducible refine wpQuiet_run (by kernel_rfl) (fun K hK => ?_)
                  go_simp
                  refine hK _ ?_
                  clear hK K
                  with_reducible refine wpQuiet_run (by kernel_rfl) (fun K hK => ?_)
                  go_simp
                  refine hK _ ?_
                  clear hK K
                  with_reducible refine wpQuiet_run (by kernel_rfl) (fun K hK => ?_)
                  go_simp
                  refine hK _ ?_
                  clear hK K
                  with_reducible refine wpQuiet_run (by kernel_rfl) (fun K hK => ?_)
                  go_simp
                  refine hK _ ?_
                  clear hK K
                  with_reducible refine wpQuiet_run (by kernel_rfl) (fun K hK => ?_)
                  go_simp
                  refine hK _ ?_
                  clear hK K
                  with_reducible refine wpQuiet_run (by kernel_rfl) (fun K hK => ?_)
                  go_simp
                  refine hK _ ?_
                  clear hK K
                  with_reducible refine wpQuiet_run (by kernel_rfl) (fun K hK => ?_)
                  go_simp
                  refine hK _ ?_
                  clear hK K
                  with_reducible refine wpQuiet_run (by kernel_rfl) (fun K hK => ?_)
                  go_simp
                  refine hK _ ?_
                  clear hK K
                  with_reducible refine wpQuiet_run (by kernel_rfl) (fun K hK => ?_)
                  go_simp
                  apply Exists.intro
                  refine ⟨fun _ => ?_, hK _ ?_⟩
                  (go_at_call 43; (with_reducible refine Calls.grown_of (HKP.out _ _)))
                  clear hK K
                  with_reducible refine wpQuiet_run (by kernel_rfl) (fun K hK => ?_)
                  go_simp
                  refine hK _ ?_
                  clear hK K
                  with_reducible refine wpQuiet_run (by kernel_rfl) (fun K hK => ?_)
                  go_simp
                  refine hK _ ?_
                  clear hK K
                  with_reducible refine wpQuiet_run (by kernel_rfl) (fun K hK => ?_)
                  go_simp
                  refine hK _ ?_
                  clear hK K
                  with_reducible refine wpQuiet_run (by kernel_rfl) (fun K hK => ?_)
                  go_simp
                  refine hK _ ?_
                  clear hK K
                  with_reducible refine wpQuiet_run (by kernel_rfl) (fun K hK => ?_)
                  go_simp
                  refine hK _ ?_
                  clear hK K
                  with_reducible refine wpQuiet_run (by kernel_rfl) (fun K hK => ?_)
                  go_simp
                  refine hK _ ?_
                  clear hK K
                  with_reducible refine wpQuiet_run (by kernel_rfl) (fun K hK => ?_)
                  go_simp
                  refine hK _ ?_
                  clear hK K
                  with_reducible refine wpQuiet_run (by kernel_rfl) (fun K hK => ?_)
                  go_simp
                  refine hK _ ?_
                  clear hK K
                  with_reducible refine wpQuiet_run (by kernel_rfl) (fun K hK => ?_)
                  go_simp
                  apply Exists.intro
                  refine ⟨fun _ => ?_, hK _ ?_⟩
                  (go_at_call 43; (with_reducible refine Calls.grown_of (HKO.out _ _)))
                  clear hK K
                  with_reducible refine wpQuiet_run (by kernel_rfl) (fun K hK => ?_)
                  go_simp
                  refine hK _ ?_
                  clear hK K
                  with_reducible refine wpQuiet_run (by kernel_rfl) (fun K hK => ?_)
                  go_simp
                  refine hK _ ?_
                  clear hK K
                  refine wpQuiet_nil ?_
                  intro _ hw'
                  obtain ⟨⟨nq, osq⟩, hw''⟩ := hw'
                  subst hw''
                  have hBn := hBm.trans ((bl_grow w6 nq osq).mono hBm.size)
                  go_wp2_with fail
                  go_ret
                  exact ⟨ret_bool (HNO.out (HJS.out.trans rfl)).symm, hBn⟩
    · obtain rfl : k = n := by omega
      have HY := Lib.hid (opsValid_yes l (by have := HN.out; omega) (fun j hj => HA.out j (by have := HN.out; omega)))
      go_wp2_with fail
      go_ret
      exact ⟨ret_bool HY.out.symm, hB⟩
end Go.Proofs.YtgapnafkelokaaaGreatDoor
