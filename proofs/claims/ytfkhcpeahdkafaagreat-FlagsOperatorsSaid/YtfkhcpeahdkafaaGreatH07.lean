/- Operators: the predefined ones, as they are written down. Operators: slices.SortFunc at the predefined operators, by the shelf's contract. Operators: rows of the call's own; the two Clone. Operators: BinarySearchFunc with compare. Operators: DeleteFunc with Set's closure. Operators: the order, tables in order, Set's result. Operators: fixed. Operators: slices.Insert of one operator. Operators: Set. -/
import Derived.Test.YtfkhcpeahdkafaaGreatH03
import Derived.Laws.Rows
import Derived.Laws.Tables
import Derived.Laws.CopyOwn
import Derived.Shelf.SlSortCmp.WholeK
import Derived.Test.YtfkhcpeahdkafaaGreatSortShelf
import Derived.Laws.OwnMore
import Derived.Laws.AppendOwnNone
import Derived.Lib.SliceRun
import Derived.Deep.RegionHeld3
import Derived.Laws.Shifts
import Derived.Lib.AppendZerosOnto
import Derived.Lib.Overlaps
import Derived.Shelf.Spec.SlicesInsert
namespace Hb
open Go Go.RowKit
def grs : List (Int × Int × List ByteArray) := [(1200, 1, [⟨#[58, 45]⟩, ⟨#[45, 45, 62]⟩]), (1200, 5, [⟨#[58, 45]⟩, ⟨#[63, 45]⟩]), (1100, 2, [⟨#[59]⟩]), (1050, 2, [⟨#[45, 62]⟩]), (1000, 2, [⟨#[44]⟩]), (900, 4, [⟨#[92, 43]⟩]), (700, 1, [⟨#[61]⟩, ⟨#[92, 61]⟩, ⟨#[61, 61]⟩, ⟨#[92, 61, 61]⟩, ⟨#[64, 60]⟩, ⟨#[64, 61, 60]⟩, ⟨#[64, 62]⟩, ⟨#[64, 62, 61]⟩, ⟨#[61, 46, 46]⟩, ⟨#[105, 115]⟩, ⟨#[61, 58, 61]⟩, ⟨#[61, 92, 61]⟩, ⟨#[60]⟩, ⟨#[61, 60]⟩, ⟨#[62]⟩, ⟨#[62, 61]⟩]), (500, 3, [⟨#[43]⟩, ⟨#[45]⟩, ⟨#[47, 92]⟩, ⟨#[92, 47]⟩]), (400, 3, [⟨#[42]⟩, ⟨#[47]⟩, ⟨#[47, 47]⟩, ⟨#[114, 101, 109]⟩, ⟨#[109, 111, 100]⟩, ⟨#[100, 105, 118]⟩, ⟨#[60, 60]⟩, ⟨#[62, 62]⟩]), (200, 1, [⟨#[42, 42]⟩]), (200, 2, [⟨#[94]⟩]), (200, 4, [⟨#[43]⟩, ⟨#[45]⟩, ⟨#[92]⟩])]
def grP (k : Nat) : Int := (grs.getD k (0, 0, [])).1
def grT (k : Nat) : Int := (grs.getD k (0, 0, [])).2.1
def grN (k : Nat) : List ByteArray := (grs.getD k (0, 0, [])).2.2
def grA (k : Nat) : Array Value := ((grN k).map Value.string).toArray
def grV (b : Nat → Nat) (k : Nat) : Value := .slice (some ⟨b k, 0, none⟩) (grN k).length (grN k).length
def grCells (b : Nat → Nat) : Array Value := ((List.range 12).flatMap fun k => [Value.int .i64 (grP k), .int .i64 (grT k), grV b k]).toArray
def gr0 : Array Value := ((List.range 12).flatMap fun _ => [Value.int .i64 0, .int .i64 0, .slice none 0 0]).toArray
theorem grCells_size (b : Nat → Nat) : (grCells b).size = 36 := rfl
theorem grCells_one (b : Nat → Nat) : (grCells b).all (·.oneCell') = true := by kernel_rfl
structure BS (w w1 : World) (b : Nat) (k : Nat) : Prop where
 bel : Below w.heap.size w w1
 lt : b < w1.heap.size
 le : w.heap.size ≤ b
 cells : ∀ j v, (grA k)[j]? = some v → w1.cell? ⟨b, j, none⟩ = some v
theorem BS.start (w : World) (k : Nat) (t : TypeId) : BS w (w.alloc (.cells (grA k) t)) w.heap.size k where
 bel := (Below.refl _ _).alloc (Nat.le_refl _) _
 lt := by simp
 le := Nat.le_refl _
 cells := fun j v h => (World.cell?_alloc_new _ _ _ j).trans h
theorem grA_get (k j : Nat) (h : j < (grN k).length) : (grA k)[j]? = some (.string (grN k)[j]) := by
 unfold grA
 simp [h]
theorem BS.out {w w1 wb : World} {b k : Nat} (h : BS w w1 b k) (c : Below w1.heap.size w1 wb) : b < wb.heap.size ∧ ∀ (j : Nat) (hj : j < (grN k).length), wb.cell? ⟨b, j, none⟩ = some (.string (grN k)[j]) :=
 ⟨Nat.lt_of_lt_of_le h.lt c.size, fun j hj => (c.cell (p := ⟨b, j, none⟩) h.lt).trans (h.cells j _ (grA_get k j hj))⟩
def opsCells (l : List OpR) : List Value := l.flatMap opCells
theorem opsCells_app (a b : List OpR) : opsCells (a ++ b) = opsCells a ++ opsCells b := by unfold opsCells; rw [List.flatMap_append]
def grO (k : Nat) : List OpR := (grN k).map fun s => ⟨s, grT k, grP k⟩
def preL (k : Nat) : List OpR := (List.range k).flatMap grO
theorem preL_succ (k : Nat) : preL (k + 1) = preL k ++ grO k := by unfold preL; rw [List.range_succ, List.flatMap_append]; simp
theorem preL_len : (preL 12).length = 41 := by decide +kernel
theorem preL_le (k : Nat) (h : k ≤ 12) : (preL k).length ≤ 41 := by
 have : ∀ d j, (preL j).length ≤ (preL (j + d)).length := by
  intro d
  induction d with
  | zero => intro j; exact Nat.le_refl _
  | succ d ih => intro j; refine Nat.le_trans (ih j) ?_; rw [show j + (d + 1) = (j + d) + 1 by omega, preL_succ, List.length_append]; omega
 have h2 := this (12 - k) k
 rw [show k + (12 - k) = 12 by omega, preL_len] at h2
 exact h2
theorem grO_le (k : Nat) (h : k < 12) : (preL k).length + (grN k).length ≤ 41 := by
 have := preL_le (k + 1) (by omega)
 rw [preL_succ, List.length_append] at this
 unfold grO at this
 rw [List.length_map] at this
 exact this
theorem own_some {w : World} {base e size : Nat} {v : Value} {n : Nat} {xs : List Value} (h : w.ownsRow base e size v n xs) (hn : 0 < n) : ∃ g cap, v = .slice (some ⟨g, 0, none⟩) n cap := by
 rcases h.2 with ⟨_, h0⟩ | ⟨g, cap, cur, rfl, _⟩
 ·omega
 ·exact ⟨g, cap, rfl⟩
def insO (o : OpR) : List OpR → List OpR
 | [] => [o]
 | a :: l => if cmpOp o a < 0 then o :: a :: l else a :: insO o l
theorem insO_perm (o : OpR) : ∀ l : List OpR, (insO o l).Perm (o :: l)
 | [] => List.Perm.refl _
 | a :: l => by
  unfold insO
  split
  ·exact List.Perm.refl _
  ·exact ((insO_perm o l).cons a).trans (List.Perm.swap o a l)
def insAll (acc l : List OpR) : List OpR := l.foldl (fun t o => insO o t) acc
theorem insAll_perm : ∀ (l acc : List OpR), (insAll acc l).Perm (acc ++ l)
 | [], acc => by unfold insAll; simp
 | o :: l, acc => by
  have h1 := insAll_perm l (insO o acc)
  have h2 : (insO o acc ++ l).Perm (acc ++ o :: l) := ((insO_perm o acc).append_right l).trans (by simpa using (List.perm_middle (a := o) (l₁ := acc) (l₂ := l)).symm)
  exact h1.trans h2
def defL : List OpR := insAll [] (preL 12)
theorem defL_perm : defL.Perm (preL 12) := by
 have := insAll_perm (preL 12) []
 rw [List.nil_append] at this
 exact this
theorem own_ne_type {w : World} {base e size : Nat} {v : Value} {n : Nat} {xs : List Value} {g : Nat} {cs : Array Value} {t : TypeId} {fr : Nat × Nat} (h : w.ownsRow base e size v n xs) (hg : w.heap[g]? = some (.cells cs t fr)) (ht : t ≠ e) : some g ≠ v.ownBlock := by
 rcases h.2 with ⟨rfl, _⟩ | ⟨g', cap, cur, rfl, _, hh, _⟩
 ·simp [Value.ownBlock]
 ·intro heq
  have : g = g' := by simpa [Value.ownBlock] using heq
  subst this
  rw [hh] at hg
  injection hg with hg
  injection hg with _ h2 _
  exact ht h2.symm
theorem cell_of_heap {w : World} {g : Nat} {cs : Array Value} {t : TypeId} {fr : Nat × Nat} (hg : w.heap[g]? = some (.cells cs t fr)) (j : Nat) : w.cell? ⟨g, j, none⟩ = cs[j]? := by
 simp [World.cell?, hg]
end Hb
namespace Go.Proofs.YtfkhcpeahdkafaaGreat
open Go.RowKit Hb
set_option maxRecDepth 100000
theorem infoGr : (Tryz.prog.info? 124).map (·.size) = some 36 := by kernel_rfl
theorem infoOp : (Tryz.prog.info? 82).map (fun i => (i.zero, i.size, i.bytes)) = some (some (.agg #[.string ⟨#[]⟩, .int .i64 0, .int .i64 0]), 3, 32) := by kernel_rfl
theorem at_appOO {ops : Array Oper} {rest : List Oper} {a : Act} {Q : Exit → Act → World → Prop} {w : World} {d t p f x g} (h : wpList Tryz.prog ops Q (⟨d, .call { callee := .builtin .append, args := x, argTypes := #[40, 40] }, t, p, f, g⟩ :: rest) a w) : wpList Tryz.prog ops Q (⟨d, .call { callee := .builtin .append, args := x, argTypes := #[40, 40] }, t, p, f, g⟩ :: rest) a w := h
theorem wpList_append_op {w : World} {ops : Array Oper} {rest : List Oper} {o : Oper} {a : Act} {Q : Exit → Act → World → Prop} (hgd : o.guard = none) (s x : Operand)
  (ho : o.op = .call { callee := .builtin .append, args := #[s, x], argTypes := #[40, 40] })
  (base : Nat) (v : Value) (m : Nat) (l : List OpR) (hs : a.eval s = v) (W : World) (hown : W.ownsRow base 82 3 v m (opsCells l)) (r : OpR)
  (hw : w = W.alloc (.cells #[.string r.name, .int .i64 r.typ, .int .i64 r.prec] 82)) (hx : a.eval x = .slice (some ⟨W.heap.size, 0, none⟩) 1 1) (h63 : m ≤ 70368744) (hbase : base ≤ W.heap.size)
  (h : ∀ v' w', w'.ownsRow base 82 3 v' (m + 1) (opsCells (l ++ [r])) → Below base W w' → w.grownBy w' v.ownBlock → wpList Tryz.prog ops Q rest (a.put o.dst v') w') : wpList Tryz.prog ops Q (o :: rest) a w := by
 refine wpList_append_one hgd s x 40 82 ho Tryz.underlying40 _ 3 32 infoOp rfl (by decide) base v m _ hs W hown #[.string r.name, .int .i64 r.typ, .int .i64 r.prec] rfl (by simp [Value.oneCell']) hw hx (by omega) (by omega) hbase fun v' w' ho' hb' hg' => h v' w' ?_ hb' hg'
 rw [opsCells_app]
 exact ho'
theorem at_bs {ops : Array Oper} {rest : List Oper} {a : Act} {Q : Exit → Act → World → Prop} {w : World} {d n t p f x g} (h : wpList Tryz.prog ops Q (⟨d, .buildSlice 29 n x, t, p, f, g⟩ :: rest) a w) : wpList Tryz.prog ops Q (⟨d, .buildSlice 29 n x, t, p, f, g⟩ :: rest) a w := h
theorem at_bgr {ops : Array Oper} {rest : List Oper} {a : Act} {Q : Exit → Act → World → Prop} {w : World} {d t p f x g} (h : wpList Tryz.prog ops Q (⟨d, .build 124 x, t, p, f, g⟩ :: rest) a w) : wpList Tryz.prog ops Q (⟨d, .build 124 x, t, p, f, g⟩ :: rest) a w := h
theorem at_agr {ops : Array Oper} {rest : List Oper} {a : Act} {Q : Exit → Act → World → Prop} {w : World} {d t p f g} (h : wpList Tryz.prog ops Q (⟨d, .alloc 124, t, p, f, g⟩ :: rest) a w) : wpList Tryz.prog ops Q (⟨d, .alloc 124, t, p, f, g⟩ :: rest) a w := h
theorem at_sgr {ops : Array Oper} {rest : List Oper} {a : Act} {Q : Exit → Act → World → Prop} {w : World} {d t p f x y g} (h : wpList Tryz.prog ops Q (⟨d, .store 124 x y, t, p, f, g⟩ :: rest) a w) : wpList Tryz.prog ops Q (⟨d, .store 124 x y, t, p, f, g⟩ :: rest) a w := h
theorem at_lgr {ops : Array Oper} {rest : List Oper} {a : Act} {Q : Exit → Act → World → Prop} {w : World} {d t p f x g} (h : wpList Tryz.prog ops Q (⟨d, .load 124 x, t, p, f, g⟩ :: rest) a w) : wpList Tryz.prog ops Q (⟨d, .load 124 x, t, p, f, g⟩ :: rest) a w := h
theorem at_igr {ops : Array Oper} {rest : List Oper} {a : Act} {Q : Exit → Act → World → Prop} {w : World} {d t p f x y g} (h : wpList Tryz.prog ops Q (⟨d, .index 124 x y, t, p, f, g⟩ :: rest) a w) : wpList Tryz.prog ops Q (⟨d, .index 124 x y, t, p, f, g⟩ :: rest) a w := h
theorem wpList_bs {ops : Array Oper} {rest : List Oper} {o : Oper} {a : Act} {Q : Exit → Act → World → Prop} {w : World} (hgd : o.guard = none) (k n : Nat) (parts : List (Nat × Operand)) (parts' : List (Nat × Value))
  (ho : o.op = .buildSlice 29 n parts.toArray) (hm : parts.map (fun x => (x.fst, a.eval x.snd)) = parts')
  (hr : ∀ w : World, (Instr.buildSlice 29 n parts'.toArray).run Tryz.prog w = .ok (.slice (some ⟨w.heap.size, 0, none⟩) n n) (w.alloc (.cells (grA k) 9)))
  (h : ∀ b w1, BS w w1 b k → wpList Tryz.prog ops Q rest (a.put o.dst (.slice (some ⟨b, 0, none⟩) n n)) w1) : wpList Tryz.prog ops Q (o :: rest) a w := by
 refine wpList_plain hgd fun K hK => ?_
 have e : (execOp a.eval o).run Tryz.prog w = .ok (.value (.slice (some ⟨w.heap.size, 0, none⟩) n n)) (w.alloc (.cells (grA k) 9)) := by
  unfold execOp
  rw [ho]
  simp only [List.map_toArray, hm]
  rw [Sem.run_bind, hr]
  rfl
 unfold Oper.wp
 rw [e]
 exact hK _ _ (h _ _ (BS.start w k _))
theorem wpList_bgr {ops : Array Oper} {rest : List Oper} {o : Oper} {a : Act} {Q : Exit → Act → World → Prop} {w : World} (hgd : o.guard = none) (b : Nat → Nat) (parts : List (Nat × Operand)) (parts' : List (Nat × Value))
  (ho : o.op = .build 124 parts.toArray) (hm : parts.map (fun x => (x.fst, a.eval x.snd)) = parts')
  (hr : ∀ w : World, (Instr.build 124 parts'.toArray).run Tryz.prog w = .ok (.agg (grCells b)) w)
  (h : ∀ f : Nat → Nat, Hid (f = b) → wpList Tryz.prog ops Q rest (a.put o.dst (.agg (grCells f))) w) : wpList Tryz.prog ops Q (o :: rest) a w := by
 refine wpList_plain hgd fun K hK => ?_
 have e : (execOp a.eval o).run Tryz.prog w = .ok (.value (.agg (grCells b))) w := by
  unfold execOp
  rw [ho]
  simp only [List.map_toArray, hm]
  rw [Sem.run_bind, hr]
  rfl
 unfold Oper.wp
 rw [e]
 exact hK _ _ (h b (Lib.hid rfl))
theorem alloc_gr (w : World) : (Instr.alloc 124 true (.tuple #[])).run Tryz.prog w = .ok (.pointer (some ⟨w.heap.size, 0, none⟩)) (w.alloc (.cells gr0 124)) := by kernel_rfl
theorem wpList_agr {ops : Array Oper} {rest : List Oper} {o : Oper} {a : Act} {Q : Exit → Act → World → Prop} {w : World} (hgd : o.guard = none) (ho : o.op = .alloc 124)
  (h : ∀ b w1, w1.heap[b]? = some (.cells gr0 124) → w.heap.size ≤ b → Below w.heap.size w w1 → wpList Tryz.prog ops Q rest (a.put o.dst (.pointer (some ⟨b, 0, none⟩))) w1) : wpList Tryz.prog ops Q (o :: rest) a w := by
 refine wpList_plain hgd fun K hK => ?_
 have e : (execOp a.eval o).run Tryz.prog w = .ok (.value (.pointer (some ⟨w.heap.size, 0, none⟩))) (w.alloc (.cells gr0 124)) := by
  unfold execOp
  rw [ho]
  simp only []
  rw [Sem.run_bind, alloc_gr]
  rfl
 unfold Oper.wp
 rw [e]
 exact hK _ _ (h _ _ (heap_alloc_new w _) (Nat.le_refl _) ((Below.refl _ _).alloc (Nat.le_refl _) _))
theorem wpList_sgr {ops : Array Oper} {rest : List Oper} {o : Oper} {a : Act} {Q : Exit → Act → World → Prop} {w : World} (hgd : o.guard = none) (x y : Operand) {b : Nat} {f : Nat → Nat}
  (ho : o.op = .store 124 x y) (hx : a.eval x = .pointer (some ⟨b, 0, none⟩)) (hy : a.eval y = .agg (grCells f)) (T : w.heap[b]? = some (.cells gr0 124))
  (h : ∀ w1, w1.heap[b]? = some (.cells (grCells f) 124) → (∀ B w0, Below B w0 w → B ≤ b → Below B w0 w1) → wpList Tryz.prog ops Q rest (a.put o.dst undef) w1) : wpList Tryz.prog ops Q (o :: rest) a w :=
 wpList_store_row hgd _ x y ho b (grCells f) hx hy _ _ T (by rw [infoGr, grCells_size]) rfl (grCells_one f)
  (h _ (setRow_heap w b _ _ _ _ T) fun B w0 hB hb => below_setRow hB hb _)
theorem wpList_lgr {ops : Array Oper} {rest : List Oper} {o : Oper} {a : Act} {Q : Exit → Act → World → Prop} {w : World} (hgd : o.guard = none) (x : Operand) {b : Nat} {f : Nat → Nat}
  (ho : o.op = .load 124 x) (hx : a.eval x = .pointer (some ⟨b, 0, none⟩)) (T : w.heap[b]? = some (.cells (grCells f) 124))
  (h : wpList Tryz.prog ops Q rest (a.put o.dst (.agg (grCells f))) w) : wpList Tryz.prog ops Q (o :: rest) a w :=
 wpList_load_row hgd _ x ho b hx _ _ _ _ T Tryz.underlying124 rfl (by rw [infoGr, grCells_size]) h
theorem bs_0 (w : World) : (Instr.buildSlice 29 2 #[(0, .string ⟨#[58, 45]⟩), (1, .string ⟨#[45, 45, 62]⟩)]).run Tryz.prog w = .ok (.slice (some ⟨w.heap.size, 0, none⟩) 2 2) (w.alloc (.cells (grA 0) 9)) := by kernel_rfl
theorem bs_1 (w : World) : (Instr.buildSlice 29 2 #[(0, .string ⟨#[58, 45]⟩), (1, .string ⟨#[63, 45]⟩)]).run Tryz.prog w = .ok (.slice (some ⟨w.heap.size, 0, none⟩) 2 2) (w.alloc (.cells (grA 1) 9)) := by kernel_rfl
theorem bs_2 (w : World) : (Instr.buildSlice 29 1 #[(0, .string ⟨#[59]⟩)]).run Tryz.prog w = .ok (.slice (some ⟨w.heap.size, 0, none⟩) 1 1) (w.alloc (.cells (grA 2) 9)) := by kernel_rfl
theorem bs_3 (w : World) : (Instr.buildSlice 29 1 #[(0, .string ⟨#[45, 62]⟩)]).run Tryz.prog w = .ok (.slice (some ⟨w.heap.size, 0, none⟩) 1 1) (w.alloc (.cells (grA 3) 9)) := by kernel_rfl
theorem bs_4 (w : World) : (Instr.buildSlice 29 1 #[(0, .string ⟨#[44]⟩)]).run Tryz.prog w = .ok (.slice (some ⟨w.heap.size, 0, none⟩) 1 1) (w.alloc (.cells (grA 4) 9)) := by kernel_rfl
theorem bs_5 (w : World) : (Instr.buildSlice 29 1 #[(0, .string ⟨#[92, 43]⟩)]).run Tryz.prog w = .ok (.slice (some ⟨w.heap.size, 0, none⟩) 1 1) (w.alloc (.cells (grA 5) 9)) := by kernel_rfl
theorem bs_6 (w : World) : (Instr.buildSlice 29 16 #[(0, .string ⟨#[61]⟩), (1, .string ⟨#[92, 61]⟩), (2, .string ⟨#[61, 61]⟩), (3, .string ⟨#[92, 61, 61]⟩), (4, .string ⟨#[64, 60]⟩), (5, .string ⟨#[64, 61, 60]⟩), (6, .string ⟨#[64, 62]⟩), (7, .string ⟨#[64, 62, 61]⟩), (8, .string ⟨#[61, 46, 46]⟩), (9, .string ⟨#[105, 115]⟩), (10, .string ⟨#[61, 58, 61]⟩), (11, .string ⟨#[61, 92, 61]⟩), (12, .string ⟨#[60]⟩), (13, .string ⟨#[61, 60]⟩), (14, .string ⟨#[62]⟩), (15, .string ⟨#[62, 61]⟩)]).run Tryz.prog w = .ok (.slice (some ⟨w.heap.size, 0, none⟩) 16 16) (w.alloc (.cells (grA 6) 9)) := by kernel_rfl
theorem bs_7 (w : World) : (Instr.buildSlice 29 4 #[(0, .string ⟨#[43]⟩), (1, .string ⟨#[45]⟩), (2, .string ⟨#[47, 92]⟩), (3, .string ⟨#[92, 47]⟩)]).run Tryz.prog w = .ok (.slice (some ⟨w.heap.size, 0, none⟩) 4 4) (w.alloc (.cells (grA 7) 9)) := by kernel_rfl
theorem bs_8 (w : World) : (Instr.buildSlice 29 8 #[(0, .string ⟨#[42]⟩), (1, .string ⟨#[47]⟩), (2, .string ⟨#[47, 47]⟩), (3, .string ⟨#[114, 101, 109]⟩), (4, .string ⟨#[109, 111, 100]⟩), (5, .string ⟨#[100, 105, 118]⟩), (6, .string ⟨#[60, 60]⟩), (7, .string ⟨#[62, 62]⟩)]).run Tryz.prog w = .ok (.slice (some ⟨w.heap.size, 0, none⟩) 8 8) (w.alloc (.cells (grA 8) 9)) := by kernel_rfl
theorem bs_9 (w : World) : (Instr.buildSlice 29 1 #[(0, .string ⟨#[42, 42]⟩)]).run Tryz.prog w = .ok (.slice (some ⟨w.heap.size, 0, none⟩) 1 1) (w.alloc (.cells (grA 9) 9)) := by kernel_rfl
theorem bs_10 (w : World) : (Instr.buildSlice 29 1 #[(0, .string ⟨#[94]⟩)]).run Tryz.prog w = .ok (.slice (some ⟨w.heap.size, 0, none⟩) 1 1) (w.alloc (.cells (grA 10) 9)) := by kernel_rfl
theorem bs_11 (w : World) : (Instr.buildSlice 29 3 #[(0, .string ⟨#[43]⟩), (1, .string ⟨#[45]⟩), (2, .string ⟨#[92]⟩)]).run Tryz.prog w = .ok (.slice (some ⟨w.heap.size, 0, none⟩) 3 3) (w.alloc (.cells (grA 11) 9)) := by kernel_rfl
theorem build_gr (b0 b1 b2 b3 b4 b5 b6 b7 b8 b9 b10 b11 : Nat) (w : World) : (Instr.build 124 #[(0, .agg #[.int .i64 1200, .int .i64 1, .slice (some ⟨b0, 0, none⟩) 2 2]), (1, .agg #[.int .i64 1200, .int .i64 5, .slice (some ⟨b1, 0, none⟩) 2 2]), (2, .agg #[.int .i64 1100, .int .i64 2, .slice (some ⟨b2, 0, none⟩) 1 1]), (3, .agg #[.int .i64 1050, .int .i64 2, .slice (some ⟨b3, 0, none⟩) 1 1]), (4, .agg #[.int .i64 1000, .int .i64 2, .slice (some ⟨b4, 0, none⟩) 1 1]), (5, .agg #[.int .i64 900, .int .i64 4, .slice (some ⟨b5, 0, none⟩) 1 1]), (6, .agg #[.int .i64 700, .int .i64 1, .slice (some ⟨b6, 0, none⟩) 16 16]), (7, .agg #[.int .i64 500, .int .i64 3, .slice (some ⟨b7, 0, none⟩) 4 4]), (8, .agg #[.int .i64 400, .int .i64 3, .slice (some ⟨b8, 0, none⟩) 8 8]), (9, .agg #[.int .i64 200, .int .i64 1, .slice (some ⟨b9, 0, none⟩) 1 1]), (10, .agg #[.int .i64 200, .int .i64 2, .slice (some ⟨b10, 0, none⟩) 1 1]), (11, .agg #[.int .i64 200, .int .i64 4, .slice (some ⟨b11, 0, none⟩) 3 3])]).run Tryz.prog w = .ok (.agg (grCells (fun k => [b0, b1, b2, b3, b4, b5, b6, b7, b8, b9, b10, b11].getD k 0))) w := by kernel_rfl
theorem idx_gr (b : Nat → Nat) (w : World) : ∀ (k : Nat), k < 12 → (Instr.index 124 (.agg (grCells b)) (.int .i64 k)).run Tryz.prog w = .ok (.agg #[.int .i64 (grP k), .int .i64 (grT k), grV b k]) w
 | 0, _ => by kernel_rfl
 | 1, _ => by kernel_rfl
 | 2, _ => by kernel_rfl
 | 3, _ => by kernel_rfl
 | 4, _ => by kernel_rfl
 | 5, _ => by kernel_rfl
 | 6, _ => by kernel_rfl
 | 7, _ => by kernel_rfl
 | 8, _ => by kernel_rfl
 | 9, _ => by kernel_rfl
 | 10, _ => by kernel_rfl
 | 11, _ => by kernel_rfl
 | _ + 12, h => absurd h (by omega)
theorem wpList_igr {ops : Array Oper} {rest : List Oper} {o : Oper} {a : Act} {Q : Exit → Act → World → Prop} {w : World} (hgd : o.guard = none) (x y : Operand) (b : Nat → Nat) (k : Nat) (hk : k < 12)
  (ho : o.op = .index 124 x y) (hx : a.eval x = .agg (grCells b)) (hy : a.eval y = .int .i64 k)
  (h : wpList Tryz.prog ops Q rest (a.put o.dst (.agg #[.int .i64 (grP k), .int .i64 (grT k), .slice (some ⟨b k, 0, none⟩) (grN k).length (grN k).length])) w) : wpList Tryz.prog ops Q (o :: rest) a w := by
 refine wpList_plain hgd fun K hK => ?_
 have e : (execOp a.eval o).run Tryz.prog w = .ok (.value (.agg #[.int .i64 (grP k), .int .i64 (grT k), grV b k])) w := by
  unfold execOp
  rw [ho]
  simp only [hx, hy]
  rw [Sem.run_bind, idx_gr b w k hk]
  rfl
 unfold Oper.wp
 rw [e]
 exact hK _ _ h
def SortSaid : Prop := ∀ (W : World) (g cap B : Nat) (w0 : World), W.ownsRow B 82 3 (.slice (some ⟨g, 0, none⟩) 41 cap) 41 (opsCells (preL 12)) → Below B w0 W →
  Calls Tryz.prog 108 #[.slice (some ⟨g, 0, none⟩) 41 cap, .func (.func 101) #[] #[]] W fun e w' => e = .returned (.tuple #[]) ∧ Below B w0 w' ∧ OpsAt w' (some ⟨g, 0, none⟩) defL
set_option maxHeartbeats 3200000 in
theorem ops_default (HS : SortSaid) (w : World) :
  Calls Tryz.prog 61 #[] w fun e w' => ∃ g cap, e = .returned (.slice (some ⟨g, 0, none⟩) 41 cap) ∧ Below w.heap.size w w' ∧ OpsAt w' (some ⟨g, 0, none⟩) defL := by
 go_enter Tryz.func61, Tryz.ntmps61
 go_wp2_with (first
  | ((with_reducible refine at_bs ?_); have _m := h10; refine wpList_bs rfl 11 _ _ _ rfl rfl bs_11 ?_; intro b11 w11 h11)
  | ((with_reducible refine at_bs ?_); have _m := h9; refine wpList_bs rfl 10 _ _ _ rfl rfl bs_10 ?_; intro b10 w10 h10)
  | ((with_reducible refine at_bs ?_); have _m := h8; refine wpList_bs rfl 9 _ _ _ rfl rfl bs_9 ?_; intro b9 w9 h9)
  | ((with_reducible refine at_bs ?_); have _m := h7; refine wpList_bs rfl 8 _ _ _ rfl rfl bs_8 ?_; intro b8 w8 h8)
  | ((with_reducible refine at_bs ?_); have _m := h6; refine wpList_bs rfl 7 _ _ _ rfl rfl bs_7 ?_; intro b7 w7 h7)
  | ((with_reducible refine at_bs ?_); have _m := h5; refine wpList_bs rfl 6 _ _ _ rfl rfl bs_6 ?_; intro b6 w6 h6)
  | ((with_reducible refine at_bs ?_); have _m := h4; refine wpList_bs rfl 5 _ _ _ rfl rfl bs_5 ?_; intro b5 w5 h5)
  | ((with_reducible refine at_bs ?_); have _m := h3; refine wpList_bs rfl 4 _ _ _ rfl rfl bs_4 ?_; intro b4 w4 h4)
  | ((with_reducible refine at_bs ?_); have _m := h2; refine wpList_bs rfl 3 _ _ _ rfl rfl bs_3 ?_; intro b3 w3 h3)
  | ((with_reducible refine at_bs ?_); have _m := h1; refine wpList_bs rfl 2 _ _ _ rfl rfl bs_2 ?_; intro b2 w2 h2)
  | ((with_reducible refine at_bs ?_); have _m := h0; refine wpList_bs rfl 1 _ _ _ rfl rfl bs_1 ?_; intro b1 w1 h1)
  | ((with_reducible refine at_bs ?_); refine wpList_bs rfl 0 _ _ _ rfl rfl bs_0 ?_; intro b0 w0 h0)
  | ((with_reducible refine at_bgr ?_); refine wpList_bgr rfl _ _ _ rfl rfl (build_gr b0 b1 b2 b3 b4 b5 b6 b7 b8 b9 b10 b11) ?_; intro f HF)
  | ((with_reducible refine at_agr ?_); refine wpList_agr rfl rfl ?_; intro g wa hga hgl hBa)
  | ((with_reducible refine at_sgr ?_); refine wpList_sgr rfl _ _ rfl rfl rfl hga ?_; intro wb hgb hBb)
  | ((with_reducible refine at_lgr ?_); refine wpList_lgr rfl _ rfl rfl hgb ?_))
 have c11 := hBb _ _ hBa hgl
 have c10 := h11.bel.trans (c11.mono h11.bel.size)
 have c9 := h10.bel.trans (c10.mono h10.bel.size)
 have c8 := h9.bel.trans (c9.mono h9.bel.size)
 have c7 := h8.bel.trans (c8.mono h8.bel.size)
 have c6 := h7.bel.trans (c7.mono h7.bel.size)
 have c5 := h6.bel.trans (c6.mono h6.bel.size)
 have c4 := h5.bel.trans (c5.mono h5.bel.size)
 have c3 := h4.bel.trans (c4.mono h4.bel.size)
 have c2 := h3.bel.trans (c3.mono h3.bel.size)
 have c1 := h2.bel.trans (c2.mono h2.bel.size)
 have c0 := h1.bel.trans (c1.mono h1.bel.size)
 have cw := h0.bel.trans (c0.mono h0.bel.size)
 have HGh : Hid (∀ k, k < 12 → f k < wb.heap.size ∧ ∀ (j : Nat) (hj : j < (grN k).length), wb.cell? ⟨f k, j, none⟩ = some (.string (grN k)[j])) := by
  refine Lib.hid ?_
  rw [HF.out]
  exact fun
  | 0, _ => h0.out c0
  | 1, _ => h1.out c1
  | 2, _ => h2.out c2
  | 3, _ => h3.out c3
  | 4, _ => h4.out c4
  | 5, _ => h5.out c5
  | 6, _ => h6.out c6
  | 7, _ => h7.out c7
  | 8, _ => h8.out c8
  | 9, _ => h9.out c9
  | 10, _ => h10.out c10
  | 11, _ => h11.out c11
  | _ + 12, h => absurd h (by omega)
 clear HF hgb hga hBa hBb hgl c0 c1 c2 c3 c4 c5 c6 c7 c8 c9 c10 c11 h0 h1 h2 h3 h4 h5 h6 h7 h8 h9 h10 h11
 go_loopw [0, 32] (fun v0 i wr => ∃ k : Nat, k ≤ 12 ∧ i = .int .i64 k ∧ Below wb.heap.size wb wr ∧ wr.ownsRow wb.heap.size 82 3 v0 (preL k).length (opsCells (preL k))) (fun _ i _ => 12 - (intOf i).toNat)
 case atStart => exact ⟨0, Nat.zero_le _, rfl, Below.refl _ _, World.ownsRow_nil _ _ _ _⟩
 case round =>
  obtain ⟨k, hk, rfl, hB, hown⟩ := hrel
  have hbs := hB.size
  by_cases hlt : k < 12
  ·go_wp2_with ((with_reducible refine at_igr ?_); refine wpList_igr rfl _ _ f k hlt rfl rfl rfl ?_)
   obtain ⟨hfk, hcl⟩ := HGh.out k hlt
   have hO := grO_le k hlt
   have HGO := Lib.hid (show grO k = (grN k).map fun s => (⟨s, grT k, grP k⟩ : OpR) from rfl)
   have HCL := Lib.hid hcl
   clear hcl
   generalize grN k = N at *
   generalize grT k = T at *
   generalize grP k = P at *
   have hTO : (123 : Nat) ≠ 82 := by decide
   go_loopw [0, 38] (fun v0 i wi => ∃ j : Nat, j ≤ N.length ∧ i = .int .i64 j ∧ Below wb.heap.size wb wi ∧ wr.heap.size < wi.heap.size ∧ wi.heap[wr.heap.size]? = some (.cells #[.int .i64 P, .int .i64 T, .slice (some ⟨f k, 0, none⟩) N.length N.length] 123) ∧ wi.ownsRow wb.heap.size 82 3 v0 ((preL k).length + j) (opsCells (preL k ++ (N.take j).map fun s => (⟨s, T, P⟩ : OpR)))) (fun _ i _ => N.length - (intOf i).toNat)
   case atStart => exact ⟨0, Nat.zero_le _, rfl, hB.alloc hbs _, by simp, heap_alloc_new _ _, by simpa using hown.alloc _⟩
   case round =>
    obtain ⟨j, hj, rfl, hBi, hgl, hg3, howni⟩ := hrel
    have hbi := hBi.size
    by_cases hlj : j < N.length
    ·have x0 : _ = some (Value.int .i64 P) := cell_of_heap hg3 0
     have x1 : _ = some (Value.int .i64 T) := cell_of_heap hg3 1
     have cc := (hBi.cell (p := ⟨f k, j, none⟩) hfk).trans (HCL.out j hlj)
     have HTk := Lib.hid (List.take_succ_eq_append_getElem hlj)
     have hl63 : (preL k).length + j ≤ 70368744 := by omega
     have HOw := Lib.hid howni
     have HG3 := Lib.hid hg3
     clear howni hg3
     generalize N[j] = s at *
     go_wp2_with ((with_reducible refine at_appOO ?_); go_must (refine wpList_append_op rfl _ _ rfl wb.heap.size _ _ _ rfl _ HOw.out ⟨s, T, P⟩ rfl rfl hl63 hbi ?_; intro v1 w4 hown4 hB4 hg4))
     go_roundw
     case rel =>
      refine ⟨j + 1, by omega, by go_num, hBi.trans hB4, ?_, ?_, ?_⟩
      ·have := hg4.size; simp at this; omega
      ·rw [hg4.block _ (by simp; omega) (own_ne_type HOw.out HG3.out hTO), ← HG3.out]
       exact (World.grownBy_alloc _ _ none).block _ hgl (by simp)
      ·rw [HTk.out, List.map_append, ← List.append_assoc]
       exact hown4
     case measure => simp [intOf] <;> omega
    ·have hjn : j = N.length := by omega
     subst hjn
     go_wp2_with fail
     go_roundw
     case rel =>
      refine ⟨k + 1, by omega, by go_num, hBi, ?_⟩
      rw [preL_succ, HGO.out, List.length_append, List.length_map]
      rw [List.take_length] at howni
      exact howni
     case measure => simp [intOf] <;> omega
  ·have hk12 : k = 12 := by omega
   subst hk12
   rw [preL_len] at hown
   obtain ⟨g2, cap, rfl⟩ := own_some hown (by omega)
   have HC := Lib.hid (HS wr g2 cap wb.heap.size wb hown hB)
   clear hown hlt hk
   go_wp2_with fail
   refine HC.out.mono ?_; rintro e w7 ⟨rfl, hB7, hO7⟩
   have HO7 := Lib.hid hO7
   clear hO7
   go_wp2_with fail
   go_ret
   first | exact ⟨g2, cap, rfl, cw.trans (hB7.mono cw.size), HO7.out⟩ | exact ⟨g2, ⟨cap, rfl⟩, cw.trans (hB7.mono cw.size), HO7.out⟩
end Go.Proofs.YtfkhcpeahdkafaaGreat
namespace Hb
open Go Go.RowKit Go.Sort Go.Proofs
theorem befOp_iff (a b : OpR) : befOp a b = true ↔ a.name.toList < b.name.toList ∨ (a.name.toList = b.name.toList ∧ clsOp a.typ < clsOp b.typ) := by
 unfold befOp
 by_cases h : a.name.toList = b.name.toList
 ·have hi : ¬b.name.toList < b.name.toList := List.lt_irrefl _
  simp [h, hi]
 ·have h2 : (a.name.toList == b.name.toList) = false := by simpa using h
  rw [h2, if_neg (by simp), bytesLess_eq]
  simp [h]
theorem ltOf_bef (a b : OpR) : ltOf cmpOp a b = befOp a b := (befOp_cmp a b).symm
theorem swo_op : SWO (ltOf cmpOp) where
 irrefl x := by
  rw [ltOf_bef, ← Bool.not_eq_true, befOp_iff]
  rintro (h | ⟨_, h⟩)
  ·exact List.lt_irrefl _ h
  ·omega
 trans x y z h1 h2 := by
  rw [ltOf_bef, befOp_iff] at *
  rcases h1 with h1 | ⟨e1, h1⟩ <;> rcases h2 with h2 | ⟨e2, h2⟩
  ·exact .inl (List.lt_trans h1 h2)
  ·exact .inl (e2 ▸ h1)
  ·exact .inl (e1 ▸ h2)
  ·exact .inr ⟨e1.trans e2, by omega⟩
 ntrans x y z h1 h2 := by
  rw [ltOf_bef, ← Bool.not_eq_true, befOp_iff] at *
  rintro h
  have a1 : y.name.toList ≤ x.name.toList := fun h => h1 (.inl h)
  have a2 : z.name.toList ≤ y.name.toList := fun h => h2 (.inl h)
  rcases h with h | ⟨e, h⟩
  ·exact List.lt_irrefl _ (List.lt_of_le_of_lt (List.le_trans a2 a1) h)
  ·have e1 : y.name.toList = x.name.toList := List.le_antisymm a1 (by rw [e]; exact a2)
   have c1 : ¬clsOp x.typ < clsOp y.typ := fun hh => h1 (.inr ⟨e1.symm, hh⟩)
   have c2 : ¬clsOp y.typ < clsOp z.typ := fun hh => h2 (.inr ⟨e1.trans e, hh⟩)
   omega
theorem defL_sorted : defL.Pairwise fun a b => befOp b a = false := by decide +kernel
theorem defL_apart : ∀ a ∈ defL, ∀ b ∈ defL, befOp b a = false → befOp a b = false → a = b := by decide +kernel
theorem defL_len : defL.length = 41 := by decide +kernel
theorem sorted_defL (d : Array OpR) (h : d.toList.Perm (preL 12)) (hs : ∀ i j, i < j → j < 41 → ltOf cmpOp d[j]! d[i]! = false) : d.toList = defL := by
 have hp : d.toList.Perm defL := h.trans defL_perm.symm
 have hl : d.size = 41 := by
  have := hp.length_eq
  rw [defL_len] at this
  simpa using this
 have hpw : d.toList.Pairwise fun a b => befOp b a = false := by
  rw [List.pairwise_iff_getElem]
  intro i j hi hj hij
  have := hs i j hij (by simp at hj; omega)
  rw [ltOf_bef] at this
  have e1 : d[j]! = d.toList[j] := by rw [getElem!_pos d j (by simpa using hj)]; simp
  have e2 : d[i]! = d.toList[i] := by rw [getElem!_pos d i (by simpa using hi)]; simp
  rw [e1, e2] at this
  exact this
 exact hp.eq_of_pairwise (fun a b ha hb h1 h2 => defL_apart a (hp.subset ha) b hb h1 h2) hpw defL_sorted
end Hb
namespace Hb
open Go Go.RowKit Go.Sort Go.Proofs
theorem opsCells_get : ∀ (l : List OpR) (j : Nat), j < l.length * 3 → (opsCells l)[j]? = some ((opCells l[j / 3]!)[j % 3]!)
 | [], j, h => absurd h (by simp)
 | o :: l, j, h => by
  have e : opsCells (o :: l) = opCells o ++ opsCells l := rfl
  rw [e]
  by_cases hj : j < 3
  ·have : j = 0 ∨ j = 1 ∨ j = 2 := by omega
   rcases this with rfl | rfl | rfl <;> rfl
  ·have ih := opsCells_get l (j - 3) (by simp at h; omega)
   rw [List.getElem?_append_right (by simp [opCells]; omega)]
   have e1 : (opCells o).length = 3 := rfl
   have e2 : j / 3 = (j - 3) / 3 + 1 := by omega
   have e3 : j % 3 = (j - 3) % 3 := by omega
   rw [e1, ih, e2, e3]
   simp
theorem grows_of {w w' : World} (h : Below w.heap.size w w') (hd : w.drawn ≤ w'.drawn) : ∃ q os', w' = Sort.grow (w.drewN q) os' := by
 refine ⟨w'.drawn - w.drawn, w'.heap.extract w.heap.size w'.heap.size, ?_⟩
 have hh : w'.heap = w.heap ++ w'.heap.extract w.heap.size w'.heap.size := by
  apply Array.ext_getElem?
  intro i
  by_cases hi : i < w.heap.size
  ·rw [h.block i hi, Array.getElem?_append_left hi]
  ·rw [Array.getElem?_append_right (by omega), Array.getElem?_extract]
   have := h.size
   by_cases h2 : i < w'.heap.size
   ·rw [if_pos (by omega)]; congr 1; omega
   ·rw [if_neg (by omega), Array.getElem?_eq_none (by omega)]
 obtain ⟨H', t', d', o', u'⟩ := w'
 obtain ⟨H, t, d, o, u⟩ := w
 have e1 := h.os
 have e2 := h.tape
 have e3 := h.output
 simp only [] at e1 e2 e3 hh hd
 subst e1 e2 e3
 unfold Sort.grow World.drewN
 simp only []
 rw [← hh]
 congr 1
 omega
end Hb
namespace Go.Proofs.YtfkhcpeahdkafaaGreat
open Go.RowKit Hb Go.Sort
set_option maxRecDepth 100000
theorem sorted_heap (W : World) (g n : Nat) (d : Array OpR) (os : Array Obj) : (sortWorldK opCells 3 W g 0 n d os).heap = W.heap.modify g (onCells (putCells id 0 (flatK opCells 3 d))) ++ os := rfl
theorem below_sorted {B g n : Nat} {w0 W : World} (hB : Below B w0 W) (hg : B ≤ g) (hW : g < W.heap.size) (d : Array OpR) (os : Array Obj) : Below B w0 (sortWorldK opCells 3 W g 0 n d os) := by
 refine hB.trans ⟨rfl, rfl, rfl, ?_, fun k hk => ?_⟩
 ·rw [sorted_heap]; simp
 ·rw [sorted_heap, Array.getElem?_append_left (by simp; omega), Array.getElem?_modify, if_neg (by omega)]
theorem sort_said : SortSaid := by
 intro W g cap B w0 hown hB
 obtain ⟨hBg, hlt⟩ := hown.lt g rfl
 have hsz : (preL 12).toArray.size = 41 := by rw [List.size_toArray, preL_len]
 have eg : ∀ args w, (callFunc 101 args).run Tryz.prog w = .ok (.enter 101 args) w := enters_of Tryz.func101 (by kernel_rfl) rfl
 have aE : ∀ w, (isAgg 82).run Tryz.prog w = .ok true w := fun w => by kernel_rfl
 have zE : ∀ w, (Go.sizeOf 82).run Tryz.prog w = .ok 3 w := fun w => by kernel_rfl
 have hH : HoldsK opCells 3 W g 0 (preL 12).toArray := fun j hj => by
  have hj' : j < (preL 12).toArray.size * 3 := by rw [size_flatK] at hj; exact hj
  have hj2 : j < (preL 12).length * 3 := by rw [preL_len]; rw [hsz] at hj'; exact hj'
  refine ⟨?_, hown.frozenAt _⟩
  rw [Nat.zero_add, hown.cellAt j (by rw [preL_len] at hj2; exact hj2), opsCells_get _ j hj2, get_flatK _ _ _ _ hj']
  simp
 have hc : CmpLays Tryz.prog 101 #[] opCells 3 cmpOp g 0 (preL 12).toArray.size W := fun m os dk _ x y =>
  (op_compare_up x y _).mono fun _ _ ⟨he, hb, hdr⟩ => ⟨he, grows_of hb hdr⟩
 have H := AnyQ.slices_SortFunc Tryz.sortOps 3 aE zE opCells (fun _ => rfl) (fun x v hv => by simp [opCells] at hv; rcases hv with rfl | rfl | rfl <;> rfl) cmpOp swo_op 101 #[] g 0 cap (preL 12).toArray W eg hc hH hlt (by rw [hsz]; decide)
 rw [hsz] at H
 refine H.mono ?_
 rintro e w' ⟨rfl, d', n, os, hp, hs, rfl⟩
 have hd41 : d'.size = 41 := hp.1.trans hsz
 have hperm : d'.toList.Perm (preL 12) := by
  have := hp.2.2
  rw [Array.extract_eq_self_of_le (by omega), Array.extract_eq_self_of_le (by omega)] at this
  simpa using this
 have hdl := sorted_defL d' hperm (fun i j hij hj => hs i j (Nat.zero_le _) hij hj)
 have hK : HoldsK opCells 3 (sortWorldK opCells 3 W g 0 n d' os) g 0 d' := by
  have h1 : HoldsK opCells 3 (Sort.ahead W n) g 0 (preL 12).toArray := holdsK_ahead _ _ _ _ _ _ _ hH
  have h2 : HoldsK opCells 3 (putRowK opCells 3 (Sort.ahead W n) g 0 d') g 0 d' := holdsK_putRowK _ _ _ _ _ _ _ h1 (by rw [hd41, hsz])
  exact holdsK_grow _ _ _ os _ _ _ (by show g < (putRowK opCells 3 (Sort.ahead W n) g 0 d').heap.size; simp [putRowK, putRow, mapBlock, Sort.ahead, hlt]) h2
 have hbel := below_sorted (n := n) hB hBg hlt d' os
 refine ⟨rfl, hbel, fun j hj => ?_⟩
 have hj41 : j < 41 := by rw [defL_len] at hj; exact hj
 have hjd : j < d'.size := by omega
 have e0 : d'[j]! = defL[j] := by
  rw [getElem!_pos d' j hjd]
  have : d'.toList[j]'(by simpa using hjd) = defL[j] := by simp only [hdl]
  rw [← this]; simp
 have k0 := (hK.cell hjd (c := 0) (by omega)).1
 have k1 := (hK.cell hjd (c := 1) (by omega)).1
 have k2 := (hK.cell hjd (c := 2) (by omega)).1
 rw [e0] at k0 k1 k2
 refine ⟨g, 0, rfl, ?_, k0, k1, k2⟩
 rw [sorted_heap]; simp; omega
end Go.Proofs.YtfkhcpeahdkafaaGreat
namespace Hb
open Go Go.RowKit
theorem opsCells_len (l : List OpR) : (opsCells l).length = l.length * 3 := by
 unfold opsCells; induction l with
 | nil => rfl
 | cons p l ih => rw [List.flatMap_cons, List.length_append, ih]; simp [opCells]; omega
theorem oc_get : ∀ (l : List OpR) (i : Nat) (h : i < l.length), (opsCells l)[i * 3]? = some (.string l[i].name) ∧ (opsCells l)[i * 3 + 1]? = some (.int .i64 l[i].typ) ∧ (opsCells l)[i * 3 + 2]? = some (.int .i64 l[i].prec)
 | p :: l, 0, _ => ⟨rfl, rfl, rfl⟩
 | p :: l, i + 1, h => by
  have := oc_get l i (by simpa using h)
  have e : opsCells (p :: l) = .string p.name :: .int .i64 p.typ :: .int .i64 p.prec :: opsCells l := rfl
  rw [e, show (i + 1) * 3 = i * 3 + 3 by omega]
  exact ⟨by simpa using this.1, by simpa using this.2.1, by simpa using this.2.2⟩
theorem oc_one (l : List OpR) : ∀ u ∈ opsCells l, u.oneCell' = true := by
 intro u hu
 unfold opsCells at hu
 rw [List.mem_flatMap] at hu
 obtain ⟨p, _, hp⟩ := hu
 simp [opCells] at hp
 rcases hp with rfl | rfl | rfl <;> rfl
def OpsIn (w : World) (b off : Nat) (l : List OpR) : Prop :=
 ∀ j (hj : j < l.length), w.cell? ⟨b, off + j * 3, none⟩ = some (.string l[j].name) ∧ w.cell? ⟨b, off + j * 3 + 1, none⟩ = some (.int .i64 l[j].typ) ∧ w.cell? ⟨b, off + j * 3 + 2, none⟩ = some (.int .i64 l[j].prec)
theorem add_at (b o j : Nat) : (⟨b, o, none⟩ : Addr).add j = ⟨b, o + j, none⟩ := by unfold Addr.add; split <;> simp_all
theorem oc_at {w : World} {b off : Nat} {l : List OpR} (h : OpsIn w b off l) (j : Nat) (u : Value) (hu : (opsCells l)[j]? = some u) : w.cell? ((⟨b, off, none⟩ : Addr).add j) = some u := by
 have hj : j < (opsCells l).length := by
  rcases Nat.lt_or_ge j (opsCells l).length with hh | hh
  ·exact hh
  ·rw [List.getElem?_eq_none hh] at hu; cases hu
 rw [opsCells_len] at hj
 have hi : j / 3 < l.length := by omega
 obtain ⟨p1, p2, p3⟩ := oc_get l (j / 3) hi
 obtain ⟨q1, q2, q3⟩ := h (j / 3) hi
 rw [add_at]
 have hc : j = j / 3 * 3 ∨ j = j / 3 * 3 + 1 ∨ j = j / 3 * 3 + 2 := by omega
 rcases hc with e2 | e2 | e2
 ·rw [e2, p1] at hu; injection hu with hu; rw [e2, ← hu]; exact q1
 ·rw [e2, p2] at hu; injection hu with hu; rw [e2, ← hu, ← Nat.add_assoc]; exact q2
 ·rw [e2, p3] at hu; injection hu with hu; rw [e2, ← hu, ← Nat.add_assoc]; exact q3
theorem OpsAt.cases {w : World} {A : Option Addr} {l : List OpR} (h : OpsAt w A l) : l = [] ∨ ∃ b off, A = some ⟨b, off, none⟩ ∧ b < w.heap.size ∧ OpsIn w b off l := by
 cases l with
 | nil => exact .inl rfl
 | cons a l =>
  obtain ⟨b, off, e, hb, _⟩ := h 0 (by simp)
  refine .inr ⟨b, off, e, hb, fun j hj => ?_⟩
  obtain ⟨b', off', e', _, c⟩ := h j hj
  rw [e] at e'; injection e' with e'; injection e' with e1 e2 _; subst e1; subst e2
  exact c
theorem OpsIn.ops {w : World} {b off : Nat} {l : List OpR} (h : OpsIn w b off l) (hb : b < w.heap.size) : OpsAt w (some ⟨b, off, none⟩) l := fun j hj => ⟨b, off, rfl, hb, h j hj⟩
theorem OpsIn.below {w w' : World} {b off : Nat} {l : List OpR} (h : OpsIn w b off l) (hb : b < w.heap.size) (hB : Below w.heap.size w w') : OpsIn w' b off l := fun j hj => by
 obtain ⟨c0, c1, c2⟩ := h j hj
 exact ⟨(hB.cell (p := ⟨b, _, none⟩) hb).trans c0, (hB.cell (p := ⟨b, _, none⟩) hb).trans c1, (hB.cell (p := ⟨b, _, none⟩) hb).trans c2⟩
theorem own_sliceO {w : World} {base e size : Nat} {v : Value} {n : Nat} {xs : List Value} (h : w.ownsRow base e size v n xs) : ∃ A cap, v = .slice A n cap := by
 rcases h.2 with ⟨rfl, h0⟩ | ⟨g, cap, cur, rfl, _⟩
 ·exact ⟨none, 0, by rw [h0]⟩
 ·exact ⟨_, cap, rfl⟩
theorem own_in {w : World} {base e n g cap : Nat} {l : List OpR} (h : w.ownsRow base e 3 (.slice (some ⟨g, 0, none⟩) n cap) n (opsCells l)) : OpsIn w g 0 l := by
 have hn : n = l.length := by have := h.1; rw [opsCells_len] at this; omega
 intro j hj
 obtain ⟨p1, p2, p3⟩ := oc_get l j hj
 exact ⟨by rw [Nat.zero_add, h.cellAt _ (by omega)]; exact p1, by rw [Nat.zero_add, h.cellAt _ (by omega)]; exact p2, by rw [Nat.zero_add, h.cellAt _ (by omega)]; exact p3⟩
theorem ops_own {w : World} {base e n cap : Nat} {A : Option Addr} {l : List OpR} (h : w.ownsRow base e 3 (.slice A n cap) n (opsCells l)) : OpsAt w A l := by
 have hn : n = l.length := by have := h.1; rw [opsCells_len] at this; omega
 rcases h.2 with ⟨hv, h0⟩ | ⟨g, cap', cur, hv, hbg, hh, rest⟩
 ·intro j hj; omega
 ·injection hv with hA _ _
  subst hA
  exact (own_in h).ops (h.lt g rfl).2
theorem own_emptyO (w : World) (base e size : Nat) (hb : base ≤ w.heap.size) : (w.alloc (.cells #[] e)).ownsRow base e size (.slice (some ⟨w.heap.size, 0, none⟩) 0 0) 0 [] :=
 ⟨by simp, .inr ⟨w.heap.size, 0, #[], rfl, hb, by show (w.heap.push _)[w.heap.size]? = _; simp, Nat.le_refl _, Nat.zero_le _, by simp, by simp⟩⟩
end Hb
namespace Go.Proofs.YtfkhcpeahdkafaaGreat
open Go.RowKit Hb
set_option maxRecDepth 100000
set_option maxHeartbeats 800000 in
theorem ops_clone (A : Option Addr) (n cap : Nat) (l : List OpR) (w : World) (hn : n = l.length) (hm : n ≤ 400) (hp : OpsAt w A l) (hA : n = 0 → (Value.slice A n cap = .slice none 0 0 ∨ ∃ ad, A = some ad)) :
  Calls Tryz.prog 69 #[.slice A n cap] w fun e w' => ∃ A' cap', e = .returned (.slice A' n cap') ∧ Below w.heap.size w w' ∧ w'.ownsRow w.heap.size 82 3 (.slice A' n cap') n (opsCells l) := by
 obtain ⟨i, hi, hz0, hz1, hz2⟩ := info_parts infoOp
 have HI := Lib.hid hi
 have HZ0 := Lib.hid hz0
 have HZ1 := Lib.hid hz1
 have HZ2 := Lib.hid hz2
 have hE := Lib.hid (own_emptyO w w.heap.size 82 3 (Nat.le_refl _))
 have hB0 := (Below.refl w.heap.size w).alloc (Nat.le_refl _) (.cells #[] 82)
 rcases hp.cases with hl0 | ⟨b, off, rfl, hb, hin⟩
 ·subst hl0
  rw [List.length_nil] at hn
  subst hn
  rcases hA rfl with hv | ⟨ad, rfl⟩
  ·injection hv with h1 h2 h3
   subst h1; subst h3
   clear hi hz0 hz1 hz2 hA hp h2
   have q22 : ∀ (w : World) (a : Option Addr) (n c n' c' : Nat), (binOp .eql 40 (.slice a n c) (.slice none n' c')).run Tryz.prog w = .ok (.bool a.isNone) w := fun w a n c n' c' => Lib.run_eql_slice_nil w _ _ a n c n' c' Tryz.underlying40
   go_enter Tryz.func69, Tryz.ntmps69
   go_wp2_with fail
   go_ret
   first | exact ⟨none, ⟨0, rfl⟩, Below.refl _ _, World.ownsRow_nil _ _ _ _⟩ | exact ⟨none, 0, rfl, Below.refl _ _, World.ownsRow_nil _ _ _ _⟩
  ·clear hi hz0 hz1 hz2 hA hp
   have q22 : ∀ (w : World) (a : Option Addr) (n c n' c' : Nat), (binOp .eql 40 (.slice a n c) (.slice none n' c')).run Tryz.prog w = .ok (.bool a.isNone) w := fun w a n c n' c' => Lib.run_eql_slice_nil w _ _ a n c n' c' Tryz.underlying40
   go_enter Tryz.func69, Tryz.ntmps69
   go_wp2_with (at_builtin; go_must (refine wpList_append_own _ rfl _ _ 40 rfl w.heap.size 82 i _ 3 32 Tryz.underlying40 HI.out HZ0.out HZ1.out HZ2.out rfl (by decide) _ 0 [] rfl hE.out ad 0 cap [] rfl rfl (by intro j u hu; cases hu) (by intro u hu; cases hu) (by unfold maxLen; omega) (by omega) (by simp) ?_; intro v1 w1 hown1 hg1 _))
   have hB1 : Below w.heap.size w w1 := hB0.grown hg1 (by simp) (fun k hk => Nat.le_of_eq (Option.some.inj (show some w.heap.size = some k from hk)))
   rw [Nat.zero_add, List.nil_append] at hown1
   obtain ⟨A', cap', rfl⟩ := own_sliceO hown1
   have HO := Lib.hid hown1
   clear hown1
   go_ret
   first | exact ⟨A', ⟨cap', rfl⟩, hB1, HO.out⟩ | exact ⟨A', cap', rfl, hB1, HO.out⟩
 ·have HC := Lib.hid (hin.below hb hB0)
  have HN := Lib.hid hn
  clear hi hz0 hz1 hz2 hA hp hin hn
  have q22 : ∀ (w : World) (a : Option Addr) (n c n' c' : Nat), (binOp .eql 40 (.slice a n c) (.slice none n' c')).run Tryz.prog w = .ok (.bool a.isNone) w := fun w a n c n' c' => Lib.run_eql_slice_nil w _ _ a n c n' c' Tryz.underlying40
  go_enter Tryz.func69, Tryz.ntmps69
  go_wp2_with (at_builtin; go_must (refine wpList_append_own _ rfl _ _ 40 rfl w.heap.size 82 i _ 3 32 Tryz.underlying40 HI.out HZ0.out HZ1.out HZ2.out rfl (by decide) _ 0 [] rfl hE.out ⟨b, off, none⟩ n cap (opsCells l) rfl (by rw [opsCells_len, HN.out]) (oc_at HC.out) (oc_one l) (by unfold maxLen; omega) (by omega) (by simp) ?_; intro v1 w1 hown1 hg1 _))
  rw [Nat.zero_add, List.nil_append] at hown1
  have hB1 : Below w.heap.size w w1 := hB0.grown hg1 (by simp) (fun k hk => Nat.le_of_eq (Option.some.inj (show some w.heap.size = some k from hk)))
  obtain ⟨A', cap', rfl⟩ := own_sliceO hown1
  have HO := Lib.hid hown1
  clear hown1
  go_ret
  first | exact ⟨A', ⟨cap', rfl⟩, hB1, HO.out⟩ | exact ⟨A', cap', rfl, hB1, HO.out⟩
end Go.Proofs.YtfkhcpeahdkafaaGreat
namespace Hb
open Go Go.RowKit
structure BHeld (w0 w : World) (o a : OpR) (b p : Nat) : Prop where
 bel : Below w0.heap.size w0 w
 lt : w0.heap.size < w.heap.size
 o0 : w.cell? ⟨w0.heap.size, 0, none⟩ = some (.string o.name)
 o1 : w.cell? ⟨w0.heap.size, 1, none⟩ = some (.int .i64 o.typ)
 o2 : w.cell? ⟨w0.heap.size, 2, none⟩ = some (.int .i64 o.prec)
 bl : b < w0.heap.size
 a0 : w.cell? ⟨b, p, none⟩ = some (.string a.name)
 a1 : w.cell? ⟨b, p + 1, none⟩ = some (.int .i64 a.typ)
 a2 : w.cell? ⟨b, p + 2, none⟩ = some (.int .i64 a.prec)
section
variable {w0 w w' : World} {o a : OpR} {b p : Nat}
theorem BHeld.keep (h : BHeld w0 w o a b p) : w.cell? ⟨w0.heap.size, 0, none⟩ = some (.string o.name) ∧ w.cell? ⟨w0.heap.size, 1, none⟩ = some (.int .i64 o.typ) ∧ w.cell? ⟨w0.heap.size, 2, none⟩ = some (.int .i64 o.prec) ∧ w.cell? ⟨b, p, none⟩ = some (.string a.name) ∧ w.cell? ⟨b, p + 1, none⟩ = some (.int .i64 a.typ) ∧ w.cell? ⟨b, p + 2, none⟩ = some (.int .i64 a.prec) ∧ BHeld w0 w o a b p := ⟨h.o0, h.o1, h.o2, h.a0, h.a1, h.a2, h⟩
theorem BHeld.of (h : w.cell? ⟨w0.heap.size, 0, none⟩ = some (.string o.name) ∧ w.cell? ⟨w0.heap.size, 1, none⟩ = some (.int .i64 o.typ) ∧ w.cell? ⟨w0.heap.size, 2, none⟩ = some (.int .i64 o.prec) ∧ w.cell? ⟨b, p, none⟩ = some (.string a.name) ∧ w.cell? ⟨b, p + 1, none⟩ = some (.int .i64 a.typ) ∧ w.cell? ⟨b, p + 2, none⟩ = some (.int .i64 a.prec) ∧ BHeld w0 w o a b p) : BHeld w0 w o a b p := h.2.2.2.2.2.2
theorem BHeld.call (hB : Below w.heap.size w w') (h : BHeld w0 w o a b p) : BHeld w0 w' o a b p where
 bel := h.bel.trans (hB.mono (by have := h.lt; omega))
 lt := Nat.lt_of_lt_of_le h.lt hB.size
 o0 := (hB.cell (p := ⟨_, _, none⟩) h.lt).trans h.o0
 o1 := (hB.cell (p := ⟨_, _, none⟩) h.lt).trans h.o1
 o2 := (hB.cell (p := ⟨_, _, none⟩) h.lt).trans h.o2
 bl := h.bl
 a0 := (hB.cell (p := ⟨_, _, none⟩) (Nat.lt_trans h.bl h.lt)).trans h.a0
 a1 := (hB.cell (p := ⟨_, _, none⟩) (Nat.lt_trans h.bl h.lt)).trans h.a1
 a2 := (hB.cell (p := ⟨_, _, none⟩) (Nat.lt_trans h.bl h.lt)).trans h.a2
theorem BHeld.drew (h : BHeld w0 w o a b p) : BHeld w0 w.drew o a b p := h.call (Below.refl w.heap.size w).drew
end
structure TBox (w0 w : World) (o : OpR) : Prop where
 bel : Below w0.heap.size w0 w
 lt : w0.heap.size < w.heap.size
 o0 : w.cell? ⟨w0.heap.size, 0, none⟩ = some (.string o.name)
 o1 : w.cell? ⟨w0.heap.size, 1, none⟩ = some (.int .i64 o.typ)
 o2 : w.cell? ⟨w0.heap.size, 2, none⟩ = some (.int .i64 o.prec)
theorem TBox.start (w : World) (o : OpR) (e : TypeId) : TBox w (w.alloc (.cells #[.string o.name, .int .i64 o.typ, .int .i64 o.prec] e)) o where
 bel := (Below.refl _ _).alloc (Nat.le_refl _) _
 lt := by simp
 o0 := World.cell?_alloc_new _ _ _ 0
 o1 := World.cell?_alloc_new _ _ _ 1
 o2 := World.cell?_alloc_new _ _ _ 2
theorem TBox.held {w0 w : World} {o a : OpR} {b p : Nat} (h : TBox w0 w o) (hb : b < w0.heap.size) (c : w0.cell? ⟨b, p, none⟩ = some (.string a.name) ∧ w0.cell? ⟨b, p + 1, none⟩ = some (.int .i64 a.typ) ∧ w0.cell? ⟨b, p + 2, none⟩ = some (.int .i64 a.prec)) : BHeld w0 w o a b p where
 bel := h.bel
 lt := h.lt
 o0 := h.o0
 o1 := h.o1
 o2 := h.o2
 bl := hb
 a0 := (h.bel.cell (p := ⟨b, _, none⟩) hb).trans c.1
 a1 := (h.bel.cell (p := ⟨b, _, none⟩) hb).trans c.2.1
 a2 := (h.bel.cell (p := ⟨b, _, none⟩) hb).trans c.2.2
theorem BHeld.box {w0 w : World} {o a : OpR} {b p : Nat} (h : BHeld w0 w o a b p) : TBox w0 w o := ⟨h.bel, h.lt, h.o0, h.o1, h.o2⟩
structure Parts (o : OpR) (l : List OpR) (lo hi : Nat) : Prop where
 le : lo ≤ hi
 hl : hi ≤ l.length
 pre : ∀ j (hj : j < l.length), j < lo → cmpOp l[j] o < 0
 post : ∀ j (hj : j < l.length), hi ≤ j → ¬ cmpOp l[j] o < 0
def Mono (o : OpR) (l : List OpR) : Prop := ∀ i j (hj : j < l.length) (hij : i ≤ j), cmpOp l[j] o < 0 → cmpOp (l[i]'(by omega)) o < 0
theorem Parts.up {o : OpR} {l : List OpR} {lo hi m : Nat} (h : Parts o l lo hi) (hM : Mono o l) (h2 : m < hi) (hm : m < l.length) (hc : cmpOp l[m] o < 0) : Parts o l (m + 1) hi where
 le := h2
 hl := h.hl
 pre := fun j hj hjm => hM j m hm (by omega) hc
 post := h.post
theorem Parts.down {o : OpR} {l : List OpR} {lo hi m : Nat} (h : Parts o l lo hi) (hM : Mono o l) (h1 : lo ≤ m) (hm : m < l.length) (hc : ¬ cmpOp l[m] o < 0) : Parts o l lo m where
 le := h1
 hl := by omega
 pre := h.pre
 post := fun j hj hmj hcj => hc (hM m j hj hmj hcj)
theorem Parts.start (o : OpR) (l : List OpR) : Parts o l 0 l.length := ⟨Nat.zero_le _, Nat.le_refl _, fun j _ h => absurd h (by omega), fun j hj h => absurd hj (by omega)⟩
end Hb
namespace Go.Proofs.YtfkhcpeahdkafaaGreat
open Go.RowKit Hb
set_option maxRecDepth 100000
theorem at_shr {ops : Array Oper} {rest : List Oper} {a : Act} {Q : Exit → Act → World → Prop} {w : World} {d x y t p f g} (h : wpList Tryz.prog ops Q (⟨d, .binOp .shr 149 x y 149, t, p, f, g⟩ :: rest) a w) : wpList Tryz.prog ops Q (⟨d, .binOp .shr 149 x y 149, t, p, f, g⟩ :: rest) a w := h
theorem wpList_half {ops : Array Oper} {rest : List Oper} {o : Oper} {a : Act} {Q : Exit → Act → World → Prop} {w : World} (hgd : o.guard = none) (x y : Operand) (ho : o.op = .binOp .shr 149 x y 149) (k m : Int) (hx : a.eval x = .int .u64 k) (hy : a.eval y = .int .u64 1) (hm : k / 2 = m)
  (h : wpList Tryz.prog ops Q rest (a.put o.dst (.int .u64 m)) w) : wpList Tryz.prog ops Q (o :: rest) a w := by
 refine wpList_plain hgd fun K hK => ?_
 have hb1 : min (Int.toNat 1) IntKind.u64.bits = 1 := by decide
 have e : (execOp a.eval o).run Tryz.prog w = .ok (.value (.int .u64 m)) w := by
  unfold execOp
  rw [ho]
  simp only [hx, hy]
  rw [← hm, binOp_shr, shift_shr_any _ _ _ _ (by decide), hb1]
  rfl
 unfold Oper.wp
 rw [e]
 exact hK _ _ h
set_option maxHeartbeats 3200000 in
theorem ops_search (A : Option Addr) (n cap : Nat) (l : List OpR) (o : OpR) (w : World) (hn : n = l.length) (hm : n ≤ 400) (hp : OpsAt w A l) (hM : Mono o l) :
  Calls Tryz.prog 190 #[.slice A n cap, opV o, .func (.func 101) #[] #[]] w fun e w' => ∃ (i : Nat) (b : Bool), e = .returned (.tuple #[.int .i64 i, .bool b]) ∧ Parts o l i i ∧ Below w.heap.size w w' := by
 have HP := Lib.hid hp
 have HN := Lib.hid hn
 have HM := Lib.hid hM
 have hX := TBox.start w o 82
 have HS := Lib.hid (Parts.start o l)
 rw [← hn] at HS
 have HC := Lib.hid (fun a W => op_compare a o W)
 clear hp hn hM
 unfold opV at *
 go_enter Tryz.func190, Tryz.ntmps190
 go_wp2_with fail
 have HX : Hid (TBox w _ o) := Lib.hid hX
 go_loopw [9, 10] (fun s9 s10 wr => ∃ lo hi : Nat, s9 = .int .i64 lo ∧ s10 = .int .i64 hi ∧ lo ≤ hi ∧ hi ≤ n ∧ Hid (TBox w wr o) ∧ Hid (Parts o l lo hi)) (fun s9 s10 _ => (intOf s10 - intOf s9).toNat)
 case atStart => exact ⟨0, n, rfl, rfl, Nat.zero_le _, Nat.le_refl _, HX, HS⟩
 case round =>
  clear HX hX HS
  obtain ⟨lo, hi, rfl, rfl, hlh, hin, HT, HI⟩ := hrel
  by_cases hlt : lo < hi
  ·obtain ⟨m, hmd⟩ : ∃ m, m = (lo + hi) / 2 := ⟨_, rfl⟩
   have hm1 : lo ≤ m ∧ m < hi := by omega
   have hme : ((lo : Int) + (hi : Int)) / 2 = (m : Int) := by omega
   obtain ⟨hm1, hm2⟩ := hm1
   clear hmd
   have hmn : m < n := by omega
   have hmi0 : (0 : Int) ≤ (m : Int) := by omega
   have hmi1 : (m : Int) < (n : Int) := by omega
   have hml : m < l.length := by have := HN.out; omega
   obtain ⟨b, off, rfl, hb, c⟩ := HP.out m hml
   have HU := Lib.hid (fun h => HI.out.up HM.out hm2 hml h)
   have HD := Lib.hid (fun h => HI.out.down HM.out hm1 hml h)
   have HC1 := Lib.hid (fun W => HC.out l[m] W)
   have H1 := HT.out.held hb c
   clear c
   generalize l[m] = a at *
   obtain ⟨c, hce⟩ : ∃ c, Hid (c = cmpOp a o) := ⟨_, Lib.hid rfl⟩
   rw [← hce.out] at HU HD HC1
   go_wp2_with ((with_reducible refine at_shr ?_); refine wpList_half rfl _ _ rfl _ _ rfl rfl hme ?_)
   go_region_held3 (fun w' => w'.cell? ⟨w.heap.size, 0, none⟩ = some (.string o.name) ∧ w'.cell? ⟨w.heap.size, 1, none⟩ = some (.int .i64 o.typ) ∧ w'.cell? ⟨w.heap.size, 2, none⟩ = some (.int .i64 o.prec) ∧ w'.cell? ⟨b, off + m * 3, none⟩ = some (.string a.name) ∧ w'.cell? ⟨b, off + m * 3 + 1, none⟩ = some (.int .i64 a.typ) ∧ w'.cell? ⟨b, off + m * 3 + 2, none⟩ = some (.int .i64 a.prec) ∧ BHeld w w' o a b (off + m * 3))
    (first | with_reducible exact H1.drew.keep | with_reducible exact BHeld.keep (BHeld.of (by with_reducible assumption)) | with_reducible exact BHeld.keep (BHeld.call (by with_reducible assumption) (BHeld.of (by with_reducible assumption))))
    (first | (go_at_call 101; (with_reducible refine (HC1.out _).mono ?_); rintro e w2 ⟨rfl, hB2⟩))
   all_goals have HTn : Hid (TBox w w2 o) := Lib.hid (BHeld.box (BHeld.of (by with_reducible assumption)))
   by_cases hcc : c < 0
   ·go_wp2_with fail
    go_roundw
    case rel => exact ⟨m + 1, hi, by go_num, rfl, by omega, hin, HTn, Lib.hid (HU.out hcc)⟩
    case measure => simp [intOf] <;> omega
   ·go_wp2_with fail
    go_roundw
    case rel => exact ⟨lo, m, rfl, rfl, by omega, by omega, HTn, Lib.hid (HD.out (by omega))⟩
    case measure => simp [intOf] <;> omega
  ·obtain rfl : hi = lo := by omega
   by_cases hlo : hi < n
   ·have hil : hi < l.length := by have := HN.out; omega
    obtain ⟨b, off, rfl, hb, c⟩ := HP.out hi hil
    have HC1 := Lib.hid (fun W => HC.out l[hi] W)
    have H1 := HT.out.held hb c
    clear c
    generalize l[hi] = a at *
    obtain ⟨c, hce⟩ : ∃ c, Hid (c = cmpOp a o) := ⟨_, Lib.hid rfl⟩
    rw [← hce.out] at HC1
    have hmi0 : (0 : Int) ≤ (hi : Int) := by omega
    have hmi1 : (hi : Int) < (n : Int) := by omega
    go_wp2_with fail
    go_region_held3 (fun w' => w'.cell? ⟨w.heap.size, 0, none⟩ = some (.string o.name) ∧ w'.cell? ⟨w.heap.size, 1, none⟩ = some (.int .i64 o.typ) ∧ w'.cell? ⟨w.heap.size, 2, none⟩ = some (.int .i64 o.prec) ∧ w'.cell? ⟨b, off + hi * 3, none⟩ = some (.string a.name) ∧ w'.cell? ⟨b, off + hi * 3 + 1, none⟩ = some (.int .i64 a.typ) ∧ w'.cell? ⟨b, off + hi * 3 + 2, none⟩ = some (.int .i64 a.prec) ∧ BHeld w w' o a b (off + hi * 3))
     (first | with_reducible exact H1.drew.keep | with_reducible exact BHeld.keep (BHeld.of (by with_reducible assumption)) | with_reducible exact BHeld.keep (BHeld.call (by with_reducible assumption) (BHeld.of (by with_reducible assumption))))
     (first | (go_at_call 101; (with_reducible refine (HC1.out _).mono ?_); rintro e w2 ⟨rfl, hB2⟩))
    all_goals have hbf := BHeld.bel (BHeld.of (by with_reducible assumption))
    all_goals have HPs := HI.out
    all_goals go_wp2_with fail
    all_goals go_ret2
    all_goals exact ⟨hi, c == 0, rfl, HPs, hbf⟩
   ·obtain rfl : hi = n := by omega
    go_wp2_with fail
    go_quiet (fail)
    have hbf := bl_drewN HT.out.bel nq
    have HPs := HI.out
    go_wp2_with fail
    go_ret2
    exact ⟨hi, false, rfl, HPs, hbf⟩
end Go.Proofs.YtfkhcpeahdkafaaGreat
namespace Hb
open Go Go.RowKit
def eqOp (o a : OpR) : Bool := cmpOp a o == 0
def restL (o : OpR) (l : List OpR) : List OpR := l.filter fun a => !eqOp o a
theorem opsCells_take : ∀ (l : List OpR) (i : Nat), (opsCells l).take (i * 3) = opsCells (l.take i)
 | [], i => by simp [opsCells]
 | p :: l, 0 => by simp [opsCells]
 | p :: l, i + 1 => by
  have e : opsCells (p :: l) = .string p.name :: .int .i64 p.typ :: .int .i64 p.prec :: opsCells l := rfl
  rw [e, show (i + 1) * 3 = i * 3 + 3 by omega, List.take_succ_cons, List.take_succ_cons, List.take_succ_cons, opsCells_take l i]
  rfl
theorem opsCells_set : ∀ (l : List OpR) (i : Nat) (o : OpR), ((((opsCells l).set (i * 3) (.string o.name)).set (i * 3 + 1) (.int .i64 o.typ)).set (i * 3 + 2) (.int .i64 o.prec)) = opsCells (l.set i o)
 | [], i, o => by simp [opsCells]
 | p :: l, 0, o => rfl
 | p :: l, i + 1, o => by
  have e : opsCells (p :: l) = .string p.name :: .int .i64 p.typ :: .int .i64 p.prec :: opsCells l := rfl
  have e2 : opsCells ((p :: l).set (i + 1) o) = .string p.name :: .int .i64 p.typ :: .int .i64 p.prec :: opsCells (l.set i o) := rfl
  rw [e, e2, ← opsCells_set l i o, show (i + 1) * 3 = i * 3 + 3 by omega]
  rfl
theorem stored3 {w : World} {base e n g cap : Nat} {l : List OpR} (h : w.ownsRow base e 3 (.slice (some ⟨g, 0, none⟩) n cap) n (opsCells l)) (i : Nat) (o : OpR) :
  (((w.setCell ⟨g, i * 3, none⟩ (.string o.name)).setCell ⟨g, i * 3 + 1, none⟩ (.int .i64 o.typ)).setCell ⟨g, i * 3 + 2, none⟩ (.int .i64 o.prec)).ownsRow base e 3 (.slice (some ⟨g, 0, none⟩) n cap) n (opsCells (l.set i o)) := by
 have h3 := (((h.stored (i * 3) (.string o.name)).1.stored (i * 3 + 1) (.int .i64 o.typ)).1.stored (i * 3 + 2) (.int .i64 o.prec)).1
 rw [opsCells_set] at h3
 exact h3
theorem filt_yes (q : OpR → Bool) (l : List OpR) (j : Nat) (hj : j < l.length) (h : q l[j] = true) : (l.take (j + 1)).filter q = (l.take j).filter q ++ [l[j]] := by
 rw [List.take_succ_eq_append_getElem hj, List.filter_append]; simp [h]
theorem filt_no (q : OpR → Bool) (l : List OpR) (j : Nat) (hj : j < l.length) (h : q l[j] = false) : (l.take (j + 1)).filter q = (l.take j).filter q := by
 rw [List.take_succ_eq_append_getElem hj, List.filter_append]; simp [h]
theorem own_len {w : World} {base e n : Nat} {v : Value} {l : List OpR} (h : w.ownsRow base e 3 v n (opsCells l)) : l.length = n := by
 have := h.1; rw [opsCells_len] at this; omega
theorem own_belowO {w w' : World} {base e n : Nat} {v : Value} {xs : List Value} (h : w.ownsRow base e 3 v n xs) (hB : Below w.heap.size w w') : w'.ownsRow base e 3 v n xs := by
 refine ⟨h.1, ?_⟩
 rcases h.2 with hn | ⟨g, cap, cur, hv, hb, hg, rest⟩
 ·exact .inl hn
 ·refine .inr ⟨g, cap, cur, hv, hb, ?_, rest⟩
  have hlt : g < w.heap.size := (Array.getElem?_eq_some_iff.1 hg).1
  rw [← hg]; exact hB.block g hlt
structure Done (q : OpR → Bool) (l L : List OpR) (i j : Nat) : Prop where
 len : L.length = l.length
 le : i < j
 jl : j ≤ l.length
 pre : L.take i = (l.take j).filter q
 post : L.drop j = l.drop j
theorem Done.start {q : OpR → Bool} {l : List OpR} {k : Nat} (hk : k < l.length) (h : q l[k] = false) (hb : ∀ j (hj : j < k), q (l[j]'(by omega)) = true) : Done q l l k (k + 1) where
 len := rfl
 le := by omega
 jl := hk
 pre := by
  rw [filt_no q l k hk h]
  refine (List.filter_eq_self.2 fun a ha => ?_).symm
  obtain ⟨j, hj, rfl⟩ := List.getElem_of_mem ha
  rw [List.length_take] at hj
  rw [List.getElem_take]
  exact hb j (by omega)
 post := rfl
theorem Done.no {q : OpR → Bool} {l L : List OpR} {i j : Nat} (h : Done q l L i j) (hj : j < l.length) (hq : q l[j] = false) : Done q l L i (j + 1) where
 len := h.len
 le := by have := h.le; omega
 jl := hj
 pre := by rw [filt_no q l j hj hq]; exact h.pre
 post := by rw [← List.drop_drop, h.post, List.drop_drop]
theorem Done.yes {q : OpR → Bool} {l L : List OpR} {i j : Nat} (h : Done q l L i j) (hj : j < l.length) (hq : q l[j] = true) : Done q l (L.set i l[j]) (i + 1) (j + 1) where
 len := by rw [List.length_set]; exact h.len
 le := by have := h.le; omega
 jl := hj
 pre := by
  have hi : i < L.length := by have := h.le; have := h.len; omega
  rw [filt_yes q l j hj hq, ← h.pre, List.take_succ_eq_append_getElem (by rw [List.length_set]; exact hi), List.take_set_of_le (Nat.le_refl i), List.getElem_set_self]
 post := by rw [List.drop_set_of_lt (by have := h.le; omega), ← List.drop_drop, h.post, List.drop_drop]
theorem Done.at {q : OpR → Bool} {l L : List OpR} {i j : Nat} (h : Done q l L i j) (hj : j < l.length) (hj2 : j < L.length) : L[j] = l[j] := by
 have : (L.drop j)[0]? = (l.drop j)[0]? := by rw [h.post]
 rw [List.getElem?_drop, List.getElem?_drop, Nat.add_zero, List.getElem?_eq_getElem hj, List.getElem?_eq_getElem hj2] at this
 exact Option.some.inj this
theorem Done.last {q : OpR → Bool} {l L : List OpR} {i : Nat} (h : Done q l L i l.length) : L.take i = l.filter q := by rw [h.pre, List.take_length]
end Hb
namespace Go.Proofs.YtfkhcpeahdkafaaGreat
open Go.RowKit Hb
set_option maxRecDepth 100000
theorem set_1 (a o : OpR) (g1 : Nat) (w : World) (n0 : w.cell? ⟨g1, 0, none⟩ = some (.string o.name)) (n1 : w.cell? ⟨g1, 1, none⟩ = some (.int .i64 o.typ)) (n2 : w.cell? ⟨g1, 2, none⟩ = some (.int .i64 o.prec)) (_l1 : g1 < w.heap.size) :
  Calls Tryz.prog 189 #[opV a, .pointer (some ⟨g1, 0, none⟩)] w fun e w' => e = .returned (.bool (eqOp o a)) ∧ Below w.heap.size w w' := by
 have HC := Lib.hid (fun W => op_compare a o W)
 unfold opV at *
 have HS := Lib.hid (show eqOp o a = (cmpOp a o == 0) from rfl)
 have hB0 := (Below.refl w.heap.size w).alloc (Nat.le_refl _) (.cells #[.string a.name, .int .i64 a.typ, .int .i64 a.prec] 82)
 have m0 := (World.grownBy_alloc w (.cells #[.string a.name, .int .i64 a.typ, .int .i64 a.prec] 82) none).cell n0 (by simp)
 have m1 := (World.grownBy_alloc w (.cells #[.string a.name, .int .i64 a.typ, .int .i64 a.prec] 82) none).cell n1 (by simp)
 have m2 := (World.grownBy_alloc w (.cells #[.string a.name, .int .i64 a.typ, .int .i64 a.prec] 82) none).cell n2 (by simp)
 generalize cmpOp a o = c at *
 go_enter Tryz.func189, Tryz.ntmps189
 go_wp2_with fail
 refine (HC.out _).mono ?_; rintro e w1 ⟨rfl, hB1⟩
 go_wp2_with fail
 go_ret
 exact ⟨ret_bool HS.out.symm, hB0.trans (hB1.mono (by simp))⟩
set_option maxHeartbeats 1600000 in
theorem ops_index2 (A : Option Addr) (n cap : Nat) (l : List OpR) (g1 : Nat) (o : OpR) (w : World) (hn : n = l.length) (hm : n ≤ 400) (hp : OpsAt w A l) (n0 : w.cell? ⟨g1, 0, none⟩ = some (.string o.name)) (n1 : w.cell? ⟨g1, 1, none⟩ = some (.int .i64 o.typ)) (n2 : w.cell? ⟨g1, 2, none⟩ = some (.int .i64 o.prec)) (l1 : g1 < w.heap.size) :
  Calls Tryz.prog 205 #[.slice A n cap, .func (.func 189) #[] #[.pointer (some ⟨g1, 0, none⟩)]] w fun e w' => e = .returned (.int .i64 (idxI (eqOp o) l)) ∧ Below w.heap.size w w' := by
 have HN := Lib.hid hn
 have HP := Lib.hid hp
 clear hn hp
 go_enter Tryz.func205, Tryz.ntmps205
 go_wp2_with fail
 go_loopw [8] (fun i wr => ∃ k : Nat, k ≤ n ∧ i = .int .i64 k ∧ Below w.heap.size w wr ∧ Hid (∀ j (hj : j < l.length), j < k → eqOp o l[j] = false)) (fun i _ => n - (intOf i).toNat)
 case atStart => exact ⟨0, Nat.zero_le _, rfl, Below.refl _ _, fun j _ hj => absurd hj (by omega)⟩
 case round =>
  obtain ⟨k, hk, rfl, hB, HA⟩ := hrel
  by_cases hlt : k < n
  ·have hbs := hB.size
   have hkl : k < l.length := by have := HN.out; omega
   obtain ⟨b, off, rfl, hb, c0, c1, c2⟩ := (HP.out.below hB) k hkl
   have HH := Lib.hid (fun h => idxI_hit (eqOp o) l k hkl h (fun j hj => HA.out j (by omega) hj))
   have HC := Lib.hid (set_1 l[k] o g1 wr ((hB.cell (p := ⟨g1, 0, none⟩) l1).trans n0) ((hB.cell (p := ⟨g1, 1, none⟩) l1).trans n1) ((hB.cell (p := ⟨g1, 2, none⟩) l1).trans n2) (Nat.lt_of_lt_of_le l1 hbs))
   have HR := Lib.hid (fun (h : eqOp o l[k] = false) => (show ∀ j (hj : j < l.length), j < k + 1 → eqOp o l[j] = false from fun j hj hjk => by
    rcases Nat.lt_or_ge j k with h' | h'
    ·exact HA.out j hj h'
    ·have : j = k := by omega
     subst this; exact h))
   generalize l[k] = a at *
   unfold opV at HC
   cases hi : eqOp o a
   ·rw [hi] at HC
    have HI := Lib.hid hi
    clear hi
    go_wp2_with fail
    refine HC.out.mono ?_; rintro e w1 ⟨rfl, hB1⟩
    go_wp2_with fail
    go_roundw
    case rel => exact ⟨k + 1, by omega, by go_num, hB.trans (hB1.mono hbs), HR.out HI.out⟩
    case measure => simp [intOf] <;> omega
   ·rw [hi] at HC
    have HI := Lib.hid hi
    clear hi
    go_wp2_with fail
    refine HC.out.mono ?_; rintro e w1 ⟨rfl, hB1⟩
    go_wp2_with fail
    go_ret
    exact ⟨ret_int (HH.out HI.out).symm, hB.trans (hB1.mono hbs)⟩
  ·obtain rfl : k = n := by omega
   have HM := Lib.hid (idxI_miss (eqOp o) l (fun j hj => HA.out j hj (by have := HN.out; omega)))
   go_wp2_with fail
   go_ret
   exact ⟨ret_int HM.out.symm, hB⟩
theorem zero_len (k : Nat) : (Builtin.zeroCells (Value.agg #[.string ⟨#[]⟩, .int .i64 0, .int .i64 0]).cells k).toList.length = k * 3 := by
 rw [Array.length_toList, size_zeroCells]; rfl
theorem zero_size (k : Nat) : (Builtin.zeroCells (Value.agg #[.string ⟨#[]⟩, .int .i64 0, .int .i64 0]).cells k).size = k * 3 := by
 rw [size_zeroCells]; rfl
theorem zero_one (k : Nat) : ∀ u ∈ (Builtin.zeroCells (Value.agg #[.string ⟨#[]⟩, .int .i64 0, .int .i64 0]).cells k).toList, u.oneCell' = true := by
 intro u hu
 obtain ⟨j, hj, rfl⟩ := List.getElem_of_mem hu
 simp [Builtin.zeroCells, Value.cells]
 have : j % 3 = 0 ∨ j % 3 = 1 ∨ j % 3 = 2 := by omega
 rcases this with h | h | h <;> simp [h, Value.oneCell']
theorem at_clear {ops : Array Oper} {rest : List Oper} {a : Act} {Q : Exit → Act → World → Prop} {w : World} {d t p f x g} (h : wpList Tryz.prog ops Q (⟨d, .call { callee := .builtin .clear, args := x, argTypes := #[40] }, t, p, f, g⟩ :: rest) a w) : wpList Tryz.prog ops Q (⟨d, .call { callee := .builtin .clear, args := x, argTypes := #[40] }, t, p, f, g⟩ :: rest) a w := h
theorem wpList_clear_op {w : World} {ops : Array Oper} {rest : List Oper} {o : Oper} {a : Act} {Q : Exit → Act → World → Prop} (hgd : o.guard = none) (x : Operand)
  (ho : o.op = .call { callee := .builtin .clear, args := #[x], argTypes := #[40] })
  (base g n cap i z c : Nat) (L : List OpR) (hown : w.ownsRow base 82 3 (.slice (some ⟨g, 0, none⟩) n cap) n (opsCells L)) (hi : i < n) (hz : z = 0) (hx : a.eval x = .slice (some ⟨g, z + i * 3, none⟩) (n - i) c)
  (h : ∀ w', w'.ownsRow base 82 3 (.slice (some ⟨g, 0, none⟩) i cap) i (opsCells (L.take i)) → (∀ B w0, Below B w0 w → B ≤ base → Below B w0 w') → wpList Tryz.prog ops Q rest (a.put o.dst (.tuple #[])) w') : wpList Tryz.prog ops Q (o :: rest) a w := by
 subst hz
 rw [Nat.zero_add] at hx
 refine wpList_plain hgd fun K hK => ?_
 have hlen := own_len hown
 rcases hown.2 with ⟨hv, _⟩ | ⟨g', cap', cur, hv, hb, hg, hnc, hcm, hcs, htake⟩
 ·cases hv
 ·injection hv with h1 h2 h3
  injection h1 with h1
  injection h1 with h1 _ _
  subst h1; subst h3
  have hst := run_storeCells_at Tryz.prog g (i * 3) 82 (Builtin.zeroCells (Value.agg #[.string ⟨#[]⟩, .int .i64 0, .int .i64 0]).cells (n - i)).toList 0 cur w hg (by rw [zero_len, hcs]; omega) (zero_one _)
  rw [Nat.add_zero] at hst
  obtain ⟨m, hm⟩ : ∃ m, n - i = m + 1 := ⟨n - i - 1, by omega⟩
  have hrun : (Builtin.clear_ #[40] o.type #[.slice (some ⟨g, i * 3, none⟩) (n - i) c]).run Tryz.prog w = .ok (.tuple #[]) (w.setRow g (cur.toList.take (i * 3) ++ (Builtin.zeroCells (Value.agg #[.string ⟨#[]⟩, .int .i64 0, .int .i64 0]).cells (n - i)).toList ++ cur.toList.drop (i * 3 + (Builtin.zeroCells (Value.agg #[.string ⟨#[]⟩, .int .i64 0, .int .i64 0]).cells (n - i)).toList.length)).toArray) := by
   rw [hm] at hst ⊢
   simp [Builtin.clear_, run_underlying Tryz.underlying40, hst]
  unfold Oper.wp
  simp only [execOp, ho, resolve, invoke, builtin, Sem.run_bind, Sem.run_pure, Result.andThen_ok, List.map_toArray, List.map_cons, List.map_nil, hx, hrun]
  refine hK _ _ (h _ ⟨by rw [opsCells_len, List.length_take]; omega, .inr ⟨g, cap, _, rfl, hb, setRow_heap w g _ _ _ _ hg, by omega, hcm, ?_, ?_⟩⟩ fun B w0 hB hbb => below_setRow hB (Nat.le_trans hbb hb) _)
  ·simp only [List.size_toArray, List.length_append, List.length_take, List.length_drop, Array.length_toList, zero_size, hcs]
   omega
  ·rw [← opsCells_take, ← htake, List.take_take, List.take_append_of_le_length (by simp only [List.length_append, List.length_take, Array.length_toList, hcs]; omega), List.take_append_of_le_length (by simp only [List.length_take, Array.length_toList, hcs]; omega), List.take_take]
   congr 1; omega
set_option maxHeartbeats 3200000 in
theorem ops_delete (A : Option Addr) (n cap : Nat) (l : List OpR) (o : OpR) (g1 base : Nat) (w : World) (hm : n ≤ 400) (hown : w.ownsRow base 82 3 (.slice A n cap) n (opsCells l)) (hg1 : g1 < base) (hbw : base ≤ w.heap.size) (n0 : w.cell? ⟨g1, 0, none⟩ = some (.string o.name)) (n1 : w.cell? ⟨g1, 1, none⟩ = some (.int .i64 o.typ)) (n2 : w.cell? ⟨g1, 2, none⟩ = some (.int .i64 o.prec)) :
  Calls Tryz.prog 188 #[.slice A n cap, .func (.func 189) #[] #[.pointer (some ⟨g1, 0, none⟩)]] w fun e w' => ∃ n', e = .returned (.slice A n' cap) ∧ Below base w w' ∧ w'.ownsRow base 82 3 (.slice A n' cap) n' (opsCells (restL o l)) := by
 have hnl := own_len hown
 have HI := Lib.hid (ops_index2 A n cap l g1 o w hnl.symm hm (ops_own hown) n0 n1 n2 (by omega))
 by_cases hex : ∃ k, ∃ hk : k < l.length, eqOp o l[k] = true ∧ ∀ j (hj : j < k), eqOp o (l[j]'(by omega)) = false
 ·obtain ⟨k, hkl, h1, h2⟩ := hex
  have HD := Lib.hid (Done.start (q := fun a => !eqOp o a) hkl (by simp [h1]) (fun j hj => by simp [h2 j hj]))
  rw [idxI_hit _ l k hkl h1 h2] at HI
  obtain ⟨g, cap', hAA⟩ := own_some hown (by omega)
  injection hAA with hA _ hc
  subst hA; subst hc
  have hcap : n ≤ cap ∧ cap ≤ maxLen := by
   rcases hown.2 with ⟨hv, _⟩ | ⟨g', cap', cur, hv, _, _, h5, h6, _⟩
   ·cases hv
   ·injection hv with _ _ h3; subst h3; exact ⟨h5, h6⟩
  have hgb : base ≤ g := (hown.lt g rfl).1
  obtain ⟨hcap1, hcap2⟩ := hcap
  unfold maxLen at hcap2
  have HO := Lib.hid hown
  have HNL := Lib.hid hnl
  have hkn : k < n := by omega
  clear hown h1 h2 hnl hkl
  obtain ⟨z, HZ⟩ : ∃ z, Hid (z = 0) := ⟨0, Lib.hid rfl⟩
  have HZ' := Lib.hid (show (⟨g, 0, none⟩ : Addr) = ⟨g, z, none⟩ by rw [HZ.out])
  rw [HZ'.out] at HI ⊢
  have HQ := Lib.hid (show restL o l = l.filter (fun a => !eqOp o a) from rfl)
  go_enter Tryz.func188, Tryz.ntmps188
  go_wp2_with fail
  refine HI.out.mono ?_; rintro e w1 ⟨rfl, hB1⟩
  have hkm : ((k : Int) == -1) = false := by rw [beq_eq_false_iff_ne]; omega
  go_wp2_with fail
  have hO1 := own_belowO HO.out hB1
  have hB1' := hB1.mono hbw
  have hw1 := hB1.size
  have HN1 := Lib.hid (⟨(hB1.cell (p := ⟨g1, 0, none⟩) (by show g1 < _; omega)).trans n0, (hB1.cell (p := ⟨g1, 1, none⟩) (by show g1 < _; omega)).trans n1, (hB1.cell (p := ⟨g1, 2, none⟩) (by show g1 < _; omega)).trans n2⟩ : w1.cell? ⟨g1, 0, none⟩ = some (.string o.name) ∧ w1.cell? ⟨g1, 1, none⟩ = some (.int .i64 o.typ) ∧ w1.cell? ⟨g1, 2, none⟩ = some (.int .i64 o.prec))
  clear n0 n1 n2
  go_loopw [5, 6] (fun vi vj wr => ∃ i j : Nat, vi = .int .i64 i ∧ vj = .int .i64 j ∧ Below base w wr ∧ w1.heap.size ≤ wr.heap.size ∧ Below base w1 wr ∧ Hid (∃ L, Done (fun a => !eqOp o a) l L i j ∧ wr.ownsRow base 82 3 (.slice (some ⟨g, 0, none⟩) n cap) n (opsCells L))) (fun _ vj _ => n - (intOf vj).toNat)
  case atStart => exact ⟨k, k + 1, rfl, by go_num, hB1', Nat.le_refl _, Below.refl _ _, l, HD.out, hO1⟩
  case round =>
   obtain ⟨i, j, rfl, rfl, hB, hsz, hBr, HL⟩ := hrel
   have hij : i < j ∧ j ≤ n := by
    obtain ⟨L, hd, _⟩ := HL.out
    have h1 := hd.le; have h2 := hd.jl; have h3 := HNL.out
    exact ⟨h1, by omega⟩
   obtain ⟨hij1, hij2⟩ := hij
   by_cases hlt : j < n
   ·have hjl : j < l.length := by have := HNL.out; omega
    have HLJ : Hid (wr.cell? ⟨g, z + j * 3, none⟩ = some (.string l[j].name) ∧ wr.cell? ⟨g, z + j * 3 + 1, none⟩ = some (.int .i64 l[j].typ) ∧ wr.cell? ⟨g, z + j * 3 + 2, none⟩ = some (.int .i64 l[j].prec)) := by
     obtain ⟨L, hd, ho⟩ := HL.out
     have h5 : j < L.length := by rw [hd.len]; exact hjl
     have h6 := (own_in ho) j h5
     rw [hd.at hjl h5] at h6
     rw [HZ.out]
     exact Lib.hid h6
    have HC := Lib.hid (fun (W : World) (hW : Below base w1 W) (hs : w1.heap.size ≤ W.heap.size) => set_1 l[j] o g1 W ((hW.cell (p := ⟨g1, 0, none⟩) hg1).trans HN1.out.1) ((hW.cell (p := ⟨g1, 1, none⟩) hg1).trans HN1.out.2.1) ((hW.cell (p := ⟨g1, 2, none⟩) hg1).trans HN1.out.2.2) (by omega))
    have HY := Lib.hid (fun (h : eqOp o l[j] = false) => (show ∀ L, Done (fun a => !eqOp o a) l L i j → Done (fun a => !eqOp o a) l (L.set i l[j]) (i + 1) (j + 1) from fun L hd => hd.yes hjl (by simp [h])))
    have HX := Lib.hid (fun (h : eqOp o l[j] = true) => (show ∀ L, Done (fun a => !eqOp o a) l L i j → Done (fun a => !eqOp o a) l L i (j + 1) from fun L hd => hd.no hjl (by simp [h])))
    generalize l[j] = a at *
    unfold opV at HC
    obtain ⟨c0, c1, c2⟩ := HLJ.out
    have hgr : g < wr.heap.size := by obtain ⟨L, hd, ho⟩ := HL.out; exact (ho.lt g rfl).2
    have hbr : base ≤ wr.heap.size := by omega
    have hBx := (Below.refl wr.heap.size wr).alloc (Nat.le_refl _) (.cells #[.string a.name, .int .i64 a.typ, .int .i64 a.prec] 82)
    cases hi : eqOp o a
    ·rw [hi] at HC
     have HI2 := Lib.hid hi
     clear hi
     go_wp2_with fail
     refine (HC.out _ (hBr.trans (hBx.mono hbr)) (Nat.le_trans hsz hBx.size)).mono ?_; rintro e w2 ⟨rfl, hB2⟩
     have x0 : w2.cell? ⟨wr.heap.size, 0, none⟩ = some (.string a.name) := (hB2.cell (p := ⟨_, _, none⟩) (by simp)).trans (World.cell?_alloc_new _ _ _ 0)
     have x1 : w2.cell? ⟨wr.heap.size, 1, none⟩ = some (.int .i64 a.typ) := (hB2.cell (p := ⟨_, _, none⟩) (by simp)).trans (World.cell?_alloc_new _ _ _ 1)
     have x2 : w2.cell? ⟨wr.heap.size, 2, none⟩ = some (.int .i64 a.prec) := (hB2.cell (p := ⟨_, _, none⟩) (by simp)).trans (World.cell?_alloc_new _ _ _ 2)
     have hB3 : Below wr.heap.size wr w2 := hBx.trans (hB2.mono (by simp))
     have HL2 : Hid (∃ L, Done (fun a => !eqOp o a) l L i j ∧ w2.ownsRow base 82 3 (.slice (some ⟨g, 0, none⟩) n cap) n (opsCells L)) := by
      obtain ⟨L, hd, ho⟩ := HL.out
      exact Lib.hid ⟨L, hd, own_belowO ho hB3⟩
     have hin : i < n := by omega
     have HYc : ∃ v0 v1 v2, w2.cell? ⟨g, z + i * 3, none⟩ = some v0 ∧ w2.cell? ⟨g, z + i * 3 + 1, none⟩ = some v1 ∧ w2.cell? ⟨g, z + i * 3 + 2, none⟩ = some v2 ∧ ∀ q, w2.frozen? ⟨g, q, none⟩ = false := by
      obtain ⟨L, hd, ho⟩ := HL2.out
      have h5 : i < L.length := by have := own_len ho; omega
      obtain ⟨h6, h7, h8⟩ := (own_in ho) i h5
      rw [HZ.out]
      exact ⟨_, _, _, h6, h7, h8, ho.frozenAt⟩
     obtain ⟨v0, v1, v2, y0, y1, y2, hfr⟩ := HYc
     go_wp2_with fail
     go_roundw
     case rel =>
      have hbx : Below base w2 (((w2.setCell ⟨g, z + i * 3, none⟩ (.string a.name)).setCell ⟨g, z + i * 3 + 1, none⟩ (.int .i64 a.typ)).setCell ⟨g, z + i * 3 + 2, none⟩ (.int .i64 a.prec)) := (((Below.refl base w2).setCell (p := ⟨_, _, none⟩) hgb _).setCell (p := ⟨_, _, none⟩) hgb _).setCell (p := ⟨_, _, none⟩) hgb _
      refine ⟨i + 1, j + 1, by go_num, by go_num, (hB.trans (hB3.mono hbr)).trans hbx, Nat.le_trans (Nat.le_trans hsz hB3.size) hbx.size, (hBr.trans (hB3.mono hbr)).trans hbx, ?_⟩
      obtain ⟨L, hd, ho⟩ := HL2.out
      refine Lib.hid ⟨L.set i a, HY.out HI2.out L hd, ?_⟩
      rw [HZ.out, Nat.zero_add]
      exact stored3 ho i a
     case measure => simp [intOf] <;> omega
    ·rw [hi] at HC
     have HI2 := Lib.hid hi
     clear hi
     go_wp2_with fail
     refine (HC.out _ (hBr.trans (hBx.mono hbr)) (Nat.le_trans hsz hBx.size)).mono ?_; rintro e w2 ⟨rfl, hB2⟩
     have hB3 : Below wr.heap.size wr w2 := hBx.trans (hB2.mono (by simp))
     go_wp2_with fail
     go_roundw
     case rel =>
      refine ⟨i, j + 1, rfl, by go_num, hB.trans (hB3.mono hbr), Nat.le_trans hsz hB3.size, hBr.trans (hB3.mono hbr), ?_⟩
      obtain ⟨L, hd, ho⟩ := HL.out
      exact Lib.hid ⟨L, HX.out HI2.out L hd, own_belowO ho hB3⟩
     case measure => simp [intOf] <;> omega
   ·have hjn : j = n := by omega
    subst hjn
    have hgr : g < wr.heap.size := by obtain ⟨L, hd, ho⟩ := HL.out; exact (ho.lt g rfl).2
    obtain ⟨L, HLL⟩ : ∃ L, Hid (Done (fun a => !eqOp o a) l L i j ∧ wr.ownsRow base 82 3 (.slice (some ⟨g, 0, none⟩) j cap) j (opsCells L)) := HL.out.imp fun _ h => Lib.hid h
    have hci : ¬ (cap = i) := by omega
    have hic : i ≤ cap := by omega
    have HLast : Hid (L.take i = restL o l) := by
     have hdl := HLL.out.1
     rw [← HNL.out] at hdl
     exact Lib.hid hdl.last
    go_wp2_with ((with_reducible refine at_clear ?_); refine wpList_clear_op rfl _ rfl base g _ cap i z _ L HLL.out.2 hij1 HZ.out rfl ?_; intro w2 ho2 hB2)
    rw [HLast.out] at ho2
    have HO2 := Lib.hid ho2
    clear ho2
    go_ret
    first | exact ⟨i, rfl, hB2 _ _ hB (Nat.le_refl _), by rw [← HZ'.out]; exact HO2.out⟩ | exact ⟨hB2 _ _ hB (Nat.le_refl _), by rw [← HZ'.out]; exact HO2.out⟩
 ·have hno : ∀ j (hj : j < l.length), eqOp o l[j] = false := by
   intro j
   induction j using Nat.strongRecOn with
   | ind j ih =>
    intro hj
    cases hc : eqOp o l[j] with
    | false => rfl
    | true => exact absurd ⟨j, hj, hc, fun i hi => ih i hi (by omega)⟩ hex
  rw [idxI_miss _ l hno] at HI
  have HR := Lib.hid (show restL o l = l from List.filter_eq_self.2 fun a ha => by
   obtain ⟨j, hj, rfl⟩ := List.getElem_of_mem ha
   simp [hno j hj])
  have HO := Lib.hid hown
  clear hno hex hown hnl
  go_enter Tryz.func188, Tryz.ntmps188
  go_wp2_with fail
  refine HI.out.mono ?_; rintro e w1 ⟨rfl, hB1⟩
  have HO1 := Lib.hid (own_belowO HO.out hB1)
  go_wp2_with fail
  go_ret
  first | exact ⟨n, rfl, hB1.mono hbw, by rw [HR.out]; exact HO1.out⟩ | exact ⟨hB1.mono hbw, by rw [HR.out]; exact HO1.out⟩
end Go.Proofs.YtfkhcpeahdkafaaGreat
namespace Hb
open Go Go.RowKit Go.Sort Go.Proofs
theorem cmp_bef (a b : OpR) : cmpOp a b < 0 ↔ befOp a b = true := by rw [befOp_cmp]; simp
theorem bef_trans {a b c : OpR} (h1 : befOp a b = true) (h2 : befOp b c = true) : befOp a c = true := by
 have := swo_op.trans a b c
 rw [ltOf_bef, ltOf_bef, ltOf_bef] at this
 exact this h1 h2
theorem bef_irrefl (a : OpR) : befOp a a = false := by
 have := swo_op.irrefl a
 rw [ltOf_bef] at this
 exact this
theorem bef_asymm {a b : OpR} (h : befOp a b = true) : befOp b a = false := by
 rw [← Bool.not_eq_true]
 intro h2
 have := bef_trans h h2
 rw [bef_irrefl] at this
 cases this
theorem eqOp_iff (o a : OpR) : eqOp o a = true ↔ a.name.toList = o.name.toList ∧ clsOp a.typ = clsOp o.typ := by
 unfold eqOp cmpOp orI cmpS
 by_cases h : a.name.toList = o.name.toList
 ·rw [h, bytesLess_irrefl]
  simp [cmpN_zero]
 ·have h2 : (a.name.toList == o.name.toList) = false := by simpa using h
  rw [h2]
  cases h3 : Op.bytesLess a.name.toList o.name.toList <;> simp [h]
theorem bef_tri {a o : OpR} (h1 : befOp a o = false) (h2 : eqOp o a = false) : befOp o a = true := by
 rw [← Bool.not_eq_true, befOp_iff] at h1
 rw [← Bool.not_eq_true, eqOp_iff] at h2
 rw [befOp_iff]
 have a1 : o.name.toList ≤ a.name.toList := fun h => h1 (.inl h)
 by_cases he : a.name.toList = o.name.toList
 ·have c1 : ¬clsOp a.typ < clsOp o.typ := fun h => h1 (.inr ⟨he, h⟩)
  have c2 : ¬clsOp a.typ = clsOp o.typ := fun h => h2 ⟨he, h⟩
  exact .inr ⟨he.symm, by omega⟩
 ·rcases Classical.em (o.name.toList < a.name.toList) with h | h
  ·exact .inl h
  ·exact absurd (List.le_antisymm (fun hh => h hh) a1) he
def Sorted (l : List OpR) : Prop := l.Pairwise fun a b => befOp a b = true
theorem valid_next {l : List OpR} (h : opsValid l = true) (j : Nat) (hj : j + 1 < l.length) : opLt l[j] l[j + 1] = true := by
 have h1 := (opsValid_at l h).2 (j + 1) hj
 unfold okJ at h1
 rw [getD_at l (j + 1) hj, Nat.add_sub_cancel, getD_at l j (by omega)] at h1
 simp at h1
 exact h1.2
theorem valid_ok {l : List OpR} (h : opsValid l = true) (j : Nat) (hj : j < l.length) : opOk l[j] = true := by
 have h1 := (opsValid_at l h).2 j hj
 unfold okJ at h1
 rw [getD_at l j hj] at h1
 simp at h1
 exact h1.1
theorem opLt_bef {a b : OpR} (h : opLt a b = true) : befOp a b = true := by
 unfold opLt at h
 rw [befOp_cmp]
 simp at h ⊢
 exact h.1
theorem sorted_valid {l : List OpR} (h : opsValid l = true) : Sorted l := by
 unfold Sorted
 rw [List.pairwise_iff_getElem]
 have key : ∀ d i (hi : i + d + 1 < l.length), befOp l[i] l[i + d + 1] = true := by
  intro d
  induction d with
  | zero => intro i hi; exact opLt_bef (valid_next h i hi)
  | succ d ih => intro i hi; exact bef_trans (ih i (by omega)) (opLt_bef (valid_next h (i + d + 1) (by omega)))
 intro i j hi hj hij
 have := key (j - i - 1) i (by omega)
 simp only [show i + (j - i - 1) + 1 = j by omega] at this
 exact this
theorem Sorted.rest {l : List OpR} (h : Sorted l) (o : OpR) : Sorted (restL o l) := List.Pairwise.filter _ h
theorem Sorted.mono {l : List OpR} (h : Sorted l) (o : OpR) : Mono o l := by
 intro i j hj hij hc
 rcases Nat.lt_or_ge i j with hlt | hge
 ·rw [cmp_bef] at *
  exact bef_trans ((List.pairwise_iff_getElem.1 h) i j (by omega) hj hlt) hc
 ·have : i = j := by omega
  subst this; exact hc
theorem rest_ne (o : OpR) (l : List OpR) : ∀ a ∈ restL o l, eqOp o a = false := by
 intro a ha
 have := (List.mem_filter.1 ha).2
 simpa using this
theorem insO_parts (o : OpR) : ∀ (t : List OpR) (i : Nat), (∀ a ∈ t, eqOp o a = false) → Parts o t i i → t.take i ++ o :: t.drop i = insO o t
 | [], i, _, h => by
  have := h.hl
  simp at this
  subst this
  rfl
 | a :: t, 0, hne, h => by
  have h1 := h.post 0 (by simp) (Nat.le_refl _)
  have h2 : befOp o a = true := bef_tri (by rw [← Bool.not_eq_true, ← cmp_bef]; exact h1) (hne a (by simp))
  unfold insO
  rw [if_pos ((cmp_bef o a).2 h2)]
  rfl
 | a :: t, i + 1, hne, h => by
  have h1 := h.pre 0 (by simp) (by omega)
  have h2 : befOp o a = false := bef_asymm ((cmp_bef a o).1 h1)
  unfold insO
  rw [if_neg (by rw [cmp_bef, h2]; simp), ← insO_parts o t i (fun b hb => hne b (by simp [hb])) ⟨Nat.le_refl _, by have := h.hl; simpa using this, fun j hj hji => by have := h.pre (j + 1) (by simpa using hj) (by omega); simpa using this, fun j hj hji => by have := h.post (j + 1) (by simpa using hj) (by omega); simpa using this⟩]
  rfl
def fixedS (l : List OpR) (o : OpR) : Bool :=
 if (isN o [44] || isN o [91, 93] || isN o [123, 125]) = true then true
 else if (isN o [124] && (!clsOp o.typ == 2 || (decide (0 < o.prec) && decide (o.prec ≤ 1000)))) = true then true
 else if (o.prec == 0 || clsOp o.typ == 1) = true then false
 else (findR l o.name (5 - clsOp o.typ)).isSome
def newL (l : List OpR) (o : OpR) : List OpR := if 0 < o.prec then insO o (restL o l) else restL o l
def setR (l : List OpR) (o : OpR) : List OpR × Int :=
 if (!opsValid l || decide (o.prec < 0) || decide (1200 < o.prec) || clsOp o.typ == 0 || decide (100 < o.name.size)) = true then ([], 1)
 else if fixedS l o = true then ([], 5)
 else if 100 < (newL l o).length then ([], 13) else (newL l o, 0)
end Hb
namespace Hb
open Go Go.RowKit
theorem cls_ge (t : Int) : 0 ≤ clsOp t := by unfold clsOp; grind
theorem cls_le (t : Int) : clsOp t ≤ 3 := by unfold clsOp; grind
end Hb
namespace Go.Proofs.YtfkhcpeahdkafaaGreat
open Go.RowKit Hb
set_option maxRecDepth 100000
theorem find_box (A : Option Addr) (n cap : Nat) (l : List OpR) (c : Int) (w0 w1 : World) (o : OpR) (hX : BoxAt w0 w1 o) (hn : n = l.length) (hm : n ≤ 400) (hp : OpsAt w1 A l) :
  Calls Tryz.prog 204 #[.slice A n cap, .string o.name, .int .i64 c] w1 fun e w' => e = .returned (.tuple #[.agg #[.string ((findR l o.name c).getD op0).name, .int .i64 ((findR l o.name c).getD op0).typ, .int .i64 ((findR l o.name c).getD op0).prec], .bool (findR l o.name c).isSome]) ∧ BoxAt w0 w' o :=
 (ops_find A n cap l o.name c w1 hn hm hp).mono fun _ _ ⟨he, hb⟩ => ⟨he, hX.call hb⟩
set_option maxHeartbeats 3200000 in
theorem ops_fixed (A : Option Addr) (n cap : Nat) (l : List OpR) (o : OpR) (w : World) (hn : n = l.length) (hm : n ≤ 400) (hp : OpsAt w A l) :
  Calls Tryz.prog 187 #[.slice A n cap, opV o] w fun e w' => e = .returned (.bool (fixedS l o)) ∧ Below w.heap.size w w' := by
 have hX := BoxAt.start w o 82
 have HF := Lib.hid (fun (c : Int) (w1 : World) (hX : BoxAt w w1 o) => find_box A n cap l c w w1 o hX hn hm (hp.below hX.bel))
 have HC := Lib.hid (fun (w1 : World) (hX : BoxAt w w1 o) => op_class_box hX o.typ)
 unfold opV
 have hc0 := cls_ge o.typ
 have hc3 := cls_le o.typ
 clear hp hn
 generalize hcc : clsOp o.typ = c at *
 have HCC := Lib.hid hcc
 clear hcc
 go_enter Tryz.func187, Tryz.ntmps187
 go_wp2_with (first
  | (go_at_call 102; (with_reducible refine (HC.out _ (by with_reducible assumption)).mono ?_); rintro e w2 ⟨rfl, hX2⟩; have c0 := hX2.c0; have c1 := hX2.c1; have c2 := hX2.c2)
  | (go_at_call 204; (with_reducible refine (HF.out (5 - c) _ (by with_reducible assumption)).mono ?_); rintro e w3 ⟨rfl, hX3⟩)
  | (go_at_call 204; (with_reducible refine (HF.out 3 _ (by with_reducible assumption)).mono ?_); rintro e w3 ⟨rfl, hX3⟩))
 all_goals go_ret
 all_goals refine ⟨ret_bool ?_, by first | exact BoxAt.bel (o := o) (by with_reducible assumption) | (refine Below.alloc (BoxAt.bel (o := o) (by with_reducible assumption)) ?_ _; exact Nat.le_of_lt (BoxAt.lt (o := o) (by with_reducible assumption)))⟩
 all_goals have hcc := HCC.out
 all_goals unfold fixedS isN
 all_goals grind
end Go.Proofs.YtfkhcpeahdkafaaGreat
namespace Hb
open Go Go.RowKit
theorem run_copy_row3 {P : Program} (w : World) (dT sT ty elem : TypeId) (g o dLen dCap : Nat) (a : Addr) (sLen sCap : Nat) (cur : List Value) (t : TypeId) (cs : List Value) (m : Nat)
  (hu : P.underlying dT = some (.slice elem)) (hs : (P.info? elem).map (·.size) = some 3)
  (hg : w.heap[g]? = some (.cells cur.toArray t (0, 0))) (hm : m = Nat.min sLen dLen) (hn : cs.length = m * 3)
  (hsrc : ∀ j v, cs[j]? = some v → w.cell? (a.add j) = some v) (hfit : o + cs.length ≤ cur.length) (h1 : ∀ v ∈ cs, v.oneCell' = true) :
  (Builtin.copy_ #[dT, sT] ty #[.slice (some ⟨g, o, none⟩) dLen dCap, .slice (some a) sLen sCap]).run P w =
   .ok (goInt m) (w.setRow g (cur.take o ++ cs ++ cur.drop (o + cs.length)).toArray) := by
 have hl := run_loadCells_list (P := P) w a cs hsrc
 have hst := run_storeCells_at P g o t cs 0 cur.toArray w hg (by simpa using hfit) h1
 simp only [Nat.add_zero] at hst
 cases hq : P.info? elem with
 | none => simp [hq] at hs
 | some i =>
  have hi : i.size = 3 := by simpa [hq] using hs
  rw [hn] at hl
  simp [Builtin.copy_, run_underlying hu, Builtin.lenOf, Builtin.firstCells, Go.sizeOf, typeInfo, hq, hi, ← hm, hl, hst]
theorem shift_lists {α : Type} (a b R oc : List α) (h3 : oc.length = 3) (hR : 3 ≤ R.length) :
  ∀ C C', C = a ++ b ++ R → C' = C.take (a.length + 3) ++ b ++ C.drop (a.length + 3 + b.length) → (C'.take a.length ++ oc ++ C'.drop (a.length + oc.length)).take (a.length + 3 + b.length) = a ++ oc ++ b ∧ C'.length = C.length ∧ (C'.take a.length ++ oc ++ C'.drop (a.length + oc.length)).length = C.length := by
 intro C C' hC hC'
 have e1 : C.take (a.length + 3) = a ++ (b ++ R).take 3 := by
  rw [hC, List.append_assoc, List.take_append, List.take_of_length_le (by omega), Nat.add_sub_cancel_left]
 have e2 : ((b ++ R).take 3).length = 3 := by rw [List.length_take, List.length_append]; omega
 have e3 : C'.take a.length = a := by
  rw [hC', e1, List.append_assoc, List.append_assoc, List.take_append_of_le_length (Nat.le_refl _), List.take_length]
 have e4 : C'.drop (a.length + oc.length) = b ++ C.drop (a.length + 3 + b.length) := by
  rw [hC', e1, h3, List.append_assoc]
  exact List.drop_left' (by rw [List.length_append, e2])
 have hl : C'.length = C.length := by
  rw [hC', List.length_append, List.length_append, List.length_take, List.length_drop, hC]
  simp only [List.length_append]
  omega
 refine ⟨?_, hl, ?_⟩
 ·rw [e3, e4, ← List.append_assoc]
  exact List.take_left' (by simp only [List.length_append]; omega)
 ·rw [e3, List.length_append, List.length_append, List.length_drop, hl, hC]
  simp only [List.length_append]
  omega
theorem grow_lists {α : Type} (a b Z oc : List α) (h3 : oc.length = 3) (hZ : 3 + b.length ≤ Z.length) :
  ∀ C C1, C = a ++ Z → C1 = C.take a.length ++ oc ++ C.drop (a.length + oc.length) → (C1.take (a.length + 3) ++ b ++ C1.drop (a.length + 3 + b.length)).take (a.length + 3 + b.length) = a ++ oc ++ b ∧ C1.length = C.length ∧ (C1.take (a.length + 3) ++ b ++ C1.drop (a.length + 3 + b.length)).length = C.length := by
 intro C C1 hC hC1
 have e1 : C.take a.length = a := by rw [hC]; exact List.take_left' rfl
 have e2 : C1.take (a.length + 3) = a ++ oc := by
  rw [hC1, e1]; exact List.take_left' (by rw [List.length_append]; omega)
 have hl : C1.length = C.length := by
  rw [hC1, e1, List.length_append, List.length_append, List.length_drop, hC, List.length_append]; omega
 refine ⟨?_, hl, ?_⟩
 ·rw [e2]
  exact List.take_left' (by simp only [List.length_append]; omega)
 ·rw [e2, List.length_append, List.length_append, List.length_append, List.length_drop, hl, hC, List.length_append]; omega
theorem oc_split (l : List OpR) (i : Nat) (o : OpR) : opsCells (l.take i ++ o :: l.drop i) = opsCells (l.take i) ++ opCells o ++ opsCells (l.drop i) := by
 rw [opsCells_app, List.append_assoc]; rfl
theorem own_row {w : World} {base e n g cap : Nat} {l : List OpR} (h : w.ownsRow base e 3 (.slice (some ⟨g, 0, none⟩) n cap) n (opsCells l)) : ∃ R, w.heap[g]? = some (.cells (opsCells l ++ R).toArray e (0, 0)) ∧ (opsCells l ++ R).length = cap * 3 ∧ n ≤ cap ∧ cap ≤ maxLen ∧ base ≤ g := by
 rcases h.2 with ⟨hv, _⟩ | ⟨g', cap', cur, hv, hb, hg, hnc, hcm, hcs, htake⟩
 ·cases hv
 ·injection hv with h1 h2 h3
  injection h1 with h1
  injection h1 with h1 _ _
  subst h1; subst h3
  refine ⟨cur.toList.drop (n * 3), ?_, ?_, hnc, hcm, hb⟩
  ·rw [← htake, List.take_append_drop]; exact hg
  ·rw [← htake, List.take_append_drop, Array.length_toList]; exact hcs
theorem row_own {w : World} {base e n g cap : Nat} {l : List OpR} {C : List Value} (hg : w.heap[g]? = some (.cells C.toArray e (0, 0))) (hC : C.length = cap * 3) (hn : n = l.length) (hnc : n ≤ cap) (hcm : cap ≤ maxLen) (hb : base ≤ g) (ht : C.take (n * 3) = opsCells l) : w.ownsRow base e 3 (.slice (some ⟨g, 0, none⟩) n cap) n (opsCells l) :=
 ⟨by rw [opsCells_len, hn], .inr ⟨g, cap, C.toArray, rfl, hb, hg, hnc, hcm, by simpa using hC, by simpa using ht⟩⟩
end Hb
namespace Go.Proofs.YtfkhcpeahdkafaaGreat
open Go.RowKit Hb
set_option maxRecDepth 100000
theorem at_copyO {ops : Array Oper} {rest : List Oper} {a : Act} {Q : Exit → Act → World → Prop} {w : World} {d t p f x g} (h : wpList Tryz.prog ops Q (⟨d, .call { callee := .builtin .copy, args := x, argTypes := #[40, 40] }, t, p, f, g⟩ :: rest) a w) : wpList Tryz.prog ops Q (⟨d, .call { callee := .builtin .copy, args := x, argTypes := #[40, 40] }, t, p, f, g⟩ :: rest) a w := h
theorem size_op : (Tryz.prog.info? 82).map (·.size) = some 3 := by kernel_rfl
theorem sizeOf_op : ∀ w, (Go.sizeOf 82).run Tryz.prog w = .ok 3 w := fun w => by
 obtain ⟨i, hi, _, hz, _⟩ := info_parts infoOp
 simp [Go.sizeOf, typeInfo, hi, hz]
theorem overlaps_no (w : World) (vb g p m vc lb cb : Nat) (hne : vb ≠ g) (c1 c2 : Array Value) (t1 t2 : TypeId) (h1 : w.heap[vb]? = some (.cells c1 t1 (0, 0))) (h2 : w.heap[g]? = some (.cells c2 t2 (0, 0))) (hs : c2.size ≠ 0) :
  (callFunc 206 #[.slice (some ⟨vb, 0, none⟩) m vc, .slice (some ⟨g, p, none⟩) lb cb]).run Tryz.prog w = .ok (.value (.bool false)) w := by
 rw [run_callFunc_extern Tryz.func206 (by kernel_rfl) (by kernel_rfl) (by kernel_rfl) (e := Extern.SlicesOverlaps.overlaps #[40, 40] #[4]) (by kernel_rfl),
  Lib.run_overlaps_apart w 40 4 82 Tryz.underlying40 3 sizeOf_op ⟨vb, 0, none⟩ ⟨g, p, none⟩ m vc lb cb hne t1 t2 c1.size c2.size (by simp [World.shape?, h1]) (by simp [World.shape?, h2]) hs (by simp [World.frozen?, h1]) (by simp [World.frozen?, h1])]
 rfl
set_option maxHeartbeats 3200000 in
theorem ops_insert_end (A : Option Addr) (n cap : Nat) (l : List OpR) (o : OpR) (vb base : Nat) (w : World) (hm : n ≤ 400) (hown : w.ownsRow base 82 3 (.slice A n cap) n (opsCells l)) (hbw : base ≤ w.heap.size) (hv : w.heap[vb]? = some (.cells #[.string o.name, .int .i64 o.typ, .int .i64 o.prec] 82 (0, 0))) :
  Calls Tryz.prog 191 #[.slice A n cap, .int .i64 n, .slice (some ⟨vb, 0, none⟩) 1 1] w fun e w' => ∃ A' cap', e = .returned (.slice A' (n + 1) cap') ∧ Below base w w' ∧ w'.ownsRow base 82 3 (.slice A' (n + 1) cap') (n + 1) (opsCells (l ++ [o])) := by
 obtain ⟨i, hi, hz0, hz1, hz2⟩ := info_parts infoOp
 have HI := Lib.hid hi
 have HZ0 := Lib.hid hz0
 have HZ1 := Lib.hid hz1
 have HZ2 := Lib.hid hz2
 have HO := Lib.hid hown
 have HV := Lib.hid hv
 have hcap : n ≤ cap ∧ cap ≤ maxLen := by
  rcases hown.2 with ⟨h1, h2⟩ | ⟨g', cap', cur, h1, _, _, h5, h6, _⟩
  ·injection h1 with _ _ h3; subst h3; subst h2; exact ⟨Nat.le_refl _, by unfold maxLen; omega⟩
  ·injection h1 with _ _ h3; subst h3; exact ⟨h5, h6⟩
 obtain ⟨hcap1, hcap2⟩ := hcap
 unfold maxLen at hcap2
 have HS : Hid (∀ j u, (opCells o)[j]? = some u → w.cell? ((⟨vb, 0, none⟩ : Addr).add j) = some u) := Lib.hid fun j u hu => by
  rw [add_at, Nat.zero_add, cell_of_heap hv]
  simpa [opCells] using hu
 have HG : Hid (∀ w', w.grownBy w' (Value.slice A n cap).ownBlock → Below base w w') := Lib.hid fun w' hg => (Below.refl base w).grown hg hbw fun k hk => (hown.lt k hk).1
 clear hi hz0 hz1 hz2 hown hv
 cases A with
 | none =>
  have hn0 : n = 0 ∧ cap = 0 := by
   rcases HO.out.2 with ⟨h1, h2⟩ | ⟨g', cap', cur, h1, _⟩
   ·injection h1 with _ _ h3; exact ⟨h2, h3⟩
   ·cases h1
  obtain ⟨rfl, rfl⟩ := hn0
  go_enter Tryz.func191, Tryz.ntmps191
  go_wp2_with (at_builtin; go_must (refine wpList_append_own _ rfl _ _ 40 rfl base 82 i _ 3 32 Tryz.underlying40 HI.out HZ0.out HZ1.out HZ2.out rfl (by decide) _ 0 (opsCells l) rfl HO.out ⟨vb, 0, none⟩ 1 1 (opCells o) rfl rfl HS.out (oc_one [o]) (by unfold maxLen; omega) (by omega) (by omega) ?_; intro v1 w1 hown1 hg1 _))
  have hB := HG.out w1 hg1
  obtain ⟨A', cap', rfl⟩ := own_sliceO hown1
  have HO1 := Lib.hid hown1
  clear hown1
  go_ret
  first | exact ⟨A', ⟨cap', rfl⟩, hB, by rw [opsCells_app]; exact HO1.out⟩ | exact ⟨A', cap', rfl, hB, by rw [opsCells_app]; exact HO1.out⟩
 | some ad =>
  obtain ⟨g, rfl⟩ : ∃ g, ad = ⟨g, 0, none⟩ := by
   rcases HO.out.2 with ⟨h1, _⟩ | ⟨g', cap', cur, h1, _⟩
   ·cases h1
   ·injection h1 with h1 _ _; injection h1 with h1; exact ⟨g', h1⟩
  go_enter Tryz.func191, Tryz.ntmps191
  go_wp2_with (at_builtin; go_must (refine wpList_append_own _ rfl _ _ 40 rfl base 82 i _ 3 32 Tryz.underlying40 HI.out HZ0.out HZ1.out HZ2.out rfl (by decide) _ n (opsCells l) rfl HO.out ⟨vb, 0, none⟩ 1 1 (opCells o) rfl rfl HS.out (oc_one [o]) (by unfold maxLen; omega) (by omega) (by omega) ?_; intro v1 w1 hown1 hg1 _))
  all_goals
   have hB := HG.out w1 hg1
   obtain ⟨A', cap', rfl⟩ := own_sliceO hown1
   have HO1 := Lib.hid hown1
   clear hown1
   go_ret
   first | exact ⟨A', ⟨cap', rfl⟩, hB, by rw [opsCells_app]; exact HO1.out⟩ | exact ⟨A', cap', rfl, hB, by rw [opsCells_app]; exact HO1.out⟩
set_option maxHeartbeats 3200000 in
theorem ops_insert_shift (g n cap i : Nat) (l : List OpR) (o : OpR) (vb base : Nat) (w : World) (hm : n ≤ 400) (hin : i < n) (hroom : n + 1 ≤ cap) (hown : w.ownsRow base 82 3 (.slice (some ⟨g, 0, none⟩) n cap) n (opsCells l)) (hne : vb ≠ g) (hv : w.heap[vb]? = some (.cells #[.string o.name, .int .i64 o.typ, .int .i64 o.prec] 82 (0, 0))) :
  Calls Tryz.prog 191 #[.slice (some ⟨g, 0, none⟩) n cap, .int .i64 i, .slice (some ⟨vb, 0, none⟩) 1 1] w fun e w' => e = .returned (.slice (some ⟨g, 0, none⟩) (n + 1) cap) ∧ Below base w w' ∧ w'.ownsRow base 82 3 (.slice (some ⟨g, 0, none⟩) (n + 1) cap) (n + 1) (opsCells (l.take i ++ o :: l.drop i)) := by
 have hln := own_len hown
 obtain ⟨R, hrow, hrl, hnc, hcm, hbg⟩ := own_row hown
 have ha : (opsCells (l.take i)).length = i * 3 := by rw [opsCells_len, List.length_take]; omega
 have hb : (opsCells (l.drop i)).length = (n - i) * 3 := by rw [opsCells_len, List.length_drop]; omega
 have hab : opsCells l = opsCells (l.take i) ++ opsCells (l.drop i) := by rw [← opsCells_app, List.take_append_drop]
 have hRl : 3 ≤ R.length := by rw [List.length_append, opsCells_len] at hrl; omega
 rw [hab] at hrow hrl
 obtain ⟨C, hC⟩ : ∃ C, C = opsCells (l.take i) ++ opsCells (l.drop i) ++ R := ⟨_, rfl⟩
 rw [← hC] at hrow hrl
 obtain ⟨C', hC'⟩ : ∃ C', C' = C.take (i * 3 + 3) ++ opsCells (l.drop i) ++ C.drop (i * 3 + 3 + (n - i) * 3) := ⟨_, rfl⟩
 obtain ⟨C2, hC2⟩ : ∃ C2, C2 = C'.take (i * 3) ++ opCells o ++ C'.drop (i * 3 + (opCells o).length) := ⟨_, rfl⟩
 obtain ⟨hT, hl1, hl2⟩ := shift_lists (opsCells (l.take i)) (opsCells (l.drop i)) R (opCells o) rfl hRl C C' hC (by rw [ha, hb]; exact hC')
 rw [ha, hb, ← hC2] at hT
 rw [ha, ← hC2] at hl2
 obtain ⟨z, hz⟩ : ∃ z, z = 0 := ⟨0, rfl⟩
 have hcp1 : Hid (∀ (W : World) (ty : TypeId) (dc sc : Nat), W.heap[g]? = some (.cells C.toArray 82 (0, 0)) → (Builtin.copy_ #[40, 40] ty #[.slice (some ⟨g, z + (i + 1) * 3, none⟩) (n - i) dc, .slice (some ⟨g, z + i * 3, none⟩) (n + 1 - i) sc]).run Tryz.prog W = .ok (goInt ((n - i : Nat) : Int)) (W.setRow g C'.toArray)) := Lib.hid fun W ty dc sc hW => by
  have h := run_copy_row3 (P := Tryz.prog) W 40 40 ty 82 g (z + (i + 1) * 3) (n - i) dc ⟨g, z + i * 3, none⟩ (n + 1 - i) sc C 82 (opsCells (l.drop i)) (n - i) Tryz.underlying40 size_op hW (by simp only [Nat.min_def]; split <;> omega) hb
   (fun j v hj => by
    have hjl : j < (n - i) * 3 := by
     rcases Nat.lt_or_ge j ((n - i) * 3) with h | h
     ·exact h
     ·rw [List.getElem?_eq_none (by omega)] at hj; cases hj
    rw [add_at, cell_of_heap hW, hz, Nat.zero_add]
    simp only [List.getElem?_toArray]
    rw [hC, List.append_assoc, List.getElem?_append_right (by omega), ha, List.getElem?_append_left (by omega), Nat.add_sub_cancel_left]
    exact hj) (by rw [hb]; omega) (oc_one _)
  rw [h, hC', hz, hb]
  rw [show 0 + (i + 1) * 3 = i * 3 + 3 by omega]
 have hcp2 : Hid (∀ (W : World) (ty : TypeId) (dc : Nat), W.heap[g]? = some (.cells C'.toArray 82 (0, 0)) → W.heap[vb]? = some (.cells #[.string o.name, .int .i64 o.typ, .int .i64 o.prec] 82 (0, 0)) → (Builtin.copy_ #[40, 40] ty #[.slice (some ⟨g, z + i * 3, none⟩) (n + 1 - i) dc, .slice (some ⟨vb, 0, none⟩) 1 1]).run Tryz.prog W = .ok (goInt 1) (W.setRow g C2.toArray)) := Lib.hid fun W ty dc hW hWv => by
  have h := run_copy_row3 (P := Tryz.prog) W 40 40 ty 82 g (z + i * 3) (n + 1 - i) dc ⟨vb, 0, none⟩ 1 1 C' 82 (opCells o) 1 Tryz.underlying40 size_op hW (by simp only [Nat.min_def]; split <;> omega) rfl
   (fun j v hj => by
    rw [add_at, Nat.zero_add, cell_of_heap hWv]
    simpa [opCells] using hj) (by rw [hl1, hrl, hz]; simp [opCells]; omega) (oc_one [o])
  rw [h, hC2, hz, Nat.zero_add]
  rfl
 have HROW := Lib.hid hrow
 have HV := Lib.hid hv
 have HOV : Hid (∀ (W : World) (p m vc lb cb : Nat), W.heap[g]? = some (.cells C.toArray 82 (0, 0)) → W.heap[vb]? = some (.cells #[.string o.name, .int .i64 o.typ, .int .i64 o.prec] 82 (0, 0)) → (callFunc 206 #[.slice (some ⟨vb, 0, none⟩) m vc, .slice (some ⟨g, p, none⟩) lb cb]).run Tryz.prog W = .ok (.value (.bool false)) W) := Lib.hid fun W p m vc lb cb h1 h2 => overlaps_no W vb g p m vc lb cb hne _ _ _ _ h2 h1 (by simp [hrl]; omega)
 have HFIN : Hid (∀ W' : World, W'.heap[g]? = some (.cells C2.toArray 82 (0, 0)) → W'.ownsRow base 82 3 (.slice (some ⟨g, 0, none⟩) (n + 1) cap) (n + 1) (opsCells (l.take i ++ o :: l.drop i))) := Lib.hid fun W' h => row_own h (by rw [hl2, hrl]) (by rw [List.length_append, List.length_take, List.length_cons, List.length_drop]; omega) hroom hcm hbg (by rw [oc_split, ← hT]; congr 1; omega)
 have HZ' := Lib.hid (show (⟨g, 0, none⟩ : Addr) = ⟨g, z, none⟩ by rw [hz])
 rw [HZ'.out]
 unfold maxLen at hcm
 have hov := HOV.out w (z + (i + 1) * 3) 1 1
 have hov1 := fun lb cb => hov lb cb hrow hv
 clear hov hown ha hb hab hRl hC hC' hC2 hT hl1 hl2 hrl hz hrow hv HOV hln
 have e1 : ¬ (i = n) := by omega
 have e2 : ¬ (cap = i) := by omega
 have e3 : ¬ (cap = i + 1) := by omega
 have e4 : ¬ (cap < n + 1) := by omega
 have e5 : ((i : Int) == (n : Int)) = false := by rw [beq_eq_false_iff_ne]; omega
 have e6 : decide ((cap : Int) < (n : Int) + 1) = false := by simp; omega
 have mixed : Tryz.prog.follows Departure.mixedOrders = true := by kernel_rfl
 have q1 : IntKind.i64.wrap ((i : Int) + 1) = (i : Int) + 1 := IntWalk.i64_in _ (by omega)
 have q2 : (0 : Int) ≤ (i : Int) + 1 := by omega
 have q3 : (i : Int) + 1 ≤ (n : Int) + 1 := by omega
 have q4 : ((i : Int) + 1).toNat = i + 1 := by omega
 have q5 : (0 : Int) ≤ (i : Int) := by omega
 have q6 : (i : Int) ≤ (n : Int) + 1 := by omega
 go_enter Tryz.func191, Tryz.ntmps191
 go_wp2_with (simp only [hov1])
 go_region_law_o (refine step_copy_runI rfl _ _ 40 40 rfl (.slice (some ⟨g, z + (i + 1) * 3, none⟩) (n - i) (cap - (i + 1))) (.slice (some ⟨g, z + i * 3, none⟩) (n + 1 - i) (cap - i)) (by simp [Act.eval, Act.put]) (by simp [Act.eval, Act.put]) (hcp1.out w.drew 3 (cap - (i + 1)) (cap - i) HROW.out) ?_)
 go_wp2_with ((with_reducible refine at_copyO ?_); go_must (refine wpList_copy_runI _ rfl _ _ 40 40 rfl _ _ rfl rfl (hcp2.out (w.drew.setRow g C'.toArray) 3 (cap - i) (setRow_heap w.drew g _ _ _ _ HROW.out) ((setRow_other w.drew g vb _ hne).trans HV.out)) ?_))
 go_ret
 exact ⟨rfl, below_setRow (below_setRow (Below.refl base w).drew hbg _) hbg _, by rw [← HZ'.out]; exact HFIN.out _ (setRow_heap _ g _ _ _ _ (setRow_heap w.drew g _ _ _ _ HROW.out))⟩
set_option maxHeartbeats 3200000 in
theorem ops_insert_grow (g n cap i : Nat) (l : List OpR) (o : OpR) (vb base : Nat) (w : World) (hm : n ≤ 400) (hin : i < n) (hroom : cap < n + 1) (hown : w.ownsRow base 82 3 (.slice (some ⟨g, 0, none⟩) n cap) n (opsCells l)) (hbw : base ≤ w.heap.size) (hv : w.heap[vb]? = some (.cells #[.string o.name, .int .i64 o.typ, .int .i64 o.prec] 82 (0, 0))) :
  Calls Tryz.prog 191 #[.slice (some ⟨g, 0, none⟩) n cap, .int .i64 i, .slice (some ⟨vb, 0, none⟩) 1 1] w fun e w' => ∃ A' cap', e = .returned (.slice A' (n + 1) cap') ∧ Below base w w' ∧ w'.ownsRow base 82 3 (.slice A' (n + 1) cap') (n + 1) (opsCells (l.take i ++ o :: l.drop i)) := by
 obtain ⟨i0, hi0, hz0, hzs, hzb⟩ := info_parts infoOp
 have hln := own_len hown
 obtain ⟨R, hrow, hrl, hnc, hcm, hbg⟩ := own_row hown
 have hgw : g < w.heap.size := (hown.lt g rfl).2
 have hvw : vb < w.heap.size := (Array.getElem?_eq_some_iff.1 hv).1
 have hinL := own_in hown
 have ha : (opsCells (l.take i)).length = i * 3 := by rw [opsCells_len, List.length_take]; omega
 have hb : (opsCells (l.drop i)).length = (n - i) * 3 := by rw [opsCells_len, List.length_drop]; omega
 obtain ⟨z, hz⟩ : ∃ z, z = 0 := ⟨0, rfl⟩
 have hinA : OpsIn w g z (l.take i) := fun j hj => by
  rw [List.length_take] at hj
  have := hinL j (by omega)
  rw [hz, List.getElem_take]
  exact this
 have hinB : OpsIn w g (z + i * 3) (l.drop i) := fun j hj => by
  rw [List.length_drop] at hj
  have := hinL (i + j) (by omega)
  rw [hz, List.getElem_drop]
  rw [show 0 + i * 3 + j * 3 = 0 + (i + j) * 3 by omega]
  exact this
 have hold : (Builtin.firstCells i0.size i (.slice (some ⟨g, z, none⟩) i cap)).run Tryz.prog w.drew = .ok (opsCells (l.take i)).toArray w.drew := by
  rw [hzs]
  exact run_firstCells_some w.drew 3 i ⟨g, z, none⟩ i cap _ ha (oc_at (w := w.drew) hinA)
 have hik : i + (n + 1 - i) = n + 1 := by omega
 obtain ⟨G, hG⟩ : ∃ G, G = grownCap w (n + 1) cap 82 := ⟨_, rfl⟩
 have hGn : n + 1 ≤ G := by rw [hG]; exact grownCap_ge w _ _ _
 have hG63 : G ≤ maxLen := by rw [hG]; exact grownCap_le_maxLen w (n + 1) cap 82 (by unfold maxLen; omega)
 obtain ⟨Z1, hZ1⟩ : ∃ Z : List Value, Z = (Builtin.zeroCells (Value.agg #[.string ⟨#[]⟩, .int .i64 0, .int .i64 0]).cells (n + 1 - i)).toList ++ (Builtin.zeroCells (Value.agg #[.string ⟨#[]⟩, .int .i64 0, .int .i64 0]).cells (G - (n + 1))).toList := ⟨_, rfl⟩
 have hZl : Z1.length = (G - i) * 3 := by rw [hZ1, List.length_append, zero_len, zero_len]; omega
 obtain ⟨C, hC⟩ : ∃ C, C = opsCells (l.take i) ++ Z1 := ⟨_, rfl⟩
 obtain ⟨C1, hC1⟩ : ∃ C1, C1 = C.take (i * 3) ++ opCells o ++ C.drop (i * 3 + (opCells o).length) := ⟨_, rfl⟩
 obtain ⟨C2, hC2⟩ : ∃ C2, C2 = C1.take (i * 3 + 3) ++ opsCells (l.drop i) ++ C1.drop (i * 3 + 3 + (n - i) * 3) := ⟨_, rfl⟩
 obtain ⟨hT, hl1, hl2⟩ := grow_lists (opsCells (l.take i)) (opsCells (l.drop i)) Z1 (opCells o) rfl (by rw [hb, hZl]; omega) C C1 hC (by rw [ha]; exact hC1)
 rw [ha, hb, ← hC2] at hT hl2
 have hCl : C.length = G * 3 := by rw [hC, List.length_append, ha, hZl]; omega
 have hrz : Hid (∀ ty, (Builtin.append_ #[40, 3] ty #[.slice (some ⟨g, z, none⟩) i cap, .int .i64 ((n : Int) + 1 - (i : Int))]).run Tryz.prog w = .ok (.slice (some ⟨w.heap.size, 0, none⟩) (n + 1) G) (w.drew.alloc (.cells C.toArray 82))) := Lib.hid fun ty => by
  have h := Lib.run_append_grow_zeros w 40 3 ty 82 i0 _ .i64 .i64 Tryz.underlying40 Tryz.underlying3 hi0 hz0 (some ⟨g, z, none⟩) i cap (opsCells (l.take i)) hold (n + 1 - i) (by omega) (by omega) (by omega) (by omega) (by rw [hzb]; omega) (by rw [hzb, hik]; exact growslice_fits hroom (by omega))
  rw [hik, ← hG] at h
  rw [show (n : Int) + 1 - (i : Int) = ((n + 1 - i : Nat) : Int) by omega, h]
  rw [hC, hZ1]
  congr 4
  simp
 have hcpA : Hid (∀ (W : World) (ty : TypeId) (dc : Nat), W.heap[w.heap.size]? = some (.cells C.toArray 82 (0, 0)) → W.heap[vb]? = some (.cells #[.string o.name, .int .i64 o.typ, .int .i64 o.prec] 82 (0, 0)) → (Builtin.copy_ #[40, 40] ty #[.slice (some ⟨w.heap.size, i * 3, none⟩) (n + 1 - i) dc, .slice (some ⟨vb, 0, none⟩) 1 1]).run Tryz.prog W = .ok (goInt 1) (W.setRow w.heap.size C1.toArray)) := Lib.hid fun W ty dc hW hWv => by
  have h := run_copy_row3 (P := Tryz.prog) W 40 40 ty 82 w.heap.size (i * 3) (n + 1 - i) dc ⟨vb, 0, none⟩ 1 1 C 82 (opCells o) 1 Tryz.underlying40 size_op hW (by simp only [Nat.min_def]; split <;> omega) rfl
   (fun j v hj => by
    rw [add_at, Nat.zero_add, cell_of_heap hWv]
    simpa [opCells] using hj) (by rw [hCl]; simp [opCells]; omega) (oc_one [o])
  rw [h, hC1]
  rfl
 have hcpB : Hid (∀ (W : World) (ty : TypeId) (dc sc : Nat), W.heap[w.heap.size]? = some (.cells C1.toArray 82 (0, 0)) → W.heap[g]? = w.heap[g]? → (Builtin.copy_ #[40, 40] ty #[.slice (some ⟨w.heap.size, (i + 1) * 3, none⟩) (n - i) dc, .slice (some ⟨g, z + i * 3, none⟩) (n - i) sc]).run Tryz.prog W = .ok (goInt ((n - i : Nat) : Int)) (W.setRow w.heap.size C2.toArray)) := Lib.hid fun W ty dc sc hW hWg => by
  have h := run_copy_row3 (P := Tryz.prog) W 40 40 ty 82 w.heap.size ((i + 1) * 3) (n - i) dc ⟨g, z + i * 3, none⟩ (n - i) sc C1 82 (opsCells (l.drop i)) (n - i) Tryz.underlying40 size_op hW (by simp only [Nat.min_def]; split <;> omega) hb
   (fun j v hj => by
    have := oc_at hinB j v hj
    rw [add_at] at this ⊢
    rw [← this]
    exact World.cell?_of_block hWg) (by rw [hb, hl1, hCl]; omega) (oc_one _)
  rw [h, hC2, hb]
  rw [show (i + 1) * 3 = i * 3 + 3 by omega]
 have HV := Lib.hid hv
 have HFIN : Hid (∀ W' : World, W'.heap[w.heap.size]? = some (.cells C2.toArray 82 (0, 0)) → W'.ownsRow base 82 3 (.slice (some ⟨w.heap.size, 0, none⟩) (n + 1) G) (n + 1) (opsCells (l.take i ++ o :: l.drop i))) := Lib.hid fun W' h => row_own h (by rw [hl2, hCl]) (by rw [List.length_append, List.length_take, List.length_cons, List.length_drop]; omega) hGn hG63 hbw (by rw [oc_split, ← hT]; congr 1; omega)
 have HZ' := Lib.hid (show (⟨g, 0, none⟩ : Addr) = ⟨g, z, none⟩ by rw [hz])
 rw [HZ'.out]
 have HA0 : Hid ((w.drew.alloc (.cells C.toArray 82)).heap[w.heap.size]? = some (.cells C.toArray 82 (0, 0))) := Lib.hid (heap_alloc_new w.drew _)
 have HA1 : Hid ((w.drew.alloc (.cells C.toArray 82)).heap[vb]? = some (.cells #[.string o.name, .int .i64 o.typ, .int .i64 o.prec] 82 (0, 0))) := Lib.hid (((Below.refl w.heap.size w.drew).alloc (Nat.le_refl _) _).block vb hvw |>.trans hv)
 have HA2 : Hid ((w.drew.alloc (.cells C.toArray 82)).heap[g]? = w.heap[g]?) := Lib.hid (((Below.refl w.heap.size w.drew).alloc (Nat.le_refl _) _).block g hgw)
 have HB0 : Hid (Below base w (w.drew.alloc (.cells C.toArray 82))) := Lib.hid (((Below.refl base w).drew).alloc hbw _)
 unfold maxLen at hcm hG63
 clear hown ha hb hC hC1 hC2 hT hl1 hl2 hrl hz hrow hv hln hold hinA hinB hinL hG hZ1 hZl hCl hik hi0 hz0 hzs hzb
 have hNe : g ≠ w.heap.size := by omega
 have e1 : ¬ (i = n) := by omega
 have e2 : ¬ (cap = i) := by omega
 have e3 : ¬ (G = i) := by omega
 have e4 : ¬ (G = i + 1) := by omega
 have e5 : ((i : Int) == (n : Int)) = false := by rw [beq_eq_false_iff_ne]; omega
 have e6 : decide ((cap : Int) < (n : Int) + 1) = true := by simp; omega
 have e7 : (cap : Int) < (n : Int) + 1 := by omega
 have mixed : Tryz.prog.follows Departure.mixedOrders = true := by kernel_rfl
 have q1 : IntKind.i64.wrap ((i : Int) + 1) = (i : Int) + 1 := IntWalk.i64_in _ (by omega)
 have q2 : (0 : Int) ≤ (i : Int) + 1 := by omega
 have q3 : (i : Int) + 1 ≤ (n : Int) + 1 := by omega
 have q4 : ((i : Int) + 1).toNat = i + 1 := by omega
 have q5 : (0 : Int) ≤ (i : Int) := by omega
 have q6 : (i : Int) ≤ (n : Int) + 1 := by omega
 have q7 : (i : Int) ≤ (n : Int) := by omega
 go_enter Tryz.func191, Tryz.ntmps191
 go_wp2_with (first
  | (at_builtin; refine Lib.wpList_append_run _ rfl _ _ _ _ rfl _ _ rfl rfl _ _ (hrz.out _) ?_)
  | ((with_reducible refine at_copyO ?_); go_must (refine wpList_copy_runI _ rfl _ _ 40 40 rfl _ _ rfl rfl (hcpA.out _ 3 (G - i) HA0.out HA1.out) ?_)))
 go_region_law_o (refine step_copy_runI rfl _ _ 40 40 rfl (.slice (some ⟨w.heap.size, (i + 1) * 3, none⟩) (n - i) (G - (i + 1))) (.slice (some ⟨g, z + i * 3, none⟩) (n - i) (cap - i)) (by simp [Act.eval, Act.put]) (by simp [Act.eval, Act.put]) (hcpB.out (((w.alloc (.cells C.toArray 82)).drew.setRow w.heap.size C1.toArray).drew) 3 (G - (i + 1)) (cap - i) (setRow_heap (w.drew.alloc (.cells C.toArray 82)) _ _ _ _ _ HA0.out) ((setRow_other (w.drew.alloc (.cells C.toArray 82)) _ g _ hNe).trans HA2.out)) ?_)
 go_wp2_with fail
 go_ret
 have hBf : Below base w (((w.alloc (.cells C.toArray 82)).drew.setRow w.heap.size C1.toArray).drew.setRow w.heap.size C2.toArray) := by
  have h1 : Below base w (w.alloc (.cells C.toArray 82)).drew := ((Below.refl base w).alloc hbw _).drew
  exact below_setRow (below_setRow h1 hbw _).drew hbw _
 have hOf := HFIN.out (((w.alloc (.cells C.toArray 82)).drew.setRow w.heap.size C1.toArray).drew.setRow w.heap.size C2.toArray) (setRow_heap _ _ _ _ _ _ (setRow_heap (w.drew.alloc (.cells C.toArray 82)) _ _ _ _ _ HA0.out))
 exact ⟨_, _, rfl, hBf, hOf⟩
theorem ops_insert (A : Option Addr) (n cap i : Nat) (l : List OpR) (o : OpR) (vb base : Nat) (w : World) (hm : n ≤ 400) (hin : i ≤ n) (hown : w.ownsRow base 82 3 (.slice A n cap) n (opsCells l)) (hbw : base ≤ w.heap.size) (hne : ∀ g, A = some ⟨g, 0, none⟩ → vb ≠ g) (hv : w.heap[vb]? = some (.cells #[.string o.name, .int .i64 o.typ, .int .i64 o.prec] 82 (0, 0))) :
  Calls Tryz.prog 191 #[.slice A n cap, .int .i64 i, .slice (some ⟨vb, 0, none⟩) 1 1] w fun e w' => ∃ A' cap', e = .returned (.slice A' (n + 1) cap') ∧ Below base w w' ∧ w'.ownsRow base 82 3 (.slice A' (n + 1) cap') (n + 1) (opsCells (l.take i ++ o :: l.drop i)) := by
 have hln := own_len hown
 rcases Nat.lt_or_ge i n with h | h
 ·obtain ⟨g, cap', hA⟩ := own_some hown (by omega)
  injection hA with hA _ _
  subst hA
  rcases Nat.lt_or_ge cap (n + 1) with h2 | h2
  ·exact ops_insert_grow g n cap i l o vb base w hm h h2 hown hbw hv
  ·exact (ops_insert_shift g n cap i l o vb base w hm h h2 hown (hne g rfl) hv).mono fun e w' ⟨he, hB, hO⟩ => ⟨_, cap, he, hB, hO⟩
 ·obtain rfl : i = n := by omega
  have e1 : l.take i = l := List.take_of_length_le (by omega)
  have e2 : l.drop i = [] := List.drop_eq_nil_of_le (by omega)
  rw [e1, e2]
  exact ops_insert_end A i cap l o vb base w hm hown hbw hv
end Go.Proofs.YtfkhcpeahdkafaaGreat
namespace Hb
open Go Go.RowKit
theorem filt_le (o : OpR) (l : List OpR) : (restL o l).length ≤ l.length := List.length_filter_le _ _
theorem setR_bad {l : List OpR} {o : OpR} (h : (!opsValid l || decide (o.prec < 0) || decide (1200 < o.prec) || clsOp o.typ == 0 || decide (100 < o.name.size)) = true) : setR l o = ([], 1) := by
 unfold setR; rw [if_pos h]
theorem setR_fix {l : List OpR} {o : OpR} (h : (!opsValid l || decide (o.prec < 0) || decide (1200 < o.prec) || clsOp o.typ == 0 || decide (100 < o.name.size)) = false) (hf : fixedS l o = true) : setR l o = ([], 5) := by
 unfold setR; rw [h, if_neg (by simp), if_pos hf]
theorem setR_full {l : List OpR} {o : OpR} (h : (!opsValid l || decide (o.prec < 0) || decide (1200 < o.prec) || clsOp o.typ == 0 || decide (100 < o.name.size)) = false) (hf : fixedS l o = false) (hn : 100 < (newL l o).length) : setR l o = ([], 13) := by
 unfold setR; rw [h, if_neg (by simp), hf, if_neg (by simp), if_pos hn]
theorem setR_ok {l : List OpR} {o : OpR} (h : (!opsValid l || decide (o.prec < 0) || decide (1200 < o.prec) || clsOp o.typ == 0 || decide (100 < o.name.size)) = false) (hf : fixedS l o = false) (hn : ¬ 100 < (newL l o).length) : setR l o = (newL l o, 0) := by
 unfold setR; rw [h, if_neg (by simp), hf, if_neg (by simp), if_neg hn]
theorem own_nil {w : World} {base e n cap : Nat} {A : Option Addr} {xs : List Value} (h : w.ownsRow base e 3 (.slice A n cap) n xs) : n = 0 → (Value.slice A n cap = .slice none 0 0 ∨ ∃ ad, A = some ad) := by
 intro _
 rcases h.2 with ⟨hv, _⟩ | ⟨g, c, cur, hv, _⟩
 ·exact .inl hv
 ·injection hv with h1 _ _
  exact .inr ⟨_, h1⟩
theorem BoxAt.over {w0 w w' : World} {o : OpR} {B : Nat} (h : BoxAt w0 w o) (hlt : w0.heap.size < B) (hB : Below B w w') : BoxAt w0 w' o where
 bel := h.bel.trans (hB.mono (Nat.le_of_lt hlt))
 lt := Nat.lt_of_lt_of_le h.lt hB.size
 c0 := (hB.cell (p := ⟨_, _, none⟩) hlt).trans h.c0
 c1 := (hB.cell (p := ⟨_, _, none⟩) hlt).trans h.c1
 c2 := (hB.cell (p := ⟨_, _, none⟩) hlt).trans h.c2
structure Tab (w : World) (A : Option Addr) (n cap : Nat) (l : List OpR) : Prop where
 len : n = l.length
 ops : OpsAt w A l
 nil : n = 0 → (Value.slice A n cap = .slice none 0 0 ∨ ∃ ad, A = some ad)
theorem Tab.none (w : World) : Tab w none 0 0 [] := ⟨rfl, OpsAt.nil _ _, fun _ => .inl rfl⟩
theorem Tab.below {w w' : World} {A : Option Addr} {n cap : Nat} {l : List OpR} (h : Tab w A n cap l) (hB : Below w.heap.size w w') : Tab w' A n cap l := ⟨h.len, h.ops.below hB, h.nil⟩
theorem Tab.own {w : World} {base e n cap : Nat} {A : Option Addr} {l : List OpR} (h : w.ownsRow base e 3 (.slice A n cap) n (opsCells l)) : Tab w A n cap l := ⟨(own_len h).symm, ops_own h, own_nil h⟩
end Hb
namespace Go.Proofs.YtfkhcpeahdkafaaGreat
open Go.RowKit Hb
set_option maxRecDepth 100000
set_option maxHeartbeats 3200000 in
theorem ops_set (A : Option Addr) (n cap : Nat) (l : List OpR) (prec typ : Int) (name : ByteArray) (w : World) (hm : n ≤ 400) (hT : Tab w A n cap l) :
  Calls Tryz.prog 149 #[.slice A n cap, .int .i64 prec, .int .i64 typ, .string name] w fun e w' => ∃ A' n' cap', e = .returned (.tuple #[.slice A' n' cap', .int .i64 (setR l ⟨name, typ, prec⟩).2]) ∧ Below w.heap.size w w' ∧ Tab w' A' n' cap' (setR l ⟨name, typ, prec⟩).1 := by
 have HV := Lib.hid (ops_valid A n cap l w hT.len hm hT.ops)
 cases hbad : (!opsValid l || decide (prec < 0) || decide (1200 < prec) || clsOp typ == 0 || decide (100 < name.size))
 ·have HG := Lib.hid hbad
  simp at hbad
  obtain ⟨⟨⟨⟨hv, hb1⟩, hb2⟩, hb3⟩, hb4⟩ := hbad
  have HVL := Lib.hid hv
  rw [hv] at HV
  clear hv
  obtain ⟨o, HOE⟩ : ∃ o : OpR, Hid (o = ⟨name, typ, prec⟩) := ⟨_, Lib.hid rfl⟩
  have HFX : Hid (∀ (W : World), OpsAt W A l → Calls Tryz.prog 187 #[.slice A n cap, .agg #[.string name, .int .i64 typ, .int .i64 prec]] W fun e w' => e = .returned (.bool (fixedS l o)) ∧ Below W.heap.size W w') := Lib.hid fun W hW => by
   rw [HOE.out]; exact ops_fixed A n cap l ⟨name, typ, prec⟩ W hT.len hm hW
  have HTA := Lib.hid hT
  have hl100 : n ≤ 100 := by have := (opsValid_at l HVL.out).1; have := hT.len; omega
  rw [← HOE.out]
  have HG' : Hid ((!opsValid l || decide (o.prec < 0) || decide (1200 < o.prec) || clsOp o.typ == 0 || decide (100 < o.name.size)) = false) := by rw [HOE.out]; exact HG
  clear hT HG
  have b1 : decide (prec < 0) = false := by simpa using hb1
  have b2 : decide (1200 < prec) = false := by simpa using hb2
  have b3 : (clsOp typ == 0) = false := by simpa using hb3
  have b4 : decide ((100 : Int) < (name.size : Int)) = false := by simp; omega
  clear hb1 hb2 hb3 hb4
  cases hfx : fixedS l o
  ·rw [hfx] at HFX
   have HFS := Lib.hid hfx
   clear hfx
   go_enter Tryz.func149, Tryz.ntmps149
   go_wp2_with fail
   refine HV.out.mono ?_; rintro e w1 ⟨rfl, hB1⟩
   go_wp2_with fail
   refine (op_class typ w1).mono ?_; rintro e w2 ⟨rfl, hB2⟩
   have hB02 : Below w.heap.size w w2 := hB1.trans (hB2.mono hB1.size)
   have hX : Hid (BoxAt w2 (w2.alloc (.cells #[.string name, .int .i64 typ, .int .i64 prec] 82)) o) := by rw [HOE.out]; exact Lib.hid (BoxAt.start w2 ⟨name, typ, prec⟩ 82)
   go_wp2_with fail
   refine (HFX.out _ (HTA.out.ops.below (hB02.trans (hX.out.bel.mono hB02.size)))).mono ?_; rintro e w3 ⟨rfl, hB3⟩
   have hX3 := Lib.hid (hX.out.call hB3)
   have hB03 : Below w.heap.size w w3 := hB02.trans (hX3.out.bel.mono hB02.size)
   have hx3 : w2.heap.size < w3.heap.size := hX3.out.lt
   have hT3 := Lib.hid (HTA.out.below hB03)
   clear hX hB3
   go_wp2_with fail
   refine (ops_clone A n cap l w3 hT3.out.len hm hT3.out.ops hT3.out.nil).mono ?_; rintro e w4 ⟨A4, c4, rfl, hB4, hO4⟩
   have hX4 := Lib.hid (hX3.out.call hB4)
   have HD := Lib.hid (ops_delete A4 n c4 l o w2.heap.size w3.heap.size w4 hm hO4 hx3 hB4.size hX4.out.c0 hX4.out.c1 hX4.out.c2)
   clear hO4
   go_wp2_with fail
   refine HD.out.mono ?_; rintro e w5 ⟨n5, rfl, hB5, hO5⟩
   have hX5 := Lib.hid (hX4.out.over hx3 hB5)
   have hB45 : Below w3.heap.size w3 w5 := hB4.trans hB5
   have hB05 : Below w.heap.size w w5 := hB03.trans (hB45.mono hB03.size)
   have HO5 := Lib.hid hO5
   have hn5 : n5 ≤ 100 := by have h1 := own_len hO5; have h2 := filt_le o l; have h3 := HTA.out.len; omega
   clear hO5 HD HFX HV
   have HN5 := Lib.hid (own_len HO5.out)
   by_cases hp : 0 < prec
   ·have HNL : Hid (newL l o = insO o (restL o l)) := by
     refine Lib.hid ?_
     unfold newL
     rw [if_pos (by rw [HOE.out]; exact hp)]
    have hs0 := sorted_valid HVL.out
    have HSR := Lib.hid (ops_search A4 n5 c4 (restL o l) o w5 HN5.out.symm (by omega) (ops_own HO5.out) ((hs0.rest o).mono o))
    clear hs0
    unfold opV at HSR
    have c0 := hX5.out.c0
    have c1 := hX5.out.c1
    have c2 := hX5.out.c2
    go_wp2_with fail
    refine HSR.out.mono ?_; rintro e w6 ⟨i, b, rfl, hPa, hB6⟩
    have hX6 := Lib.hid (hX5.out.call hB6)
    have HIN := Lib.hid (insO_parts o (restL o l) i (rest_ne o l) hPa)
    have hi5 : i ≤ n5 := by have := hPa.hl; have := HN5.out; omega
    have hB6' : Below w3.heap.size w5 w6 := hB6.mono hB45.size
    have HI6 := Lib.hid (ops_insert A4 n5 c4 i (restL o l) o w6.heap.size w3.heap.size (w6.alloc (.cells #[.string o.name, .int .i64 o.typ, .int .i64 o.prec] 82)) (by omega) hi5 ((own_belowO HO5.out hB6).alloc _) (by have := hB45.size; have := hB6.size; simp; omega) (fun g hg => by
     have := (HO5.out.lt g (by rw [hg]; rfl)).2
     have := hB6.size
     omega) (heap_alloc_new _ _))
    rw [HIN.out] at HI6
    clear hPa HSR c0 c1 c2
    have c0 := hX6.out.c0
    have c1 := hX6.out.c1
    have c2 := hX6.out.c2
    have hB06 : Below w3.heap.size w3 w6 := hB45.trans hB6'
    have hBa : Below w3.heap.size w3 (w6.alloc (.cells #[.string o.name, .int .i64 o.typ, .int .i64 o.prec] 82)) := hB06.alloc (by have := hB06.size; exact this) _
    go_wp2_with fail
    refine HI6.out.mono ?_; rintro e w7 ⟨A7, c7, rfl, hB7, hO7⟩
    have HT7 := Lib.hid (Tab.own hO7)
    have HN7 := Lib.hid (own_len hO7)
    rw [← HNL.out] at HN7 HT7
    clear hO7 HI6
    have hBz : Below w.heap.size w w7 := hB03.trans ((hBa.trans hB7).mono hB03.size)
    by_cases hfull : 100 < n5 + 1
    ·have b5 : decide ((100 : Int) < (n5 : Int) + 1) = true := by simp; omega
     have HR := Lib.hid (setR_full HG'.out HFS.out (by rw [HN7.out]; exact hfull))
     go_wp2_with fail
     go_ret2
     exact ⟨none, 0, 0, by rw [HR.out]; rfl, hBz, by rw [HR.out]; exact Tab.none _⟩
    ·have b5 : decide ((100 : Int) < (n5 : Int) + 1) = false := by simp; omega
     have HR := Lib.hid (setR_ok HG'.out HFS.out (by rw [HN7.out]; exact hfull))
     go_wp2_with fail
     go_ret2
     exact ⟨A7, n5 + 1, c7, by rw [HR.out]; rfl, hBz, by rw [HR.out]; exact HT7.out⟩
   ·have b6 : decide (0 < prec) = false := by simpa using hp
    have HNL : Hid (newL l o = restL o l) := by
     refine Lib.hid ?_
     unfold newL
     rw [if_neg (by rw [HOE.out]; exact hp)]
    have HT5 := Lib.hid (Tab.own HO5.out)
    rw [← HNL.out] at HT5 HN5
    have HR := Lib.hid (setR_ok HG'.out HFS.out (by rw [HN5.out]; omega))
    have b5 : decide ((100 : Int) < (n5 : Int)) = false := by simp; omega
    go_wp2_with fail
    go_ret2
    exact ⟨A4, n5, c4, by rw [HR.out]; rfl, hB05, by rw [HR.out]; exact HT5.out⟩
  ·rw [hfx] at HFX
   have HR := Lib.hid (setR_fix HG'.out hfx)
   clear hfx
   go_enter Tryz.func149, Tryz.ntmps149
   go_wp2_with fail
   refine HV.out.mono ?_; rintro e w1 ⟨rfl, hB1⟩
   go_wp2_with fail
   refine (op_class typ w1).mono ?_; rintro e w2 ⟨rfl, hB2⟩
   have hB02 : Below w.heap.size w w2 := hB1.trans (hB2.mono hB1.size)
   have hX : Hid (BoxAt w2 (w2.alloc (.cells #[.string name, .int .i64 typ, .int .i64 prec] 82)) o) := by rw [HOE.out]; exact Lib.hid (BoxAt.start w2 ⟨name, typ, prec⟩ 82)
   go_wp2_with fail
   refine (HFX.out _ (HTA.out.ops.below (hB02.trans (hX.out.bel.mono hB02.size)))).mono ?_; rintro e w3 ⟨rfl, hB3⟩
   have hX3 := Lib.hid (hX.out.call hB3)
   have hB03 : Below w.heap.size w w3 := hB02.trans (hX3.out.bel.mono hB02.size)
   go_wp2_with fail
   go_ret2
   exact ⟨none, 0, 0, by rw [HR.out]; rfl, hB03, by rw [HR.out]; exact Tab.none _⟩
 ·have HR := Lib.hid (setR_bad (l := l) (o := ⟨name, typ, prec⟩) hbad)
  have HTA := Lib.hid hT
  cases hv : opsValid l
  ·rw [hv] at HV
   clear hv hbad hT
   go_enter Tryz.func149, Tryz.ntmps149
   go_wp2_with fail
   refine HV.out.mono ?_; rintro e w1 ⟨rfl, hB1⟩
   go_wp2_with fail
   go_ret2
   exact ⟨none, 0, 0, by rw [HR.out]; rfl, hB1, by rw [HR.out]; exact Tab.none _⟩
  ·rw [hv] at HV hbad
   have HC := Lib.hid (op_class typ)
   have HBD : Hid (prec < 0 ∨ 1200 < prec ∨ clsOp typ = 0 ∨ (100 : Int) < name.size) := by
    simp at hbad
    refine Lib.hid ?_
    rcases hbad with ((h | h) | h) | h
    ·exact .inl h
    ·exact .inr (.inl h)
    ·exact .inr (.inr (.inl h))
    ·exact .inr (.inr (.inr (by omega)))
   clear hv hbad hT
   generalize clsOp typ = c at *
   go_enter Tryz.func149, Tryz.ntmps149
   go_wp2_with fail
   refine HV.out.mono ?_; rintro e w1 ⟨rfl, hB1⟩
   by_cases h1 : prec < 0
   ·go_wp2_with fail
    go_ret2
    exact ⟨none, 0, 0, by rw [HR.out]; rfl, hB1, by rw [HR.out]; exact Tab.none _⟩
   by_cases h2 : 1200 < prec
   ·go_wp2_with fail
    go_ret2
    exact ⟨none, 0, 0, by rw [HR.out]; rfl, hB1, by rw [HR.out]; exact Tab.none _⟩
   have HB2 : ∀ w2, Below w1.heap.size w1 w2 → Below w.heap.size w w2 := fun w2 h => hB1.trans (h.mono hB1.size)
   have b1 : decide (prec < 0) = false := by simpa using h1
   have b2 : decide (1200 < prec) = false := by simpa using h2
   by_cases h3 : c = 0
   ·go_wp2_with fail
    refine (HC.out w1).mono ?_; rintro e w2 ⟨rfl, hB2⟩
    go_wp2_with fail
    go_ret2
    exact ⟨none, 0, 0, by rw [HR.out]; rfl, HB2 _ hB2, by rw [HR.out]; exact Tab.none _⟩
   ·have b3 : (c == 0) = false := by simpa using h3
    have b4 : decide ((100 : Int) < (name.size : Int)) = true := by
     rcases HBD.out with h | h | h | h
     ·exact absurd h h1
     ·exact absurd h h2
     ·exact absurd h h3
     ·simpa using h
    go_wp2_with fail
    refine (HC.out w1).mono ?_; rintro e w2 ⟨rfl, hB2⟩
    go_wp2_with fail
    go_ret2
    exact ⟨none, 0, 0, by rw [HR.out]; rfl, HB2 _ hB2, by rw [HR.out]; exact Tab.none _⟩
end Go.Proofs.YtfkhcpeahdkafaaGreat
