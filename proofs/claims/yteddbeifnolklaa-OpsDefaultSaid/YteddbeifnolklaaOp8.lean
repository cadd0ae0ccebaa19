/- Operators: the predefined ones, as they are written down. -/
import Derived.Test.YteddbeifnolklaaOp7
import Derived.Laws.Rows
import Derived.Laws.Tables
import Derived.Laws.CopyOwn
namespace Hb
open Go Go.RowKit
/-- The groups: priority, type, names. -/
def grs : List (Int × Int × List ByteArray) := [(1200, 1, [⟨#[58, 45]⟩, ⟨#[45, 45, 62]⟩]), (1200, 5, [⟨#[58, 45]⟩, ⟨#[63, 45]⟩]), (1100, 2, [⟨#[59]⟩]), (1050, 2, [⟨#[45, 62]⟩]), (1000, 2, [⟨#[44]⟩]), (900, 4, [⟨#[92, 43]⟩]), (700, 1, [⟨#[61]⟩, ⟨#[92, 61]⟩, ⟨#[61, 61]⟩, ⟨#[92, 61, 61]⟩, ⟨#[64, 60]⟩, ⟨#[64, 61, 60]⟩, ⟨#[64, 62]⟩, ⟨#[64, 62, 61]⟩, ⟨#[61, 46, 46]⟩, ⟨#[105, 115]⟩, ⟨#[61, 58, 61]⟩, ⟨#[61, 92, 61]⟩, ⟨#[60]⟩, ⟨#[61, 60]⟩, ⟨#[62]⟩, ⟨#[62, 61]⟩]), (500, 3, [⟨#[43]⟩, ⟨#[45]⟩, ⟨#[47, 92]⟩, ⟨#[92, 47]⟩]), (400, 3, [⟨#[42]⟩, ⟨#[47]⟩, ⟨#[47, 47]⟩, ⟨#[114, 101, 109]⟩, ⟨#[109, 111, 100]⟩, ⟨#[100, 105, 118]⟩, ⟨#[60, 60]⟩, ⟨#[62, 62]⟩]), (200, 1, [⟨#[42, 42]⟩]), (200, 2, [⟨#[94]⟩]), (200, 4, [⟨#[43]⟩, ⟨#[45]⟩, ⟨#[92]⟩])]
def grP (k : Nat) : Int := (grs.getD k (0, 0, [])).1
def grT (k : Nat) : Int := (grs.getD k (0, 0, [])).2.1
def grN (k : Nat) : List ByteArray := (grs.getD k (0, 0, [])).2.2
def grA (k : Nat) : Array Value := ((grN k).map Value.string).toArray
def grV (b : Nat → Nat) (k : Nat) : Value := .slice (some ⟨b k, 0, none⟩) (grN k).length (grN k).length
def grCells (b : Nat → Nat) : Array Value := ((List.range 12).flatMap fun k => [Value.int .i64 (grP k), .int .i64 (grT k), grV b k]).toArray
def gr0 : Array Value := ((List.range 12).flatMap fun _ => [Value.int .i64 0, .int .i64 0, .slice none 0 0]).toArray
theorem grCells_size (b : Nat → Nat) : (grCells b).size = 36 := rfl
theorem grCells_one (b : Nat → Nat) : (grCells b).all (·.oneCell') = true := by kernel_rfl
/-- A row of names of the call's own. -/
structure BS (w w1 : World) (b : Nat) (k : Nat) : Prop where
  bel : Below w.heap.size w w1
  lt : b < w1.heap.size
  le : w.heap.size ≤ b
  cells : ∀ j v, (grA k)[j]? = some v → w1.cell? ⟨b, j, none⟩ = some v
theorem BS.start (w : World) (k : Nat) (t : TypeId) : BS w (w.alloc (.cells (grA k) t)) w.heap.size k where
  bel := (Below.refl _ _).alloc (Nat.le_refl _) _
  lt := by simp
  le := Nat.le_refl _
  cells := fun j v h => (World.cell?_alloc_new _ _ _ j).trans h
theorem grA_get (k j : Nat) (h : j < (grN k).length) : (grA k)[j]? = some (.string (grN k)[j]) := by
  unfold grA
  simp [h]
theorem BS.out {w w1 wb : World} {b k : Nat} (h : BS w w1 b k) (c : Below w1.heap.size w1 wb) : b < wb.heap.size ∧ ∀ (j : Nat) (hj : j < (grN k).length), wb.cell? ⟨b, j, none⟩ = some (.string (grN k)[j]) :=
  ⟨Nat.lt_of_lt_of_le h.lt c.size, fun j hj => (c.cell (p := ⟨b, j, none⟩) h.lt).trans (h.cells j _ (grA_get k j hj))⟩
def opsCells (l : List OpR) : List Value := l.flatMap opCells
theorem opsCells_app (a b : List OpR) : opsCells (a ++ b) = opsCells a ++ opsCells b := by unfold opsCells; rw [List.flatMap_append]
def grO (k : Nat) : List OpR := (grN k).map fun s => ⟨s, grT k, grP k⟩
def preL (k : Nat) : List OpR := (List.range k).flatMap grO
theorem preL_succ (k : Nat) : preL (k + 1) = preL k ++ grO k := by unfold preL; rw [List.range_succ, List.flatMap_append]; simp
theorem preL_len : (preL 12).length = 41 := by decide +kernel
theorem preL_le (k : Nat) (h : k ≤ 12) : (preL k).length ≤ 41 := by
  have : ∀ d j, (preL j).length ≤ (preL (j + d)).length := by
    intro d
    induction d with
    | zero => intro j; exact Nat.le_refl _
    | succ d ih => intro j; refine Nat.le_trans (ih j) ?_; rw [show j + (d + 1) = (j + d) + 1 by omega, preL_succ, List.length_append]; omega
  have h2 := this (12 - k) k
  rw [show k + (12 - k) = 12 by omega, preL_len] at h2
  exact h2
theorem grO_le (k : Nat) (h : k < 12) : (preL k).length + (grN k).length ≤ 41 := by
  have := preL_le (k + 1) (by omega)
  rw [preL_succ, List.length_append] at this
  unfold grO at this
  rw [List.length_map] at this
  exact this
theorem own_some {w : World} {base e size : Nat} {v : Value} {n : Nat} {xs : List Value} (h : w.ownsRow base e size v n xs) (hn : 0 < n) : ∃ g cap, v = .slice (some ⟨g, 0, none⟩) n cap := by
  rcases h.2 with ⟨_, h0⟩ | ⟨g, cap, cur, rfl, _⟩
  · omega
  · exact ⟨g, cap, rfl⟩
/-- An operator put in its place. -/
def insO (o : OpR) : List OpR → List OpR
  | [] => [o]
  | a :: l => if cmpOp o a < 0 then o :: a :: l else a :: insO o l
theorem insO_perm (o : OpR) : ∀ l : List OpR, (insO o l).Perm (o :: l)
  | [] => List.Perm.refl _
  | a :: l => by
    unfold insO
    split
    · exact List.Perm.refl _
    · exact ((insO_perm o l).cons a).trans (List.Perm.swap o a l)
theorem insO_len (o : OpR) (l : List OpR) : (insO o l).length = l.length + 1 := by rw [(insO_perm o l).length_eq]; rfl
def insAll (acc l : List OpR) : List OpR := l.foldl (fun t o => insO o t) acc
theorem insAll_perm : ∀ (l acc : List OpR), (insAll acc l).Perm (acc ++ l)
  | [], acc => by unfold insAll; simp
  | o :: l, acc => by
    have h1 := insAll_perm l (insO o acc)
    have h2 : (insO o acc ++ l).Perm (acc ++ o :: l) := ((insO_perm o acc).append_right l).trans (by simpa using (List.perm_middle (a := o) (l₁ := acc) (l₂ := l)).symm)
    exact h1.trans h2
/-- The predefined operators. -/
def defL : List OpR := insAll [] (preL 12)
theorem defL_perm : defL.Perm (preL 12) := by
  have := insAll_perm (preL 12) []
  rw [List.nil_append] at this
  exact this
theorem defL_ok : opsValid defL = true := by decide +kernel
theorem own_ne_type {w : World} {base e size : Nat} {v : Value} {n : Nat} {xs : List Value} {g : Nat} {cs : Array Value} {t : TypeId} {fr : Nat × Nat} (h : w.ownsRow base e size v n xs) (hg : w.heap[g]? = some (.cells cs t fr)) (ht : t ≠ e) : some g ≠ v.ownBlock := by
  rcases h.2 with ⟨rfl, _⟩ | ⟨g', cap, cur, rfl, _, hh, _⟩
  · simp [Value.ownBlock]
  · intro heq
    have : g = g' := by simpa [Value.ownBlock] using heq
    subst this
    rw [hh] at hg
    injection hg with hg
    injection hg with _ h2 _
    exact ht h2.symm
theorem cell_of_heap {w : World} {g : Nat} {cs : Array Value} {t : TypeId} {fr : Nat × Nat} (hg : w.heap[g]? = some (.cells cs t fr)) (j : Nat) : w.cell? ⟨g, j, none⟩ = cs[j]? := by
  simp [World.cell?, hg]
end Hb
namespace Go.Proofs.Yteddbeifnolklaa
open Go.RowKit Hb
set_option maxRecDepth 100000
theorem infoGr : (Try.prog.info? 50).map (·.size) = some 36 := by kernel_rfl
theorem infoOp : (Try.prog.info? 34).map (fun i => (i.zero, i.size, i.bytes)) = some (some (.agg #[.string ⟨#[]⟩, .int .i64 0, .int .i64 0]), 3, 32) := by kernel_rfl
theorem at_appOO {ops : Array Oper} {rest : List Oper} {a : Act} {Q : Exit → Act → World → Prop} {w : World} {d t p f x g} (h : wpList Try.prog ops Q (⟨d, .call { callee := .builtin .append, args := x, argTypes := #[22, 22] }, t, p, f, g⟩ :: rest) a w) : wpList Try.prog ops Q (⟨d, .call { callee := .builtin .append, args := x, argTypes := #[22, 22] }, t, p, f, g⟩ :: rest) a w := h
theorem wpList_append_op {w : World} {ops : Array Oper} {rest : List Oper} {o : Oper} {a : Act} {Q : Exit → Act → World → Prop} (hgd : o.guard = none) (s x : Operand)
    (ho : o.op = .call { callee := .builtin .append, args := #[s, x], argTypes := #[22, 22] })
    (base : Nat) (v : Value) (m : Nat) (l : List OpR) (hs : a.eval s = v) (W : World) (hown : W.ownsRow base 34 3 v m (opsCells l)) (r : OpR)
    (hw : w = W.alloc (.cells #[.string r.name, .int .i64 r.typ, .int .i64 r.prec] 34)) (hx : a.eval x = .slice (some ⟨W.heap.size, 0, none⟩) 1 1) (h63 : m ≤ 70368744) (hbase : base ≤ W.heap.size)
    (h : ∀ v' w', w'.ownsRow base 34 3 v' (m + 1) (opsCells (l ++ [r])) → Below base W w' → w.grownBy w' v.ownBlock → wpList Try.prog ops Q rest (a.put o.dst v') w') : wpList Try.prog ops Q (o :: rest) a w := by
  refine wpList_append_one hgd s x 22 34 ho Try.underlying22 _ 3 32 infoOp rfl (by decide) base v m _ hs W hown #[.string r.name, .int .i64 r.typ, .int .i64 r.prec] rfl (by simp [Value.oneCell']) hw hx (by omega) (by omega) hbase fun v' w' ho' hb' hg' => h v' w' ?_ hb' hg'
  rw [opsCells_app]
  exact ho'
theorem at_bs {ops : Array Oper} {rest : List Oper} {a : Act} {Q : Exit → Act → World → Prop} {w : World} {d n t p f x g} (h : wpList Try.prog ops Q (⟨d, .buildSlice 47 n x, t, p, f, g⟩ :: rest) a w) : wpList Try.prog ops Q (⟨d, .buildSlice 47 n x, t, p, f, g⟩ :: rest) a w := h
theorem at_bgr {ops : Array Oper} {rest : List Oper} {a : Act} {Q : Exit → Act → World → Prop} {w : World} {d t p f x g} (h : wpList Try.prog ops Q (⟨d, .build 50 x, t, p, f, g⟩ :: rest) a w) : wpList Try.prog ops Q (⟨d, .build 50 x, t, p, f, g⟩ :: rest) a w := h
theorem at_agr {ops : Array Oper} {rest : List Oper} {a : Act} {Q : Exit → Act → World → Prop} {w : World} {d t p f g} (h : wpList Try.prog ops Q (⟨d, .alloc 50, t, p, f, g⟩ :: rest) a w) : wpList Try.prog ops Q (⟨d, .alloc 50, t, p, f, g⟩ :: rest) a w := h
theorem at_sgr {ops : Array Oper} {rest : List Oper} {a : Act} {Q : Exit → Act → World → Prop} {w : World} {d t p f x y g} (h : wpList Try.prog ops Q (⟨d, .store 50 x y, t, p, f, g⟩ :: rest) a w) : wpList Try.prog ops Q (⟨d, .store 50 x y, t, p, f, g⟩ :: rest) a w := h
theorem at_lgr {ops : Array Oper} {rest : List Oper} {a : Act} {Q : Exit → Act → World → Prop} {w : World} {d t p f x g} (h : wpList Try.prog ops Q (⟨d, .load 50 x, t, p, f, g⟩ :: rest) a w) : wpList Try.prog ops Q (⟨d, .load 50 x, t, p, f, g⟩ :: rest) a w := h
theorem at_igr {ops : Array Oper} {rest : List Oper} {a : Act} {Q : Exit → Act → World → Prop} {w : World} {d t p f x y g} (h : wpList Try.prog ops Q (⟨d, .index 50 x y, t, p, f, g⟩ :: rest) a w) : wpList Try.prog ops Q (⟨d, .index 50 x y, t, p, f, g⟩ :: rest) a w := h
theorem wpList_bs {ops : Array Oper} {rest : List Oper} {o : Oper} {a : Act} {Q : Exit → Act → World → Prop} {w : World} (hgd : o.guard = none) (k n : Nat) (parts : List (Nat × Operand)) (parts' : List (Nat × Value))
    (ho : o.op = .buildSlice 47 n parts.toArray) (hm : parts.map (fun x => (x.fst, a.eval x.snd)) = parts')
    (hr : ∀ w : World, (Instr.buildSlice 47 n parts'.toArray).run Try.prog w = .ok (.slice (some ⟨w.heap.size, 0, none⟩) n n) (w.alloc (.cells (grA k) 9)))
    (h : ∀ b w1, BS w w1 b k → wpList Try.prog ops Q rest (a.put o.dst (.slice (some ⟨b, 0, none⟩) n n)) w1) : wpList Try.prog ops Q (o :: rest) a w := by
  refine wpList_plain hgd fun K hK => ?_
  have e : (execOp a.eval o).run Try.prog w = .ok (.value (.slice (some ⟨w.heap.size, 0, none⟩) n n)) (w.alloc (.cells (grA k) 9)) := by
    unfold execOp
    rw [ho]
    simp only [List.map_toArray, hm]
    rw [Sem.run_bind, hr]
    rfl
  unfold Oper.wp
  rw [e]
  exact hK _ _ (h _ _ (BS.start w k _))
theorem wpList_bgr {ops : Array Oper} {rest : List Oper} {o : Oper} {a : Act} {Q : Exit → Act → World → Prop} {w : World} (hgd : o.guard = none) (b : Nat → Nat) (parts : List (Nat × Operand)) (parts' : List (Nat × Value))
    (ho : o.op = .build 50 parts.toArray) (hm : parts.map (fun x => (x.fst, a.eval x.snd)) = parts')
    (hr : ∀ w : World, (Instr.build 50 parts'.toArray).run Try.prog w = .ok (.agg (grCells b)) w)
    (h : ∀ f : Nat → Nat, Hid (f = b) → wpList Try.prog ops Q rest (a.put o.dst (.agg (grCells f))) w) : wpList Try.prog ops Q (o :: rest) a w := by
  refine wpList_plain hgd fun K hK => ?_
  have e : (execOp a.eval o).run Try.prog w = .ok (.value (.agg (grCells b))) w := by
    unfold execOp
    rw [ho]
    simp only [List.map_toArray, hm]
    rw [Sem.run_bind, hr]
    rfl
  unfold Oper.wp
  rw [e]
  exact hK _ _ (h b (Lib.hid rfl))
theorem alloc_gr (w : World) : (Instr.alloc 50 true (.tuple #[])).run Try.prog w = .ok (.pointer (some ⟨w.heap.size, 0, none⟩)) (w.alloc (.cells gr0 50)) := by kernel_rfl
theorem wpList_agr {ops : Array Oper} {rest : List Oper} {o : Oper} {a : Act} {Q : Exit → Act → World → Prop} {w : World} (hgd : o.guard = none) (ho : o.op = .alloc 50)
    (h : ∀ b w1, w1.heap[b]? = some (.cells gr0 50) → w.heap.size ≤ b → Below w.heap.size w w1 → wpList Try.prog ops Q rest (a.put o.dst (.pointer (some ⟨b, 0, none⟩))) w1) : wpList Try.prog ops Q (o :: rest) a w := by
  refine wpList_plain hgd fun K hK => ?_
  have e : (execOp a.eval o).run Try.prog w = .ok (.value (.pointer (some ⟨w.heap.size, 0, none⟩))) (w.alloc (.cells gr0 50)) := by
    unfold execOp
    rw [ho]
    simp only []
    rw [Sem.run_bind, alloc_gr]
    rfl
  unfold Oper.wp
  rw [e]
  exact hK _ _ (h _ _ (heap_alloc_new w _) (Nat.le_refl _) ((Below.refl _ _).alloc (Nat.le_refl _) _))
theorem wpList_sgr {ops : Array Oper} {rest : List Oper} {o : Oper} {a : Act} {Q : Exit → Act → World → Prop} {w : World} (hgd : o.guard = none) (x y : Operand) {b : Nat} {f : Nat → Nat}
    (ho : o.op = .store 50 x y) (hx : a.eval x = .pointer (some ⟨b, 0, none⟩)) (hy : a.eval y = .agg (grCells f)) (T : w.heap[b]? = some (.cells gr0 50))
    (h : ∀ w1, w1.heap[b]? = some (.cells (grCells f) 50) → (∀ B w0, Below B w0 w → B ≤ b → Below B w0 w1) → wpList Try.prog ops Q rest (a.put o.dst undef) w1) : wpList Try.prog ops Q (o :: rest) a w :=
  wpList_store_row hgd _ x y ho b (grCells f) hx hy _ _ T (by rw [infoGr, grCells_size]) rfl (grCells_one f)
    (h _ (setRow_heap w b _ _ _ _ T) fun B w0 hB hb => below_setRow hB hb _)
theorem wpList_lgr {ops : Array Oper} {rest : List Oper} {o : Oper} {a : Act} {Q : Exit → Act → World → Prop} {w : World} (hgd : o.guard = none) (x : Operand) {b : Nat} {f : Nat → Nat}
    (ho : o.op = .load 50 x) (hx : a.eval x = .pointer (some ⟨b, 0, none⟩)) (T : w.heap[b]? = some (.cells (grCells f) 50))
    (h : wpList Try.prog ops Q rest (a.put o.dst (.agg (grCells f))) w) : wpList Try.prog ops Q (o :: rest) a w :=
  wpList_load_row hgd _ x ho b hx _ _ _ _ T Try.underlying50 rfl (by rw [infoGr, grCells_size]) h
theorem bs_0 (w : World) : (Instr.buildSlice 47 2 #[(0, .string ⟨#[58, 45]⟩), (1, .string ⟨#[45, 45, 62]⟩)]).run Try.prog w = .ok (.slice (some ⟨w.heap.size, 0, none⟩) 2 2) (w.alloc (.cells (grA 0) 9)) := by kernel_rfl
theorem bs_1 (w : World) : (Instr.buildSlice 47 2 #[(0, .string ⟨#[58, 45]⟩), (1, .string ⟨#[63, 45]⟩)]).run Try.prog w = .ok (.slice (some ⟨w.heap.size, 0, none⟩) 2 2) (w.alloc (.cells (grA 1) 9)) := by kernel_rfl
theorem bs_2 (w : World) : (Instr.buildSlice 47 1 #[(0, .string ⟨#[59]⟩)]).run Try.prog w = .ok (.slice (some ⟨w.heap.size, 0, none⟩) 1 1) (w.alloc (.cells (grA 2) 9)) := by kernel_rfl
theorem bs_3 (w : World) : (Instr.buildSlice 47 1 #[(0, .string ⟨#[45, 62]⟩)]).run Try.prog w = .ok (.slice (some ⟨w.heap.size, 0, none⟩) 1 1) (w.alloc (.cells (grA 3) 9)) := by kernel_rfl
theorem bs_4 (w : World) : (Instr.buildSlice 47 1 #[(0, .string ⟨#[44]⟩)]).run Try.prog w = .ok (.slice (some ⟨w.heap.size, 0, none⟩) 1 1) (w.alloc (.cells (grA 4) 9)) := by kernel_rfl
theorem bs_5 (w : World) : (Instr.buildSlice 47 1 #[(0, .string ⟨#[92, 43]⟩)]).run Try.prog w = .ok (.slice (some ⟨w.heap.size, 0, none⟩) 1 1) (w.alloc (.cells (grA 5) 9)) := by kernel_rfl
theorem bs_6 (w : World) : (Instr.buildSlice 47 16 #[(0, .string ⟨#[61]⟩), (1, .string ⟨#[92, 61]⟩), (2, .string ⟨#[61, 61]⟩), (3, .string ⟨#[92, 61, 61]⟩), (4, .string ⟨#[64, 60]⟩), (5, .string ⟨#[64, 61, 60]⟩), (6, .string ⟨#[64, 62]⟩), (7, .string ⟨#[64, 62, 61]⟩), (8, .string ⟨#[61, 46, 46]⟩), (9, .string ⟨#[105, 115]⟩), (10, .string ⟨#[61, 58, 61]⟩), (11, .string ⟨#[61, 92, 61]⟩), (12, .string ⟨#[60]⟩), (13, .string ⟨#[61, 60]⟩), (14, .string ⟨#[62]⟩), (15, .string ⟨#[62, 61]⟩)]).run Try.prog w = .ok (.slice (some ⟨w.heap.size, 0, none⟩) 16 16) (w.alloc (.cells (grA 6) 9)) := by kernel_rfl
theorem bs_7 (w : World) : (Instr.buildSlice 47 4 #[(0, .string ⟨#[43]⟩), (1, .string ⟨#[45]⟩), (2, .string ⟨#[47, 92]⟩), (3, .string ⟨#[92, 47]⟩)]).run Try.prog w = .ok (.slice (some ⟨w.heap.size, 0, none⟩) 4 4) (w.alloc (.cells (grA 7) 9)) := by kernel_rfl
theorem bs_8 (w : World) : (Instr.buildSlice 47 8 #[(0, .string ⟨#[42]⟩), (1, .string ⟨#[47]⟩), (2, .string ⟨#[47, 47]⟩), (3, .string ⟨#[114, 101, 109]⟩), (4, .string ⟨#[109, 111, 100]⟩), (5, .string ⟨#[100, 105, 118]⟩), (6, .string ⟨#[60, 60]⟩), (7, .string ⟨#[62, 62]⟩)]).run Try.prog w = .ok (.slice (some ⟨w.heap.size, 0, none⟩) 8 8) (w.alloc (.cells (grA 8) 9)) := by kernel_rfl
theorem bs_9 (w : World) : (Instr.buildSlice 47 1 #[(0, .string ⟨#[42, 42]⟩)]).run Try.prog w = .ok (.slice (some ⟨w.heap.size, 0, none⟩) 1 1) (w.alloc (.cells (grA 9) 9)) := by kernel_rfl
theorem bs_10 (w : World) : (Instr.buildSlice 47 1 #[(0, .string ⟨#[94]⟩)]).run Try.prog w = .ok (.slice (some ⟨w.heap.size, 0, none⟩) 1 1) (w.alloc (.cells (grA 10) 9)) := by kernel_rfl
theorem bs_11 (w : World) : (Instr.buildSlice 47 3 #[(0, .string ⟨#[43]⟩), (1, .string ⟨#[45]⟩), (2, .string ⟨#[92]⟩)]).run Try.prog w = .ok (.slice (some ⟨w.heap.size, 0, none⟩) 3 3) (w.alloc (.cells (grA 11) 9)) := by kernel_rfl
theorem build_gr (b0 b1 b2 b3 b4 b5 b6 b7 b8 b9 b10 b11 : Nat) (w : World) : (Instr.build 50 #[(0, .agg #[.int .i64 1200, .int .i64 1, .slice (some ⟨b0, 0, none⟩) 2 2]), (1, .agg #[.int .i64 1200, .int .i64 5, .slice (some ⟨b1, 0, none⟩) 2 2]), (2, .agg #[.int .i64 1100, .int .i64 2, .slice (some ⟨b2, 0, none⟩) 1 1]), (3, .agg #[.int .i64 1050, .int .i64 2, .slice (some ⟨b3, 0, none⟩) 1 1]), (4, .agg #[.int .i64 1000, .int .i64 2, .slice (some ⟨b4, 0, none⟩) 1 1]), (5, .agg #[.int .i64 900, .int .i64 4, .slice (some ⟨b5, 0, none⟩) 1 1]), (6, .agg #[.int .i64 700, .int .i64 1, .slice (some ⟨b6, 0, none⟩) 16 16]), (7, .agg #[.int .i64 500, .int .i64 3, .slice (some ⟨b7, 0, none⟩) 4 4]), (8, .agg #[.int .i64 400, .int .i64 3, .slice (some ⟨b8, 0, none⟩) 8 8]), (9, .agg #[.int .i64 200, .int .i64 1, .slice (some ⟨b9, 0, none⟩) 1 1]), (10, .agg #[.int .i64 200, .int .i64 2, .slice (some ⟨b10, 0, none⟩) 1 1]), (11, .agg #[.int .i64 200, .int .i64 4, .slice (some ⟨b11, 0, none⟩) 3 3])]).run Try.prog w = .ok (.agg (grCells (fun k => [b0, b1, b2, b3, b4, b5, b6, b7, b8, b9, b10, b11].getD k 0))) w := by kernel_rfl
theorem idx_gr (b : Nat → Nat) (w : World) : ∀ (k : Nat), k < 12 → (Instr.index 50 (.agg (grCells b)) (.int .i64 k)).run Try.prog w = .ok (.agg #[.int .i64 (grP k), .int .i64 (grT k), grV b k]) w
  | 0, _ => by kernel_rfl
  | 1, _ => by kernel_rfl
  | 2, _ => by kernel_rfl
  | 3, _ => by kernel_rfl
  | 4, _ => by kernel_rfl
  | 5, _ => by kernel_rfl
  | 6, _ => by kernel_rfl
  | 7, _ => by kernel_rfl
  | 8, _ => by kernel_rfl
  | 9, _ => by kernel_rfl
  | 10, _ => by kernel_rfl
  | 11, _ => by kernel_rfl
  | _ + 12, h => absurd h (by omega)
theorem wpList_igr {ops : Array Oper} {rest : List Oper} {o : Oper} {a : Act} {Q : Exit → Act → World → Prop} {w : World} (hgd : o.guard = none) (x y : Operand) (b : Nat → Nat) (k : Nat) (hk : k < 12)
    (ho : o.op = .index 50 x y) (hx : a.eval x = .agg (grCells b)) (hy : a.eval y = .int .i64 k)
    (h : wpList Try.prog ops Q rest (a.put o.dst (.agg #[.int .i64 (grP k), .int .i64 (grT k), .slice (some ⟨b k, 0, none⟩) (grN k).length (grN k).length])) w) : wpList Try.prog ops Q (o :: rest) a w := by
  refine wpList_plain hgd fun K hK => ?_
  have e : (execOp a.eval o).run Try.prog w = .ok (.value (.agg #[.int .i64 (grP k), .int .i64 (grT k), grV b k])) w := by
    unfold execOp
    rw [ho]
    simp only [hx, hy]
    rw [Sem.run_bind, idx_gr b w k hk]
    rfl
  unfold Oper.wp
  rw [e]
  exact hK _ _ h
/-- What slices.SortFunc is to do with the predefined operators. -/
def SortSaid : Prop := ∀ (W : World) (g cap B : Nat) (w0 : World), W.ownsRow B 34 3 (.slice (some ⟨g, 0, none⟩) 41 cap) 41 (opsCells (preL 12)) → Below B w0 W →
    Calls Try.prog 34 #[.slice (some ⟨g, 0, none⟩) 41 cap, .func (.func 35) #[] #[]] W fun e w' => e = .returned (.tuple #[]) ∧ Below B w0 w' ∧ OpsAt w' (some ⟨g, 0, none⟩) defL
set_option maxHeartbeats 3200000 in
theorem ops_default (HS : SortSaid) (w : World) :
    Calls Try.prog 11 #[] w fun e w' => ∃ g cap, e = .returned (.slice (some ⟨g, 0, none⟩) 41 cap) ∧ Below w.heap.size w w' ∧ OpsAt w' (some ⟨g, 0, none⟩) defL := by
  go_enter Try.func11, Try.ntmps11
  go_wp2_with (first
    | ((with_reducible refine at_bs ?_); have _m := h10; refine wpList_bs rfl 11 _ _ _ rfl rfl bs_11 ?_; intro b11 w11 h11)
    | ((with_reducible refine at_bs ?_); have _m := h9; refine wpList_bs rfl 10 _ _ _ rfl rfl bs_10 ?_; intro b10 w10 h10)
    | ((with_reducible refine at_bs ?_); have _m := h8; refine wpList_bs rfl 9 _ _ _ rfl rfl bs_9 ?_; intro b9 w9 h9)
    | ((with_reducible refine at_bs ?_); have _m := h7; refine wpList_bs rfl 8 _ _ _ rfl rfl bs_8 ?_; intro b8 w8 h8)
    | ((with_reducible refine at_bs ?_); have _m := h6; refine wpList_bs rfl 7 _ _ _ rfl rfl bs_7 ?_; intro b7 w7 h7)
    | ((with_reducible refine at_bs ?_); have _m := h5; refine wpList_bs rfl 6 _ _ _ rfl rfl bs_6 ?_; intro b6 w6 h6)
    | ((with_reducible refine at_bs ?_); have _m := h4; refine wpList_bs rfl 5 _ _ _ rfl rfl bs_5 ?_; intro b5 w5 h5)
    | ((with_reducible refine at_bs ?_); have _m := h3; refine wpList_bs rfl 4 _ _ _ rfl rfl bs_4 ?_; intro b4 w4 h4)
    | ((with_reducible refine at_bs ?_); have _m := h2; refine wpList_bs rfl 3 _ _ _ rfl rfl bs_3 ?_; intro b3 w3 h3)
    | ((with_reducible refine at_bs ?_); have _m := h1; refine wpList_bs rfl 2 _ _ _ rfl rfl bs_2 ?_; intro b2 w2 h2)
    | ((with_reducible refine at_bs ?_); have _m := h0; refine wpList_bs rfl 1 _ _ _ rfl rfl bs_1 ?_; intro b1 w1 h1)
    | ((with_reducible refine at_bs ?_); refine wpList_bs rfl 0 _ _ _ rfl rfl bs_0 ?_; intro b0 w0 h0)
    | ((with_reducible refine at_bgr ?_); refine wpList_bgr rfl _ _ _ rfl rfl (build_gr b0 b1 b2 b3 b4 b5 b6 b7 b8 b9 b10 b11) ?_; intro f HF)
    | ((with_reducible refine at_agr ?_); refine wpList_agr rfl rfl ?_; intro g wa hga hgl hBa)
    | ((with_reducible refine at_sgr ?_); refine wpList_sgr rfl _ _ rfl rfl rfl hga ?_; intro wb hgb hBb)
    | ((with_reducible refine at_lgr ?_); refine wpList_lgr rfl _ rfl rfl hgb ?_))
  have c11 := hBb _ _ hBa hgl
  have c10 := h11.bel.trans (c11.mono h11.bel.size)
  have c9 := h10.bel.trans (c10.mono h10.bel.size)
  have c8 := h9.bel.trans (c9.mono h9.bel.size)
  have c7 := h8.bel.trans (c8.mono h8.bel.size)
  have c6 := h7.bel.trans (c7.mono h7.bel.size)
  have c5 := h6.bel.trans (c6.mono h6.bel.size)
  have c4 := h5.bel.trans (c5.mono h5.bel.size)
  have c3 := h4.bel.trans (c4.mono h4.bel.size)
  have c2 := h3.bel.trans (c3.mono h3.bel.size)
  have c1 := h2.bel.trans (c2.mono h2.bel.size)
  have c0 := h1.bel.trans (c1.mono h1.bel.size)
  have cw := h0.bel.trans (c0.mono h0.bel.size)
  have HGh : Hid (∀ k, k < 12 → f k < wb.heap.size ∧ ∀ (j : Nat) (hj : j < (grN k).length), wb.cell? ⟨f k, j, none⟩ = some (.string (grN k)[j])) := by
    refine Lib.hid ?_
    rw [HF.out]
    exact fun
    | 0, _ => h0.out c0
    | 1, _ => h1.out c1
    | 2, _ => h2.out c2
    | 3, _ => h3.out c3
    | 4, _ => h4.out c4
    | 5, _ => h5.out c5
    | 6, _ => h6.out c6
    | 7, _ => h7.out c7
    | 8, _ => h8.out c8
    | 9, _ => h9.out c9
    | 10, _ => h10.out c10
    | 11, _ => h11.out c11
    | _ + 12, h => absurd h (by omega)
  clear HF hgb hga hBa hBb hgl c0 c1 c2 c3 c4 c5 c6 c7 c8 c9 c10 c11 h0 h1 h2 h3 h4 h5 h6 h7 h8 h9 h10 h11
  go_loopw [0, 32] (fun v0 i wr => ∃ k : Nat, k ≤ 12 ∧ i = .int .i64 k ∧ Below wb.heap.size wb wr ∧ wr.ownsRow wb.heap.size 34 3 v0 (preL k).length (opsCells (preL k))) (fun _ i _ => 12 - (intOf i).toNat)
  case atStart => exact ⟨0, Nat.zero_le _, rfl, Below.refl _ _, World.ownsRow_nil _ _ _ _⟩
  case round =>
    obtain ⟨k, hk, rfl, hB, hown⟩ := hrel
    have hbs := hB.size
    by_cases hlt : k < 12
    · go_wp2_with ((with_reducible refine at_igr ?_); refine wpList_igr rfl _ _ f k hlt rfl rfl rfl ?_)
      obtain ⟨hfk, hcl⟩ := HGh.out k hlt
      have hO := grO_le k hlt
      have HGO := Lib.hid (show grO k = (grN k).map fun s => (⟨s, grT k, grP k⟩ : OpR) from rfl)
      have HCL := Lib.hid hcl
      clear hcl
      generalize grN k = N at *
      generalize grT k = T at *
      generalize grP k = P at *
      have hTO : (49 : Nat) ≠ 34 := by decide
      go_loopw [0, 38] (fun v0 i wi => ∃ j : Nat, j ≤ N.length ∧ i = .int .i64 j ∧ Below wb.heap.size wb wi ∧ wr.heap.size < wi.heap.size ∧ wi.heap[wr.heap.size]? = some (.cells #[.int .i64 P, .int .i64 T, .slice (some ⟨f k, 0, none⟩) N.length N.length] 49) ∧ wi.ownsRow wb.heap.size 34 3 v0 ((preL k).length + j) (opsCells (preL k ++ (N.take j).map fun s => (⟨s, T, P⟩ : OpR)))) (fun _ i _ => N.length - (intOf i).toNat)
      case atStart => exact ⟨0, Nat.zero_le _, rfl, hB.alloc hbs _, by simp, heap_alloc_new _ _, by simpa using hown.alloc _⟩
      case round =>
        obtain ⟨j, hj, rfl, hBi, hgl, hg3, howni⟩ := hrel
        have hbi := hBi.size
        by_cases hlj : j < N.length
        · have x0 : _ = some (Value.int .i64 P) := cell_of_heap hg3 0
          have x1 : _ = some (Value.int .i64 T) := cell_of_heap hg3 1
          have cc := (hBi.cell (p := ⟨f k, j, none⟩) hfk).trans (HCL.out j hlj)
          have HTk := Lib.hid (List.take_succ_eq_append_getElem hlj)
          have hl63 : (preL k).length + j ≤ 70368744 := by omega
          have HOw := Lib.hid howni
          have HG3 := Lib.hid hg3
          clear howni hg3
          generalize N[j] = s at *
          go_wp2_with ((with_reducible refine at_appOO ?_); go_must (refine wpList_append_op rfl _ _ rfl wb.heap.size _ _ _ rfl _ HOw.out ⟨s, T, P⟩ rfl rfl hl63 hbi ?_; intro v1 w4 hown4 hB4 hg4))
          go_roundw
          case rel =>
            refine ⟨j + 1, by omega, by go_num, hBi.trans hB4, ?_, ?_, ?_⟩
            · have := hg4.size; simp at this; omega
            · rw [hg4.block _ (by simp; omega) (own_ne_type HOw.out HG3.out hTO), ← HG3.out]
              exact (World.grownBy_alloc _ _ none).block _ hgl (by simp)
            · rw [HTk.out, List.map_append, ← List.append_assoc]
              exact hown4
          case measure => simp [intOf] <;> omega
        · have hjn : j = N.length := by omega
          subst hjn
          go_wp2_with fail
          go_roundw
          case rel =>
            refine ⟨k + 1, by omega, by go_num, hBi, ?_⟩
            rw [preL_succ, HGO.out, List.length_append, List.length_map]
            rw [List.take_length] at howni
            exact howni
          case measure => simp [intOf] <;> omega
    · have hk12 : k = 12 := by omega
      subst hk12
      rw [preL_len] at hown
      obtain ⟨g2, cap, rfl⟩ := own_some hown (by omega)
      have HC := Lib.hid (HS wr g2 cap wb.heap.size wb hown hB)
      clear hown hlt hk
      go_wp2_with fail
      refine HC.out.mono ?_; rintro e w7 ⟨rfl, hB7, hO7⟩
      have HO7 := Lib.hid hO7
      clear hO7
      go_wp2_with fail
      go_ret
      first | exact ⟨g2, cap, rfl, cw.trans (hB7.mono cw.size), HO7.out⟩ | exact ⟨g2, ⟨cap, rfl⟩, cw.trans (hB7.mono cw.size), HO7.out⟩
end Go.Proofs.Yteddbeifnolklaa
