/- Contracts of layer 9's reference: the text by value: raw, at, layout. -/
import Derived.Test.YtmjeajfakhmakaaLex1
import Derived.Laws.Rows
namespace Go.Proofs.Ytmjeajfakhmakaa
open Go.RowKit Hb
set_option maxRecDepth 100000

/-- The cells of a text by value. -/
def txtCells (s : ByteArray) (tab : Int → Int) : Array Value := #[.string s] ++ Array.ofFn (n := 256) fun i => .int .i64 (tab (i.val : Int))
def txtV (s : ByteArray) (tab : Int → Int) : Value := .agg (txtCells s tab)
theorem txtCells_size (s : ByteArray) (tab : Int → Int) : (txtCells s tab).size = 257 := by simp [txtCells]
theorem txtCells_0 (s : ByteArray) (tab : Int → Int) : (txtCells s tab)[0]? = some (.string s) := by simp [txtCells]
theorem txtCells_at (s : ByteArray) (tab : Int → Int) (c : Nat) (h : c < 256) : (txtCells s tab)[1 + c]? = some (.int .i64 (tab c)) := by
  unfold txtCells
  rw [Array.getElem?_append_right (by simp)]
  simp [h]
theorem infoTxt : (Try.prog.info? 52).map (·.size) = some 257 := by kernel_rfl
/-- A text by value in a block of its own. -/
structure Txt (w : World) (b : Nat) (s : ByteArray) (tab : Int → Int) : Prop where
  lt : b < w.heap.size
  blk : w.heap[b]? = some (.cells (txtCells s tab) 52 (0, 0))
theorem Txt.c0 {w : World} {b : Nat} {s : ByteArray} {tab : Int → Int} (h : Txt w b s tab) : w.cell? ⟨b, 0, none⟩ = some (.string s) := (cell_of_row w b 0 _ _ _ h.blk).trans (txtCells_0 s tab)
theorem Txt.ct {w : World} {b : Nat} {s : ByteArray} {tab : Int → Int} (h : Txt w b s tab) (c : Nat) (hc : c < 256) : w.cell? ⟨b, 1 + c, none⟩ = some (.int .i64 (tab c)) := (cell_of_row w b _ _ _ _ h.blk).trans (txtCells_at s tab c hc)
theorem Txt.same {w w' : World} {b : Nat} {s : ByteArray} {tab : Int → Int} (h : Txt w b s tab) (hs : w.heap.size ≤ w'.heap.size) (hb : w'.heap[b]? = w.heap[b]?) : Txt w' b s tab := ⟨Nat.lt_of_lt_of_le h.lt hs, hb.trans h.blk⟩
theorem Txt.below {w w' : World} {b B : Nat} {s : ByteArray} {tab : Int → Int} (h : Txt w b s tab) (hB : Below B w w') (hb : b < B) : Txt w' b s tab := h.same hB.size (hB.block b hb)
theorem Txt.tabc {w : World} {b : Nat} {s : ByteArray} {tab : Int → Int} (h : Txt w b s tab) (ht : TabOk tab) (k : Nat) (hk : k < s.size) : w.cell? ⟨b, 1 + s[k].toNat, none⟩ = some (.int .i64 (rawAt (cvt tab s.data.toList) k)) := by
  have hk' : k < s.data.toList.length := by simpa using hk
  rw [h.ct s[k].toNat s[k].toNat_lt, bAt_mk s k hk, cvt_at tab ht _ k hk', rawAt_in _ _ (by rw [cvt_len]; exact hk')]

theorem box_txt (s : ByteArray) (tab : Int → Int) (w : World) : (Instr.box 52 (txtV s tab)).run Try.prog w = .ok (.pointer (some ⟨w.heap.size, 0, none⟩)) (w.alloc (.cells (txtCells s tab) 52)) := by kernel_rfl
/-- The box of a text by value: a new block. -/
theorem wpList_box_txt {ops : Array Oper} {rest : List Oper} {o : Oper} {a : Act} {Q : Exit → Act → World → Prop} {w : World} (hgd : o.guard = none) (x : Operand) (s : ByteArray) (tab : Int → Int)
    (ho : o.op = .box 52 x) (hx : a.eval x = txtV s tab)
    (h : ∀ b w1, Txt w1 b s tab → w.heap.size ≤ b → Below w.heap.size w w1 → wpList Try.prog ops Q rest (a.put o.dst (.pointer (some ⟨b, 0, none⟩))) w1) : wpList Try.prog ops Q (o :: rest) a w := by
  refine wpList_plain hgd fun K hK => ?_
  have e : (execOp a.eval o).run Try.prog w = .ok (.value (.pointer (some ⟨w.heap.size, 0, none⟩))) (w.alloc (.cells (txtCells s tab) 52)) := by
    unfold execOp
    rw [ho]
    simp only [hx]
    rw [Sem.run_bind, box_txt]
    rfl
  unfold Oper.wp
  rw [e]
  exact hK _ _ (h _ _ ⟨by simp, heap_alloc_new w _⟩ (Nat.le_refl _) ((Below.refl _ _).alloc (Nat.le_refl _) _))
/-- The whole text is loaded. -/
theorem wpList_load_txt {ops : Array Oper} {rest : List Oper} {o : Oper} {a : Act} {Q : Exit → Act → World → Prop} {w : World} (hgd : o.guard = none) (x : Operand) {b : Nat} {s : ByteArray} {tab : Int → Int}
    (ho : o.op = .load 52 x) (hx : a.eval x = .pointer (some ⟨b, 0, none⟩)) (T : Txt w b s tab)
    (h : wpList Try.prog ops Q rest (a.put o.dst (txtV s tab)) w) : wpList Try.prog ops Q (o :: rest) a w :=
  wpList_load_row hgd _ x ho b hx _ _ _ _ T.blk Try.underlying52 rfl (by rw [infoTxt, txtCells_size]) h

set_option maxHeartbeats 400000 in
theorem txt_raw (s : ByteArray) (tab : Int → Int) (k : Nat) (w : World) :
    Calls Try.prog 78 #[txtV s tab, .int .i64 k] w fun e w' => e = .returned (.int .i64 (rawAt s.data.toList k)) ∧ Below w.heap.size w w' := by
  by_cases hlt : k < s.size
  · have hb := bAt_mk s k hlt
    have HR := Lib.hid (rawAt_in s.data.toList k (by simpa using hlt))
    have hb0 := bAt_lo s.data.toList k
    have hb1 := bAt_hi s.data.toList k
    go_enter Try.func78, Try.ntmps78
    go_wp2_with (refine wpList_box_txt rfl _ s tab rfl rfl ?_; intro b w1 T hle hB1; have c0 := T.c0)
    go_ret
    exact ⟨ret_int HR.out.symm, hB1⟩
  · have HR := Lib.hid (rawAt_out s.data.toList k (by simp; omega))
    go_enter Try.func78, Try.ntmps78
    go_wp2_with (refine wpList_box_txt rfl _ s tab rfl rfl ?_; intro b w1 T hle hB1; have c0 := T.c0)
    go_ret
    exact ⟨ret_int HR.out.symm, hB1⟩

set_option maxHeartbeats 400000 in
theorem txt_at (s : ByteArray) (tab : Int → Int) (ht : TabOk tab) (k : Nat) (w : World) :
    Calls Try.prog 62 #[txtV s tab, .int .i64 k] w fun e w' => e = .returned (.int .i64 (rawAt (cvt tab s.data.toList) k)) ∧ Below w.heap.size w w' := by
  have HT := Lib.hid ht
  clear ht
  by_cases hlt : k < s.size
  · have hb := bAt_lo s.data.toList k
    have hlt' : (s[k].toNat : Int) < 256 := by have := s[k].toNat_lt; omega
    go_enter Try.func62, Try.ntmps62
    go_wp2_with (refine wpList_box_txt rfl _ s tab rfl rfl ?_; intro b w1 T hle hB1; have c0 := T.c0; have c1 := T.tabc HT.out k hlt)
    go_ret
    exact ⟨ret_int rfl, hB1⟩
  · have HR := Lib.hid (rawAt_out (cvt tab s.data.toList) k (by rw [cvt_len]; simp; omega))
    go_enter Try.func62, Try.ntmps62
    go_wp2_with (refine wpList_box_txt rfl _ s tab rfl rfl ?_; intro b w1 T hle hB1; have c0 := T.c0)
    go_ret
    exact ⟨ret_int HR.out.symm, hB1⟩

set_option maxHeartbeats 400000 in
theorem ref_layout (c : Int) (w : World) :
    Calls Try.prog 63 #[.int .i64 c] w fun e w' => e = .returned (.bool (cls c == 1)) ∧ w = w' := by
  have HC := Lib.hid (ref_class c w)
  go_enter Try.func63, Try.ntmps63
  go_wp2_with fail
  refine HC.out.mono ?_; rintro e w1 ⟨rfl, rfl⟩
  go_wp2_with fail
  go_ret
  exact ⟨ret_bool rfl, rfl⟩
end Go.Proofs.Ytmjeajfakhmakaa
