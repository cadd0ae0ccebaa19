/- Operators that came in, opened. -/
import Derived.Test.YtfkhcpeahdkafaaGreatH07
import Derived.ProofKit
import Derived.Deep.Slices
import Derived.Deep.Strs
import Derived.ChangeMaps5
import Derived.Carry
namespace Hb
open Go Go.RowKit
/-- The numbers of an operator are Go's. -/
structure OpFit (o : OpR) : Prop where
  typ : (Lit.int .i64 o.typ).wf = true
  prec : (Lit.int .i64 o.prec).wf = true
  name : o.name.size ≤ maxLen
theorem wf_range {n : Int} (h : (Lit.int .i64 n).wf = true) : -9223372036854775808 ≤ n ∧ n ≤ 9223372036854775807 := by
  unfold Lit.wf at h; rw [Bool.and_eq_true, decide_eq_true_iff, decide_eq_true_iff] at h; exact h
end Hb
namespace Go.Proofs.YtfkhcpeahdkafaaGreat
set_option maxRecDepth 100000
open Go.ChangeShapes Go.WideShapes Go.ChangeAt Go.RowKit Hb

section
variable {H : Type} {enc : TypeId × Value → H} {P : Program} {w : World} {base : Nat} {spare : Nat → Bool} {held : Bool}
theorem trodAll_six {t0 t1 t2 t3 t4 t5 : TypeId} {args : Array Value} {ds : List (DataW H)} {ps : List MemPlace} (h : DataW.TrodAll enc P w base spare held [t0, t1, t2, t3, t4, t5] args.toList ds ps) :
    ∃ v0 v1 v2 v3 v4 v5 d0 d1 d2 d3 d4 d5 p0 p1 p2 p3 p4 p5, args = #[v0, v1, v2, v3, v4, v5] ∧ ds = [d0, d1, d2, d3, d4, d5] ∧ ps = p0 ++ p1 ++ p2 ++ p3 ++ p4 ++ p5 ∧ DataW.Trod enc P w base spare held t0 v0 d0 p0 ∧ DataW.Trod enc P w base spare held t1 v1 d1 p1 ∧ DataW.Trod enc P w base spare held t2 v2 d2 p2 ∧ DataW.Trod enc P w base spare held t3 v3 d3 p3 ∧ DataW.Trod enc P w base spare held t4 v4 d4 p4 ∧ DataW.Trod enc P w base spare held t5 v5 d5 p5 := by
  obtain ⟨v0, r0, d0, e0, p0, q0, hargs, rfl, rfl, h0, g0⟩ := trodAll_cons h
  obtain ⟨v1, r1, d1, e1, p1, q1, rfl, rfl, rfl, h1, g1⟩ := trodAll_cons g0
  obtain ⟨v2, r2, d2, e2, p2, q2, rfl, rfl, rfl, h2, g2⟩ := trodAll_cons g1
  obtain ⟨v3, r3, d3, e3, p3, q3, rfl, rfl, rfl, h3, g3⟩ := trodAll_cons g2
  obtain ⟨v4, r4, d4, e4, p4, q4, rfl, rfl, rfl, h4, g4⟩ := trodAll_cons g3
  obtain ⟨v5, r5, d5, e5, p5, q5, rfl, rfl, rfl, h5, g5⟩ := trodAll_cons g4
  obtain ⟨rfl, rfl, rfl⟩ := trodAll_nil g5
  exact ⟨v0, v1, v2, v3, v4, v5, d0, d1, d2, d3, d4, d5, p0, p1, p2, p3, p4, p5, by cases args; simp_all, rfl, by simp, h0, h1, h2, h3, h4, h5⟩
theorem trodAll_mk6 {t0 t1 t2 t3 t4 t5 : TypeId} {v0 v1 v2 v3 v4 v5 : Value} {d0 d1 d2 d3 d4 d5 : DataW H} {p0 p1 p2 p3 p4 p5 : List MemPlace} (h0 : DataW.Trod enc P w base spare held t0 v0 d0 p0) (h1 : DataW.Trod enc P w base spare held t1 v1 d1 p1) (h2 : DataW.Trod enc P w base spare held t2 v2 d2 p2) (h3 : DataW.Trod enc P w base spare held t3 v3 d3 p3) (h4 : DataW.Trod enc P w base spare held t4 v4 d4 p4) (h5 : DataW.Trod enc P w base spare held t5 v5 d5 p5) :
    DataW.TrodAll enc P w base spare held [t0, t1, t2, t3, t4, t5] [v0, v1, v2, v3, v4, v5] [d0, d1, d2, d3, d4, d5] (p0 ++ (p1 ++ (p2 ++ (p3 ++ (p4 ++ p5))))) :=
  ⟨p0, p1 ++ (p2 ++ (p3 ++ (p4 ++ p5))), h0, ⟨p1, p2 ++ (p3 ++ (p4 ++ p5)), h1, trodAll_mk4 h2 h3 h4 h5, rfl⟩, rfl⟩
end
theorem op_cells3 : Tryz.prog.cellsOf 82 = 3 := by kernel_rfl
theorem str_cells3 : Tryz.prog.cellsOf 9 = 1 := by kernel_rfl
theorem int_cells3 : Tryz.prog.cellsOf 3 = 1 := by kernel_rfl
set_option maxRecDepth 100000 in
theorem op_trod {H : Type} {enc : TypeId × Value → H} {W : World} {fuel base : Nat} {held : Bool} {sp : Nat → Bool} {cs : List Value} {x : DataW H × List MemPlace} (h : DataW.trod enc Tryz.prog W base sp held fuel 82 cs = some x) : ∃ o : OpR, cs = opCells o ∧ OpFit o := by
  obtain ⟨y0, y1, y2, k, _, hl, g0, g1, g2⟩ := Go.Deep.trod_struct3 Tryz.underlying82 h
  rw [op_cells3] at hl
  match cs, hl with
  | [c0, c1, c2], _ =>
    obtain ⟨s0, e0, _, z0⟩ := DataW.trod_string Tryz.underlying9 g0
    obtain ⟨n1, e1, _, z1⟩ := DataW.trod_int Tryz.underlying3 g1
    obtain ⟨n2, e2, _, z2⟩ := DataW.trod_int Tryz.underlying3 g2
    have u0 : [c0] = [Value.string s0] := by rw [← e0]; show _ = List.take (Tryz.prog.cellsOf 9) _; rw [str_cells3]; rfl
    have u1 : [c1] = [Value.int IntKind.i64 n1] := by rw [← e1]; show _ = List.take (Tryz.prog.cellsOf 3) _; rw [int_cells3]; rfl
    have u2 : [c2] = [Value.int IntKind.i64 n2] := by rw [← e2]; show _ = List.take (Tryz.prog.cellsOf 3) _; rw [int_cells3]; rfl
    injection u0 with u0 _
    injection u1 with u1 _
    injection u2 with u2 _
    subst u0 u1 u2
    exact ⟨⟨s0, n1, n2⟩, rfl, z1, z2, z0⟩
theorem open_op {H : Type} {enc : TypeId × Value → H} {W : World} {r : Reach} {b0 : Nat} {v : Value} {d : DataW H} {ps : List MemPlace} (hval : Value.okWide Tryz.prog W r b0 82 v)
    (h : DataW.Trod enc Tryz.prog W 0 (fun _ => true) true 82 v d ps) : ∃ o : OpR, v = opV o ∧ OpFit o := by
  obtain ⟨cs, rfl, _⟩ := okWide_struct Tryz.underlying82 hval
  obtain ⟨fuel, hf⟩ := h
  obtain ⟨o, ho, hfit⟩ := op_trod hf
  refine ⟨o, ?_, hfit⟩
  have : cs = (opCells o).toArray := by
    apply Array.ext'
    simpa [Value.cells] using ho
  rw [this]
  rfl
set_option maxRecDepth 100000 in
theorem open_ops {H : Type} {enc : TypeId × Value → H} {W : World} {r : Reach} {b0 : Nat} {v : Value} {d : DataW H} {ps : List MemPlace} (hval : Value.okWide Tryz.prog W r b0 40 v)
    (h : DataW.Trod enc Tryz.prog W 0 (fun _ => true) true 40 v d ps) : ∃ A n cap l, v = .slice A n cap ∧ n = l.length ∧ n ≤ maxLen ∧ OpsAt W A l ∧ (n = 0 → (Value.slice A n cap = .slice none 0 0 ∨ ∃ ad, A = some ad)) ∧ ∀ o ∈ l, OpFit o := by
  obtain ⟨A, n, cap, rfl⟩ := okWide_slice Tryz.underlying40 hval
  obtain ⟨fuel, hf⟩ := h
  rcases Go.Deep.open_slice Tryz.underlying40 hf with ⟨hcs, _⟩ | ⟨a, len, cap', m, k, D, Pl, hcs, _, hl, hm, hmm, _, hx⟩
  · have : A = none ∧ n = 0 ∧ cap = 0 := by simpa [Value.cells] using hcs
    obtain ⟨rfl, rfl, rfl⟩ := this
    exact ⟨none, 0, 0, [], rfl, rfl, by decide, OpsAt.nil _ _, fun _ => .inl rfl, fun o h => absurd h (by simp)⟩
  · have : A = some a ∧ n = len ∧ cap = cap' := by simpa [Value.cells] using hcs
    obtain ⟨rfl, rfl, rfl⟩ := this
    have hmn : m = cap := by simpa using hmm
    have key : ∀ i, i < n → ∃ x : OpR, (W.cell? (a.add (i * 3)) = some (.string x.name) ∧ W.cell? ((a.add (i * 3)).add 1) = some (.int .i64 x.typ) ∧ W.cell? ((a.add (i * 3)).add 2) = some (.int .i64 x.prec)) ∧ OpFit x := fun i hi => by
      obtain ⟨cs', h1, h2⟩ := hx i (by omega)
      rw [op_cells3] at h1
      obtain ⟨_, hlen, hget⟩ := World.cells?_some h1
      obtain ⟨o, rfl, hfit⟩ := op_trod h2
      have q0 := hget 0 (by omega)
      have q1 := hget 1 (by omega)
      have q2 := hget 2 (by omega)
      exact ⟨o, ⟨by simpa [Addr.add, opCells] using q0, by simpa [opCells] using q1, by simpa [opCells] using q2⟩, hfit⟩
    obtain ⟨F, hF⟩ := Go.Deep.choose_lt (α := OpR) (p := fun i x => (W.cell? (a.add (i * 3)) = some (.string x.name) ∧ W.cell? ((a.add (i * 3)).add 1) = some (.int .i64 x.typ) ∧ W.cell? ((a.add (i * 3)).add 2) = some (.int .i64 x.prec)) ∧ OpFit x) key
    refine ⟨some a, n, cap, (List.range n).map F, rfl, by simp, by omega, fun j hj => ?_, fun _ => .inr ⟨a, rfl⟩, fun o ho => ?_⟩
    · have hj' : j < n := by simpa using hj
      have hs : a.spot = none := by
        have h0 := (hF 0 (by omega)).1.1
        have : a.add (0 * 3) = a := by simp [Addr.add]
        rw [this] at h0
        unfold World.cell? at h0
        split at h0
        · split at h0
          · cases h0
          · rename_i hh; simpa using hh
        · cases h0
      have ha : a = ⟨a.block, a.off, none⟩ := by obtain ⟨x, y, z⟩ := a; exact congrArg (Addr.mk x y) hs
      obtain ⟨⟨c1, c2, c3⟩, _⟩ := hF j hj'
      have e1 : a.add (j * 3) = ⟨a.block, a.off + j * 3, none⟩ := by
        unfold Addr.add
        split
        · rename_i h0; rw [h0, Nat.add_zero]; exact ha
        · rfl
      have e2 : (a.add (j * 3)).add 1 = ⟨a.block, a.off + j * 3 + 1, none⟩ := by rw [e1]; rfl
      have e3 : (a.add (j * 3)).add 2 = ⟨a.block, a.off + j * 3 + 2, none⟩ := by rw [e1]; rfl
      rw [e3] at c3
      rw [e2] at c2
      rw [e1] at c1
      refine ⟨a.block, a.off, by rw [← ha], World.block_lt_of_cell? W ⟨a.block, a.off + j * 3, none⟩ c1, ?_, ?_, ?_⟩
      · simpa using c1
      · simpa using c2
      · simpa using c3
    · rw [List.mem_map] at ho
      obtain ⟨j, hj, rfl⟩ := ho
      exact (hF j (List.mem_range.1 hj)).2
end Go.Proofs.YtfkhcpeahdkafaaGreat
