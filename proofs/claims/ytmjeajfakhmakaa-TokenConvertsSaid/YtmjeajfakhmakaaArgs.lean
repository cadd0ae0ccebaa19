/- A slice of pairs that came in, opened: it reads as a list of pairs of integers. -/
import Derived.Test.YtmjeajfakhmakaaChars
import Derived.ProofKit
import Derived.Deep.Slices
namespace Go.Proofs.Ytmjeajfakhmakaa
open Go.ChangeShapes Go.WideShapes Go.ChangeAt Go.RowKit Hb

theorem pair_cells : Try.prog.cellsOf 55 = 2 := by kernel_rfl
theorem int_cells : Try.prog.cellsOf 3 = 1 := by kernel_rfl
set_option maxRecDepth 100000 in
theorem open_pairs {H : Type} {enc : TypeId × Value → H} {W : World} {r : Reach} {b0 : Nat} {v : Value} {d : DataW H} {ps : List MemPlace} (hval : Value.okWide Try.prog W r b0 22 v)
    (h : DataW.Trod enc Try.prog W 0 (fun _ => true) true 22 v d ps) : ∃ A n cap l, v = .slice A n cap ∧ n = l.length ∧ n ≤ maxLen ∧ Pairs W A l := by
  obtain ⟨A, n, cap, rfl⟩ := okWide_slice Try.underlying22 hval
  obtain ⟨fuel, hf⟩ := h
  rcases Go.Deep.open_slice Try.underlying22 hf with ⟨hcs, _⟩ | ⟨a, len, cap', m, k, D, Pl, hcs, _, hl, hm, hmm, _, hx⟩
  · have : A = none ∧ n = 0 ∧ cap = 0 := by simpa [Value.cells] using hcs
    obtain ⟨rfl, rfl, rfl⟩ := this
    exact ⟨none, 0, 0, [], rfl, rfl, by decide, Pairs.nil _ _⟩
  · have : A = some a ∧ n = len ∧ cap = cap' := by simpa [Value.cells] using hcs
    obtain ⟨rfl, rfl, rfl⟩ := this
    have hmn : m = cap := by simpa using hmm
    have key : ∀ i, i < n → ∃ x : Int × Int, W.cell? (a.add (i * 2)) = some (.int .i64 x.1) ∧ W.cell? ((a.add (i * 2)).add 1) = some (.int .i64 x.2) := fun i hi => by
      obtain ⟨cs', h1, h2⟩ := hx i (by omega)
      rw [pair_cells] at h1
      obtain ⟨_, hlen, hget⟩ := World.cells?_some h1
      obtain ⟨y0, y1, k', _, _, g0, g1⟩ := trod_struct2 Try.underlying55 h2
      match cs', hlen with
      | [c0, c1], _ =>
        obtain ⟨n0, e0, _⟩ := DataW.trod_int Try.underlying3 g0
        obtain ⟨n1, e1, _⟩ := DataW.trod_int Try.underlying3 g1
        have u0 : [c0] = [Value.int IntKind.i64 n0] := by rw [← e0]; show _ = List.take (Try.prog.cellsOf 3) _; rw [int_cells]; rfl
        have u1 : [c1] = [Value.int IntKind.i64 n1] := by rw [← e1]; show _ = List.take (Try.prog.cellsOf 3) _; rw [int_cells]; rfl
        have q0 := hget 0 (by omega)
        have q1 := hget 1 (by omega)
        clear e0 e1
        injection u0 with u0 _
        injection u1 with u1 _
        subst u0 u1
        exact ⟨(n0, n1), by simpa [Addr.add] using q0, by simpa using q1⟩
    obtain ⟨F, hF⟩ := Go.Deep.choose_lt (α := Int × Int) (p := fun i x => W.cell? (a.add (i * 2)) = some (.int .i64 x.1) ∧ W.cell? ((a.add (i * 2)).add 1) = some (.int .i64 x.2)) key
    refine ⟨some a, n, cap, (List.range n).map F, rfl, by simp, by omega, fun j hj => ?_⟩
    have hj' : j < n := by simpa using hj
    have hs : a.spot = none := by
      have h0 := (hF 0 (by omega)).1
      have : a.add (0 * 2) = a := by simp [Addr.add]
      rw [this] at h0
      unfold World.cell? at h0
      split at h0
      · split at h0
        · cases h0
        · rename_i hh; simpa using hh
      · cases h0
    have ha : a = ⟨a.block, a.off, none⟩ := by obtain ⟨x, y, z⟩ := a; exact congrArg (Addr.mk x y) hs
    obtain ⟨c1, c2⟩ := hF j hj'
    have e1 : a.add (j * 2) = ⟨a.block, a.off + j * 2, none⟩ := by
      unfold Addr.add
      split
      · rename_i h0; rw [h0, Nat.add_zero]; exact ha
      · rfl
    have e2 : (a.add (j * 2)).add 1 = ⟨a.block, a.off + j * 2 + 1, none⟩ := by rw [e1]; rfl
    rw [e2] at c2
    rw [e1] at c1
    refine ⟨a.block, a.off, by rw [← ha], World.block_lt_of_cell? W ⟨a.block, a.off + j * 2, none⟩ c1, ?_, ?_⟩
    · simpa using c1
    · simpa using c2
end Go.Proofs.Ytmjeajfakhmakaa
