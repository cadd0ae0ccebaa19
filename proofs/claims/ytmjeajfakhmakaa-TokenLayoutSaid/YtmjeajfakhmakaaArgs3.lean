/- A slice of integers that came in, opened: it reads as a list of integers. -/
import Derived.Test.YtmjeajfakhmakaaLawLayout
import Derived.ProofKit
import Derived.Deep.Slices
namespace Go.Proofs.Ytmjeajfakhmakaa
open Go.ChangeShapes Go.WideShapes Go.ChangeAt Go.RowKit Hb

theorem int_cells3 : Try.prog.cellsOf 3 = 1 := by kernel_rfl
set_option maxRecDepth 100000 in
theorem open_ints {H : Type} {enc : TypeId × Value → H} {W : World} {r : Reach} {b0 : Nat} {v : Value} {d : DataW H} {ps : List MemPlace} (hval : Value.okWide Try.prog W r b0 38 v)
    (h : DataW.Trod enc Try.prog W 0 (fun _ => true) true 38 v d ps) : ∃ A n cap l, v = .slice A n cap ∧ n = l.length ∧ n ≤ maxLen ∧ Ints W A l := by
  obtain ⟨A, n, cap, rfl⟩ := okWide_slice Try.underlying38 hval
  obtain ⟨fuel, hf⟩ := h
  rcases Go.Deep.open_slice Try.underlying38 hf with ⟨hcs, _⟩ | ⟨a, len, cap', m, k, D, Pl, hcs, _, hl, hm, hmm, _, hx⟩
  · have : A = none ∧ n = 0 ∧ cap = 0 := by simpa [Value.cells] using hcs
    obtain ⟨rfl, rfl, rfl⟩ := this
    exact ⟨none, 0, 0, [], rfl, rfl, by decide, fun j hj => absurd hj (by simp)⟩
  · have : A = some a ∧ n = len ∧ cap = cap' := by simpa [Value.cells] using hcs
    obtain ⟨rfl, rfl, rfl⟩ := this
    have hmn : m = cap := by simpa using hmm
    have key : ∀ i, i < n → ∃ x : Int, W.cell? (a.add (i * 1)) = some (.int .i64 x) := fun i hi => by
      obtain ⟨cs', h1, h2⟩ := hx i (by omega)
      rw [int_cells3] at h1
      obtain ⟨_, hlen, hget⟩ := World.cells?_some h1
      obtain ⟨n0, e0, _⟩ := DataW.trod_int Try.underlying3 h2
      have q0 := hget 0 (by omega)
      subst e0
      exact ⟨n0, by simpa [Addr.add] using q0⟩
    obtain ⟨F, hF⟩ := Go.Deep.choose_lt (α := Int) (p := fun i x => W.cell? (a.add (i * 1)) = some (.int .i64 x)) key
    refine ⟨some a, n, cap, (List.range n).map F, rfl, by simp, by omega, fun j hj => ?_⟩
    have hj' : j < n := by simpa using hj
    have hs : a.spot = none := by
      have h0 := hF 0 (by omega)
      have : a.add (0 * 1) = a := by simp [Addr.add]
      rw [this] at h0
      unfold World.cell? at h0
      split at h0
      · split at h0
        · cases h0
        · rename_i hh; simpa using hh
      · cases h0
    have ha : a = ⟨a.block, a.off, none⟩ := by obtain ⟨x, y, z⟩ := a; exact congrArg (Addr.mk x y) hs
    have c1 := hF j hj'
    have e1 : a.add (j * 1) = ⟨a.block, a.off + j, none⟩ := by
      rw [Nat.mul_one]
      unfold Addr.add
      split
      · rename_i h0; rw [h0, Nat.add_zero]; exact ha
      · rfl
    rw [e1] at c1
    have hblk : a.block < W.heap.size := by
      rcases Nat.lt_or_ge a.block W.heap.size with hlt | hge
      · exact hlt
      · unfold World.cell? at c1
        simp [Array.getElem?_eq_none hge] at c1
    exact ⟨a.block, a.off, congrArg some ha, hblk, by simpa using c1⟩
end Go.Proofs.Ytmjeajfakhmakaa
