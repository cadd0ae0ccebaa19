/- Laws for appends of whole slices; a slice of strings that came in, opened. -/
import Derived.Test.YtmjeajfakhmakaaDoorBuild
import Derived.Laws.AppendOwnNone
import Derived.SliceStrings
import Derived.Deep.Slices
import Derived.ProofKit
namespace Hb
open Go Go.RowKit
/-- A source of an append: nil, or a row whose cells are known. -/
def SrcRow (w : World) (A : Option Addr) (m cap size : Nat) (ys : List Value) : Prop :=
  (A = none ∧ m = 0 ∧ cap = 0 ∧ ys = []) ∨ ∃ ad : Addr, A = some ad ∧ ys.length = m * size ∧ ∀ j u, ys[j]? = some u → w.cell? (ad.add j) = some u
theorem wpList_append_row {P : Program} {w : World} {ops : Array Oper} {rest : List Oper} {o : Oper} {a : Act} {Q : Exit → Act → World → Prop} (hgd : o.guard = none) (s x : Operand) (t e : TypeId)
    (ho : o.op = .call { callee := .builtin .append, args := #[s, x], argTypes := #[t, t] }) (ht : P.underlying t = some (.slice e)) (z : Value) (size bytes : Nat)
    (hinfo : (P.info? e).map (fun i => (i.zero, i.size, i.bytes)) = some (some z, size, bytes)) (hzs : z.cells.size = size) (hsz : 0 < size)
    (base : Nat) (v : Value) (n : Nat) (xs : List Value) (hs : a.eval s = v) (hown : w.ownsRow base e size v n xs) (A : Option Addr) (m cap : Nat) (ys : List Value) (hx : a.eval x = .slice A m cap) (hrow : SrcRow w A m cap size ys)
    (h1 : ∀ u ∈ ys, u.oneCell' = true) (h63 : n + m ≤ 4611686018427387904) (hbytes : (n + m) * bytes ≤ 140737488355328) (hbase : base ≤ w.heap.size) (W : World) (hB : Below base W w)
    (h : ∀ v' w', w'.ownsRow base e size v' (n + m) (xs ++ ys) → Below base W w' → w.grownBy w' v.ownBlock → wpList P ops Q rest (a.put o.dst v') w') : wpList P ops Q (o :: rest) a w := by
  obtain ⟨i, hi, hz0, hz1, hz2⟩ := info_parts hinfo
  rcases hrow with ⟨rfl, rfl, rfl, rfl⟩ | ⟨ad, rfl, hl, hc⟩
  · refine wpList_append_own_none hgd s x t ho base e i size ht hi v n xs hs hown hx ?_
    exact h v w (by rw [Nat.add_zero, List.append_nil]; exact hown) hB ⟨rfl, rfl, rfl, Nat.le_refl _, fun _ _ _ => rfl⟩
  · refine wpList_append_own _ hgd s x t ho base e i z size bytes ht hi hz0 hz1 hz2 hzs hsz v n xs hs hown ad m cap ys hx hl hc h1 (by unfold maxLen; omega) hbytes hbase ?_
    intro v' w' ho' hg' _
    refine h v' w' ho' (hB.grown hg' hbase ?_) hg'
    intro k hk
    rcases hown.2 with ⟨rfl, _⟩ | ⟨g, cap, cur, rfl, hbg, _⟩
    · simp [Value.ownBlock] at hk
    · simp [Value.ownBlock] at hk; omega
theorem own_empty (w : World) (base e size : Nat) (hb : base ≤ w.heap.size) : (w.alloc (.cells #[] e)).ownsRow base e size (.slice (some ⟨w.heap.size, 0, none⟩) 0 0) 0 [] :=
  ⟨by simp, .inr ⟨w.heap.size, 0, #[], rfl, hb, by show (w.heap.push _)[w.heap.size]? = _; simp, Nat.le_refl _, Nat.zero_le _, by simp, by simp⟩⟩
theorem own_slice {w : World} {base e size : Nat} {v : Value} {n : Nat} {xs : List Value} (h : w.ownsRow base e size v n xs) : ∃ A cap, v = .slice A n cap := by
  rcases h.2 with ⟨rfl, rfl⟩ | ⟨g, cap, cur, rfl, _⟩
  · exact ⟨_, _, rfl⟩
  · exact ⟨_, _, rfl⟩
/-- A slice of strings that reads as a list. -/
def StrsAt (w : World) (A : Option Addr) (l : List ByteArray) : Prop :=
  ∀ j (h : j < l.length), ∃ b off, A = some ⟨b, off, none⟩ ∧ b < w.heap.size ∧ w.cell? ⟨b, off + j, none⟩ = some (.string l[j])
theorem StrsAt.below {w w' : World} {A : Option Addr} {l : List ByteArray} (h : StrsAt w A l) (hb : Below w.heap.size w w') : StrsAt w' A l := fun j hj => by
  obtain ⟨b, off, e, hlt, c1⟩ := h j hj
  exact ⟨b, off, e, Nat.lt_of_lt_of_le hlt hb.size, (hb.cell (p := ⟨b, _, none⟩) hlt).trans c1⟩
/-- The header of a slice that came in: nil, or an address. -/
def HeadOk (A : Option Addr) (n cap : Nat) : Prop := n = 0 → ((A = none ∧ cap = 0) ∨ ∃ ad, A = some ad)
theorem addr_add (b off j : Nat) : (⟨b, off, none⟩ : Addr).add j = ⟨b, off + j, none⟩ := by unfold Addr.add; split <;> simp_all
theorem strs_src {w : World} {A : Option Addr} {n cap : Nat} {l : List ByteArray} (hn : n = l.length) (h : StrsAt w A l) (hh : HeadOk A n cap) : SrcRow w A n cap 1 (l.map Value.string) := by
  by_cases h0 : n = 0
  · have : l = [] := List.eq_nil_of_length_eq_zero (by omega)
    subst this
    rcases hh h0 with ⟨rfl, rfl⟩ | ⟨ad, rfl⟩
    · exact .inl ⟨rfl, h0, rfl, rfl⟩
    · exact .inr ⟨ad, rfl, by simp [h0], fun j u hu => by simp at hu⟩
  · obtain ⟨b, off, rfl, _, _⟩ := h 0 (by omega)
    refine .inr ⟨_, rfl, by simp [hn], fun j u hu => ?_⟩
    rw [List.getElem?_map] at hu
    have hj : j < l.length := by
      rcases Nat.lt_or_ge j l.length with hj | hj
      · exact hj
      · rw [List.getElem?_eq_none hj] at hu; cases hu
    rw [List.getElem?_eq_getElem hj] at hu
    injection hu with hu
    obtain ⟨b', off', e, _, c⟩ := h j hj
    injection e with e; injection e with e1 e2 _
    subst e1; subst e2
    rw [addr_add, c, hu]
theorem strs_own {w : World} {base e : Nat} {v : Value} {l : List ByteArray} (h : w.ownsRow base e 1 v l.length (l.map Value.string)) : ∃ A cap, v = .slice A l.length cap ∧ StrsAt w A l := by
  obtain ⟨A, cap, rfl⟩ := own_slice h
  refine ⟨A, cap, rfl, fun j hj => ?_⟩
  rcases h.2 with ⟨hv, h0⟩ | ⟨g, cap', cur, hv, hbg, hh, rest⟩
  · omega
  · injection hv with hA _ _
    subst hA
    have hc := h.cells (g := g) rfl j (.string l[j]) (by simp [List.getElem?_eq_getElem hj])
    rw [addr_add] at hc
    exact ⟨g, 0, rfl, (h.lt g rfl).2, hc⟩
end Hb
namespace Go.Proofs.YtmjeajfakhmakaaDoor
open Go.ChangeShapes Go.WideShapes Go.ChangeAt Go.RowKit Hb
theorem str_cells : Tryd.prog.cellsOf 9 = 1 := by kernel_rfl
theorem infoStr : (Tryd.prog.info? 9).map (fun i => (i.zero, i.size, i.bytes)) = some (some (.string ⟨#[]⟩), 1, 16) := by kernel_rfl
set_option maxRecDepth 100000 in
theorem open_strs {H : Type} {enc : TypeId × Value → H} {W : World} {r : Reach} {b0 : Nat} {v : Value} {d : DataW H} {ps : List MemPlace} (hval : Value.okWide Tryd.prog W r b0 26 v)
    (h : DataW.Trod enc Tryd.prog W 0 (fun _ => true) true 26 v d ps) : ∃ A n cap l, v = .slice A n cap ∧ n = l.length ∧ n ≤ maxLen ∧ StrsAt W A l ∧ HeadOk A n cap ∧ ∀ s ∈ l, s.size ≤ maxLen := by
  obtain ⟨A, n, cap, rfl⟩ := okWide_slice Tryd.underlying26 hval
  obtain ⟨fuel, hf⟩ := h
  rcases open_strings Tryd.underlying26 Tryd.underlying9 str_cells hf with ⟨hcs, _⟩ | ⟨a, len, cap', ss, hcs, _, hl, hm, hlen, _, hcell, hws⟩
  · have : A = none ∧ n = 0 ∧ cap = 0 := by simpa [Value.cells] using hcs
    obtain ⟨rfl, rfl, rfl⟩ := this
    exact ⟨none, 0, 0, [], rfl, rfl, by decide, fun j h => absurd h (by simp), fun _ => .inl ⟨rfl, rfl⟩, fun s h => absurd h (by simp)⟩
  · have : A = some a ∧ n = len ∧ cap = cap' := by simpa [Value.cells] using hcs
    obtain ⟨rfl, rfl, rfl⟩ := this
    have hss : ss.length = cap := by simpa using hlen
    refine ⟨some a, n, cap, ss.take n, rfl, by simp; omega, by omega, fun j hj => ?_, fun _ => .inr ⟨a, rfl⟩, fun s hs => hws s (List.mem_of_mem_take hs)⟩
    have hj1 : j < n := by simp at hj; omega
    have hs : a.spot = none := by
      have h0 := hcell 0 (by omega)
      have : a.add 0 = a := by simp [Addr.add]
      rw [this] at h0
      unfold World.cell? at h0
      split at h0
      · split at h0
        · cases h0
        · rename_i hh; simpa using hh
      · cases h0
    obtain ⟨x, y, z⟩ := a
    have hz : z = none := hs
    subst hz
    have hc := hcell j (by omega)
    rw [addr_add] at hc
    refine ⟨x, y, rfl, World.block_lt_of_cell? W ⟨x, y + j, none⟩ hc, ?_⟩
    rw [hc]
    congr 2
    rw [List.getElem_take, List.getD_eq_getElem?_getD, List.getElem?_eq_getElem (by omega)]; rfl
end Go.Proofs.YtmjeajfakhmakaaDoor
