/- Flags: op/3 where nothing is wrong. -/
import Derived.Test.YtfkhcpeahdkafaaGreatH09
import Derived.Test.YtfkhcpeahdkafaaGreatH08
import Derived.Test.YtfkhcpeahdkafaaGreatH07
import Derived.Test.YtfkhcpeahdkafaaGreatH06
namespace Hb
open Go Go.RowKit
def setAll (typ prec : Int) (l : List OpR) (xs : List Tm) : List OpR := xs.foldl (fun l x => (setR l ⟨x.name, typ, prec⟩).1) l
def SetsOk (typ prec : Int) (l : List OpR) (xs : List Tm) : Prop := ∀ pre x, pre ++ [x] <+: xs → (setR (setAll typ prec l pre) ⟨x.name, typ, prec⟩).2 = 0
theorem setR_small {l : List OpR} {o : OpR} (h : (setR l o).2 = 0) : (setR l o).1.length ≤ 100 := by
 unfold setR at h ⊢
 split
 ·rename_i h1; rw [if_pos h1] at h; cases h
 ·rename_i h1
  rw [if_neg h1] at h
  split
  ·rename_i h2; rw [if_pos h2] at h; cases h
  ·rename_i h2
   rw [if_neg h2] at h
   split
   ·rename_i h3; rw [if_pos h3] at h; cases h
   ·rename_i h3; simp at h3; exact h3
theorem ops_other {W W' : World} {A : Option Addr} {l : List OpR} (h : OpsAt W A l) (hs : W.heap.size ≤ W'.heap.size) (hk : ∀ b o (s : ByteArray) (x : Int), W.cell? ⟨b, o, none⟩ = some (.string s) → W.cell? ⟨b, o + 1, none⟩ = some (.int .i64 x) → W'.heap[b]? = W.heap[b]?) : OpsAt W' A l := fun j hj => by
 obtain ⟨b, off, e, hlt, c0, c1, c2⟩ := h j hj
 have hw : ∀ o, W'.cell? ⟨b, o, none⟩ = W.cell? ⟨b, o, none⟩ := fun o => World.cell?_of_block (hk b _ _ _ c0 c1)
 exact ⟨b, off, e, by omega, (hw _).trans c0, (hw _).trans c1, (hw _).trans c2⟩
theorem tab_other {W W' : World} {A : Option Addr} {n cap : Nat} {l : List OpR} (h : Tab W A n cap l) (hs : W.heap.size ≤ W'.heap.size) (hk : ∀ b o (s : ByteArray) (x : Int), W.cell? ⟨b, o, none⟩ = some (.string s) → W.cell? ⟨b, o + 1, none⟩ = some (.int .i64 x) → W'.heap[b]? = W.heap[b]?) : Tab W' A n cap l := ⟨h.len, ops_other h.ops hs hk, h.nil⟩
theorem tab_grown {W W' : World} {A : Option Addr} {n cap : Nat} {l : List OpR} {row : Option Nat} (h : Tab W A n cap l) (hg : W.grownBy W' row) (hr : ∀ r, row = some r → ∃ o : Obj, W.heap[r]? = some o ∧ o.isCells = false) : Tab W' A n cap l :=
 tab_other h hg.size fun b o s x' hc _ => by
  obtain ⟨x, hx, hxc⟩ := isCells_of_cell hc
  refine hg.block b (Array.getElem?_eq_some_iff.1 hx).1 (fun e' => ?_)
  obtain ⟨y, hy, hyc⟩ := hr b e'.symm
  rw [hx] at hy; injection hy with hy; subst hy; rw [hxc] at hyc; cases hyc
theorem KpC.setOld {B : Nat} {W : World} {g : Nat} (hg : g < B) (i : Nat) (v : Value) : KpC B W (W.setCell ⟨g, i, none⟩ v) := ⟨by simp, fun k o hB hk _ => (heap_setCell_other W ⟨g, i, none⟩ k v (show k ≠ g by omega)).trans hk⟩
def noOp (vs : List Value) : Prop := ∀ (i : Nat) (s : ByteArray) (x : Int), vs[i]? = some (.string s) → vs[i + 1]? ≠ some (.int .i64 x)
theorem tab_boxes {W W' : World} {A : Option Addr} {n cap : Nat} {l : List OpR} {L : List (Nat × List Value)} (h : Tab W A n cap l) (hb : Bks W L) (hv : ∀ x ∈ L, noOp x.2) (hs : W.heap.size ≤ W'.heap.size) (hk : ∀ k, (∀ x ∈ L, k ≠ x.1) → W'.heap[k]? = W.heap[k]?) : Tab W' A n cap l :=
 tab_other h hs fun b o s x hc hd => hk b fun y hy e => by
  subst e
  obtain ⟨e, he⟩ := hb.bk y hy
  simp only [World.cell?, he, List.getElem?_toArray] at hc hd
  exact hv y hy o s x hc hd
structure SuI (W0 : World) (T : (Nat → Bool) → Nat → Nat → Nat → Act) (z p t n : List Value) (S : Nat → Bool) (a : Act) (X : World) (e0 e1 e2 : Nat) : Prop where
 act : a = T S e0 e1 e2
 bel : Below W0.heap.size W0 X
 h0 : S 9 = true → W0.heap.size ≤ e0 ∧ Bk X e0 (if S 12 = true then p else z)
 h1 : S 10 = true → W0.heap.size ≤ e1 ∧ Bk X e1 (if S 13 = true then t else z)
 h2 : S 11 = true → W0.heap.size ≤ e2 ∧ Bk X e2 (if S 14 = true then n else z)
 i0 : S 12 = true → S 9 = true
 i1 : S 13 = true → S 10 = true
 i2 : S 14 = true → S 11 = true
 n01 : S 9 = true → S 10 = true → e0 ≠ e1
 n02 : S 9 = true → S 11 = true → e0 ≠ e2
 n12 : S 10 = true → S 11 = true → e1 ≠ e2
theorem wp_val {P : Program} {o : Oper} {a : Act} {X w' : World} {v : Value} {K : Act → World → Prop} {Q : Exit → Act → World → Prop} (hr : (execOp a.eval o).run P X = .ok (.value v) w') (hK : K (a.put o.dst v) w') : o.wp P a X K Q := by
 unfold Oper.wp
 rw [hr]
 exact hK
theorem wp_skp {P : Program} {o : Oper} {a : Act} {X w' : World} {K : Act → World → Prop} {Q : Exit → Act → World → Prop} (hr : (execOp a.eval o).run P X = .ok .skip w') (hK : K (a.put o.dst undef) w') : o.wp P a X K Q := by
 unfold Oper.wp
 rw [hr]
 exact hK
end Hb
namespace Go.Proofs.YtfkhcpeahdkafaaGreat
open Go.RowKit Hb Go.Shelf
attribute [local go_sem] Oper.semAt_some
set_option maxRecDepth 100000
end Go.Proofs.YtfkhcpeahdkafaaGreat
