/- Writing: the pieces of a term as a plain function. Contracts of strings.Builder: copyCheck, WriteString (walked: the loader refuses the panic behind the check, which no run comes to). Laws for appends of whole slices; a slice of strings that came in, opened. Terms: rows of terms of the call's own; copies. Terms: the reference's copied. Terms: apply with Clone's closure, Clone, Elems; the reference's Clone. Terms: the two Clone, Elems. Terms: the reference's Clone; Elems. -/
import Derived.Test.YtfkhcpeahdkafaaGreatH02
import Derived.Test.YtfkhcpeahdkafaaGreatH03
import Derived.Test.YtfkhcpeahdkafaaGreatH01
import Derived.Lib.ItoaNum
import Derived.Test.YtfkhcpeahdkafaaGreatProg
import Derived.Lib.Builder
import Derived.Lib.AppendStr
import Derived.Lib.UnsafeStr
import Derived.Laws.Externs
import Derived.Laws.AppendOwnNone
import Derived.SliceStrings
import Derived.Deep.Slices
import Derived.ProofKit
import Derived.Laws.OwnMore
import Derived.Maps.AppendAt
import Derived.Deep.AppendLies
import Derived.Deep.RegionLaw
import Derived.Deep.DeepMust
namespace Hb
open Go Go.RowKit
def tm0 : Tm := .mk 0 0 ⟨#[]⟩ []
def Tm.arg (t : Tm) (j : Nat) : Tm := t.args.getD j tm0
theorem Tm.arg_get (t : Tm) (j : Nat) (h : j < t.args.length) : t.arg j = t.args[j] := by
 unfold Tm.arg; rw [List.getD_eq_getElem?_getD, List.getElem?_eq_getElem h]; rfl
def Tm.isNm (t : Tm) (l : List UInt8) : Bool := t.name.toList == l
def s1 (c : UInt8) : ByteArray := ⟨#[c]⟩
def Tm.cons (t : Tm) : Bool := t.kind == 3 && (t.isNm [46] && t.args.length == 2)
theorem Tm.nodes_arg (t : Tm) (j : Nat) (h : j < t.args.length) : (t.arg j).nodes < t.nodes := by
 rw [Tm.arg_get t j h, Tm.nodes_eq t]
 have : ∀ (l : List Tm) (a : Tm), a ∈ l → a.nodes ≤ (l.map Tm.nodes).sum := by
  intro l
  induction l with
  | nil => intro a ha; cases ha
  | cons b l ih =>
   intro a ha
   rw [List.map_cons, List.sum_cons]
   rcases List.mem_cons.1 ha with rfl | ha
   ·omega
   ·have := ih a ha; omega
 have := this t.args _ (List.getElem_mem h)
 omega
theorem Tm.cons_len {t : Tm} (h : t.cons = true) : t.args.length = 2 := by
 unfold Tm.cons at h
 simp at h
 exact h.2.2
def elemsF : Nat → Tm → List Tm
 | 0, _ => []
 | f + 1, t => if t.cons = true then t.arg 0 :: elemsF f (t.arg 1) else []
def tailF : Nat → Tm → Tm
 | 0, t => t
 | f + 1, t => if t.cons = true then tailF f (t.arg 1) else t
theorem elemsF_irr : ∀ (f g : Nat) (t : Tm), t.nodes ≤ f → t.nodes ≤ g → elemsF f t = elemsF g t
 | 0, _, t, h, _ => absurd h (by have := t.nodes_pos; omega)
 | _, 0, t, _, h => absurd h (by have := t.nodes_pos; omega)
 | f + 1, g + 1, t, h, k => by
  show (if t.cons = true then t.arg 0 :: elemsF f (t.arg 1) else []) = (if t.cons = true then t.arg 0 :: elemsF g (t.arg 1) else [])
  split
  ·rename_i hc
   have := t.nodes_arg 1 (by rw [Tm.cons_len hc]; decide)
   rw [elemsF_irr f g (t.arg 1) (by omega) (by omega)]
  ·rfl
theorem tailF_irr : ∀ (f g : Nat) (t : Tm), t.nodes ≤ f → t.nodes ≤ g → tailF f t = tailF g t
 | 0, _, t, h, _ => absurd h (by have := t.nodes_pos; omega)
 | _, 0, t, _, h => absurd h (by have := t.nodes_pos; omega)
 | f + 1, g + 1, t, h, k => by
  show (if t.cons = true then tailF f (t.arg 1) else t) = (if t.cons = true then tailF g (t.arg 1) else t)
  split
  ·rename_i hc
   have := t.nodes_arg 1 (by rw [Tm.cons_len hc]; decide)
   rw [tailF_irr f g (t.arg 1) (by omega) (by omega)]
  ·rfl
def elemsT (t : Tm) : List Tm := elemsF t.nodes t
def tailT (t : Tm) : Tm := tailF t.nodes t
theorem elemsT_cons {t : Tm} (h : t.cons = true) : elemsT t = t.arg 0 :: elemsT (t.arg 1) := by
 have h1 := t.nodes_arg 1 (by rw [Tm.cons_len h]; decide)
 unfold elemsT
 obtain ⟨f, hf⟩ : ∃ f, t.nodes = f + 1 := ⟨t.nodes - 1, by have := t.nodes_pos; omega⟩
 rw [hf]
 show (if t.cons = true then t.arg 0 :: elemsF f (t.arg 1) else []) = _
 rw [if_pos h, elemsF_irr f (t.arg 1).nodes (t.arg 1) (by omega) (Nat.le_refl _)]
theorem elemsT_end {t : Tm} (h : t.cons = false) : elemsT t = [] := by
 unfold elemsT
 obtain ⟨f, hf⟩ : ∃ f, t.nodes = f + 1 := ⟨t.nodes - 1, by have := t.nodes_pos; omega⟩
 rw [hf]
 show (if t.cons = true then t.arg 0 :: elemsF f (t.arg 1) else []) = _
 rw [if_neg (by simp [h])]
theorem tailT_cons {t : Tm} (h : t.cons = true) : tailT t = tailT (t.arg 1) := by
 have h1 := t.nodes_arg 1 (by rw [Tm.cons_len h]; decide)
 unfold tailT
 obtain ⟨f, hf⟩ : ∃ f, t.nodes = f + 1 := ⟨t.nodes - 1, by have := t.nodes_pos; omega⟩
 rw [hf]
 show (if t.cons = true then tailF f (t.arg 1) else t) = _
 rw [if_pos h, tailF_irr f (t.arg 1).nodes (t.arg 1) (by omega) (Nat.le_refl _)]
theorem tailT_end {t : Tm} (h : t.cons = false) : tailT t = t := by
 unfold tailT
 obtain ⟨f, hf⟩ : ∃ f, t.nodes = f + 1 := ⟨t.nodes - 1, by have := t.nodes_pos; omega⟩
 rw [hf]
 show (if t.cons = true then tailF f (t.arg 1) else t) = _
 rw [if_neg (by simp [h])]
def has (T : List OpR) (s : ByteArray) (c : Int) : Bool := (findR T s c).isSome
def hd (l : List ByteArray) : ByteArray := l.headD ⟨#[]⟩
end Hb
namespace Hb
open Go Go.RowKit
theorem own_below {w w' : World} {base e size : Nat} {v : Value} {n : Nat} {xs : List Value} (h : w.ownsRow base e size v n xs) (hB : Below w.heap.size w w') : w'.ownsRow base e size v n xs := by
 refine ⟨h.1, ?_⟩
 rcases h.2 with hn | ⟨g, cap, cur, hv, hbg, hh, rest⟩
 ·exact .inl hn
 ·exact .inr ⟨g, cap, cur, hv, hbg, (hB.block g (by rw [Array.getElem?_eq_some_iff] at hh; exact hh.1)).trans hh, rest⟩
end Hb
namespace Go.Proofs.YtfkhcpeahdkafaaGreat
open Go.RowKit Hb
set_option maxRecDepth 100000
end Go.Proofs.YtfkhcpeahdkafaaGreat
namespace Hb
open Go Go.RowKit
theorem own_empty (w : World) (base e size : Nat) (hb : base ≤ w.heap.size) : (w.alloc (.cells #[] e)).ownsRow base e size (.slice (some ⟨w.heap.size, 0, none⟩) 0 0) 0 [] :=
 ⟨by simp, .inr ⟨w.heap.size, 0, #[], rfl, hb, by show (w.heap.push _)[w.heap.size]? = _; simp, Nat.le_refl _, Nat.zero_le _, by simp, by simp⟩⟩
theorem own_slice {w : World} {base e size : Nat} {v : Value} {n : Nat} {xs : List Value} (h : w.ownsRow base e size v n xs) : ∃ A cap, v = .slice A n cap := by
 rcases h.2 with ⟨rfl, rfl⟩ | ⟨g, cap, cur, rfl, _⟩
 ·exact ⟨_, _, rfl⟩
 ·exact ⟨_, _, rfl⟩
def StrsAt (w : World) (A : Option Addr) (l : List ByteArray) : Prop :=
 ∀ j (h : j < l.length), ∃ b off, A = some ⟨b, off, none⟩ ∧ b < w.heap.size ∧ w.cell? ⟨b, off + j, none⟩ = some (.string l[j])
theorem StrsAt.below {w w' : World} {A : Option Addr} {l : List ByteArray} (h : StrsAt w A l) (hb : Below w.heap.size w w') : StrsAt w' A l := fun j hj => by
 obtain ⟨b, off, e, hlt, c1⟩ := h j hj
 exact ⟨b, off, e, Nat.lt_of_lt_of_le hlt hb.size, (hb.cell (p := ⟨b, _, none⟩) hlt).trans c1⟩
theorem addr_add (b off j : Nat) : (⟨b, off, none⟩ : Addr).add j = ⟨b, off + j, none⟩ := by unfold Addr.add; split <;> simp_all
end Hb
namespace Go.Proofs.YtfkhcpeahdkafaaGreat
open Go.ChangeShapes Go.WideShapes Go.ChangeAt Go.RowKit Hb
theorem infoStr : (Tryz.prog.info? 9).map (fun i => (i.zero, i.size, i.bytes)) = some (some (.string ⟨#[]⟩), 1, 16) := by kernel_rfl
end Go.Proofs.YtfkhcpeahdkafaaGreat
namespace Hb
open Go Go.RowKit
abbrev TR := Tm × Option Addr × Nat
def rowC (r : TR) : List Value := [.int .i64 r.1.kind, .int .i64 r.1.num, .string r.1.name, .slice r.2.1 r.1.args.length r.2.2]
def rowsC (rs : List TR) : List Value := rs.flatMap rowC
theorem rowsC_app (a b : List TR) : rowsC (a ++ b) = rowsC a ++ rowsC b := by unfold rowsC; rw [List.flatMap_append]
theorem rowsC_get : ∀ (rs : List TR) (i : Nat) (h : i < rs.length), (rowsC rs)[i * 4]? = some (.int .i64 rs[i].1.kind) ∧ (rowsC rs)[i * 4 + 1]? = some (.int .i64 rs[i].1.num) ∧ (rowsC rs)[i * 4 + 2]? = some (.string rs[i].1.name) ∧ (rowsC rs)[i * 4 + 3]? = some (.slice rs[i].2.1 rs[i].1.args.length rs[i].2.2)
 | p :: l, 0, _ => ⟨rfl, rfl, rfl, rfl⟩
 | p :: l, i + 1, h => by
  have := rowsC_get l i (by simpa using h)
  have e : rowsC (p :: l) = .int .i64 p.1.kind :: .int .i64 p.1.num :: .string p.1.name :: .slice p.2.1 p.1.args.length p.2.2 :: rowsC l := rfl
  rw [e, show (i + 1) * 4 = i * 4 + 4 by omega]
  exact ⟨by simpa using this.1, by simpa using this.2.1, by simpa using this.2.2.1, by simpa using this.2.2.2⟩
theorem rowC_one (r : TR) : ∀ u ∈ rowC r, u.oneCell' = true := by
 intro u hu
 simp [rowC] at hu
 rcases hu with rfl | rfl | rfl | rfl <;> rfl
structure OwnR (lo : Nat) (e : TypeId) (w : World) (v : Value) (rs : List TR) : Prop where
 own : w.ownsRow lo e 4 v rs.length (rowsC rs)
 sub : ∀ r ∈ rs, TmsK (fun b => lo ≤ b ∧ b < w.heap.size ∧ v.ownBlock ≠ some b) w r.2.1 r.1.args
theorem OwnR.nul (lo : Nat) (e : TypeId) (w : World) : OwnR lo e w (.slice none 0 0) [] := ⟨World.ownsRow_nil _ _ _ _, fun r hr => absurd hr (by simp)⟩
theorem OwnR.keep {lo : Nat} {e : TypeId} {w w' : World} {v : Value} {rs : List TR} (h : OwnR lo e w v rs) (hs : w.heap.size ≤ w'.heap.size) (hb : ∀ b, lo ≤ b → b < w.heap.size → w'.heap[b]? = w.heap[b]?) : OwnR lo e w' v rs where
 own := by
  refine ⟨h.own.1, ?_⟩
  rcases h.own.2 with hn | ⟨g, cap, cur, hv, hg, hh, rest⟩
  ·exact .inl hn
  ·exact .inr ⟨g, cap, cur, hv, hg, by rw [hb g hg (Array.getElem?_eq_some_iff.1 hh).1]; exact hh, rest⟩
 sub := fun r hr => (h.sub r hr).keep (fun b hk => hb b hk.1 hk.2.1) (fun b hk => ⟨hk.1, Nat.lt_of_lt_of_le hk.2.1 hs, hk.2.2⟩)
theorem OwnR.below {lo : Nat} {e : TypeId} {w w' : World} {v : Value} {rs : List TR} (h : OwnR lo e w v rs) (hB : Below w.heap.size w w') : OwnR lo e w' v rs := h.keep hB.size fun b _ hb => hB.block b hb
theorem OwnR.snoc {lo : Nat} {e : TypeId} {W w2 : World} {v v' : Value} {rs : List TR} (h : OwnR lo e W v rs) (r : TR) (hr : TmsK (fun b => lo ≤ b ∧ b < W.heap.size ∧ v.ownBlock ≠ some b) W r.2.1 r.1.args)
  (hown : w2.ownsRow lo e 4 v' (rs.length + 1) (rowsC rs ++ rowC r)) (hg : W.grownBy w2 v.ownBlock) (hat : v'.ownBlock = v.ownBlock ∨ v'.ownBlock = some W.heap.size) : OwnR lo e w2 v' (rs ++ [r]) where
 own := by
  rw [rowsC_app, List.length_append]
  have e1 : rowsC [r] = rowC r := by unfold rowsC; simp
  rw [e1]; exact hown
 sub := by
  have key : ∀ {A : Option Addr} {l : List Tm}, TmsK (fun b => lo ≤ b ∧ b < W.heap.size ∧ v.ownBlock ≠ some b) W A l → TmsK (fun b => lo ≤ b ∧ b < w2.heap.size ∧ v'.ownBlock ≠ some b) w2 A l := fun hk => by
   refine hk.keep (fun b hb => hg.block b hb.2.1 (fun e => hb.2.2 e.symm)) (fun b hb => ⟨hb.1, Nat.lt_of_lt_of_le hb.2.1 hg.size, fun e => ?_⟩)
   rcases hat with h' | h'
   ·rw [h'] at e; exact hb.2.2 e
   ·rw [h'] at e; injection e with e; have := hb.2.1; omega
  intro x hx
  rcases List.mem_append.1 hx with hx | hx
  ·exact key (h.sub x hx)
  ·rw [List.mem_singleton] at hx; subst hx; exact key hr
theorem OwnR.tms {lo : Nat} {e : TypeId} {w : World} {v : Value} {rs : List TR} (h : OwnR lo e w v rs) : ∃ A cap, v = .slice A rs.length cap ∧ TmsK (fun b => lo ≤ b ∧ b < w.heap.size) w A (rs.map (·.1)) := by
 have hsub : ∀ j (hj : j < rs.length), TmsK (fun b => lo ≤ b ∧ b < w.heap.size) w rs[j].2.1 rs[j].1.args := fun j hj => (h.sub _ (List.getElem_mem hj)).keep (fun _ _ => rfl) (fun b hb => ⟨hb.1, hb.2.1⟩)
 rcases h.own.2 with ⟨hv, h0⟩ | ⟨g, cap, cur, hv, hg, hh, hn, hm, rest⟩
 ·have : rs = [] := List.eq_nil_of_length_eq_zero h0
  subst this
  exact ⟨_, _, hv, TmsK.nil⟩
 ·refine ⟨some ⟨g, 0, none⟩, cap, hv, .mk _ _ (fun j => (rs.getD j (tm0, none, 0)).2.1) (fun j => (rs.getD j (tm0, none, 0)).2.2) (by rw [List.length_map]; omega) (fun j hj => ?_) (fun j hj => ?_)⟩
  ·rw [List.length_map] at hj
   obtain ⟨p0, p1, p2, p3⟩ := rowsC_get rs j hj
   have hc : ∀ k u, (rowsC rs)[k]? = some u → w.cell? ⟨g, 0 + k, none⟩ = some u := fun k u hu => by
    have := h.own.cells (g := g) (by rw [hv]; rfl) k u hu
    rw [addr_add] at this
    exact this
   have e1 : rs.getD j (tm0, none, 0) = rs[j] := by rw [List.getD_eq_getElem?_getD, List.getElem?_eq_getElem hj]; rfl
   refine ⟨g, 0, rfl, ⟨hg, (Array.getElem?_eq_some_iff.1 hh).1⟩, ?_, ?_, ?_, ?_⟩
   ·rw [List.getElem_map]; exact hc _ _ p0
   ·rw [List.getElem_map]; exact hc _ _ p1
   ·rw [List.getElem_map]; exact hc _ _ p2
   ·rw [List.getElem_map]; simp only [e1]; exact hc _ _ p3
  ·rw [List.length_map] at hj
   have e1 : rs.getD j (tm0, none, 0) = rs[j] := by rw [List.getD_eq_getElem?_getD, List.getElem?_eq_getElem hj]; rfl
   rw [List.getElem_map]; simp only [e1]
   exact hsub j hj
structure CpH (w0 w : World) (e : TypeId) (t : Tm) (A : Option Addr) (cap : Nat) (v : Value) (rs : List TR) : Prop where
 bel : Below w0.heap.size w0 w
 lt : w0.heap.size + 3 ≤ w.heap.size
 b3 : w.cell? ⟨w0.heap.size, 3, none⟩ = some (.slice A t.args.length cap)
 r0 : ∃ u, w.cell? ⟨w0.heap.size + 1, 0, none⟩ = some u
 r1 : ∃ u, w.cell? ⟨w0.heap.size + 1, 1, none⟩ = some u
 r2 : ∃ u, w.cell? ⟨w0.heap.size + 1, 2, none⟩ = some u
 r3 : ∃ u, w.cell? ⟨w0.heap.size + 1, 3, none⟩ = some u
 rf : ∀ o, w.frozen? ⟨w0.heap.size + 1, o, none⟩ = false
 c0 : w.cell? ⟨w0.heap.size + 2, 0, none⟩ = some (.int .i64 t.kind)
 c1 : w.cell? ⟨w0.heap.size + 2, 1, none⟩ = some (.int .i64 t.num)
 c2 : w.cell? ⟨w0.heap.size + 2, 2, none⟩ = some (.string t.name)
 c3 : w.cell? ⟨w0.heap.size + 2, 3, none⟩ = some v
 cf : ∀ o, w.frozen? ⟨w0.heap.size + 2, o, none⟩ = false
 own : OwnR (w0.heap.size + 3) e w v rs
section
variable {w0 w w' : World} {e : TypeId} {t : Tm} {A : Option Addr} {cap : Nat} {v : Value} {rs : List TR}
theorem CpH.call (h : CpH w0 w e t A cap v rs) (hB : Below w.heap.size w w') : CpH w0 w' e t A cap v rs := by
 have hl := h.lt
 have hc : ∀ b o, b < w0.heap.size + 3 → w'.cell? ⟨b, o, none⟩ = w.cell? ⟨b, o, none⟩ := fun b o hb => hB.cell (p := ⟨b, o, none⟩) (by show b < _; omega)
 have hf : ∀ b o, b < w0.heap.size + 3 → w'.frozen? ⟨b, o, none⟩ = w.frozen? ⟨b, o, none⟩ := fun b o hb => hB.frozen (p := ⟨b, o, none⟩) (by show b < _; omega)
 exact ⟨h.bel.trans (hB.mono (by omega)), Nat.le_trans hl hB.size, (hc _ _ (by omega)).trans h.b3, h.r0.imp fun _ k => (hc _ _ (by omega)).trans k, h.r1.imp fun _ k => (hc _ _ (by omega)).trans k, h.r2.imp fun _ k => (hc _ _ (by omega)).trans k, h.r3.imp fun _ k => (hc _ _ (by omega)).trans k,
  fun o => (hf _ _ (by omega)).trans (h.rf o), (hc _ _ (by omega)).trans h.c0, (hc _ _ (by omega)).trans h.c1, (hc _ _ (by omega)).trans h.c2, (hc _ _ (by omega)).trans h.c3, fun o => (hf _ _ (by omega)).trans (h.cf o), h.own.below hB⟩
theorem CpH.drew (h : CpH w0 w e t A cap v rs) : CpH w0 w.drew e t A cap v rs := h.call (Below.refl w.heap.size w).drew
theorem CpH.far (h : CpH w0 w e t A cap v rs) (hg : w.grownBy w' v.ownBlock) (b o : Nat) (hb : b < w0.heap.size + 3) : w'.cell? ⟨b, o, none⟩ = w.cell? ⟨b, o, none⟩ ∧ w'.frozen? ⟨b, o, none⟩ = w.frozen? ⟨b, o, none⟩ := by
 have hl := h.lt
 have hne : some b ≠ v.ownBlock := fun e => by have := (h.own.own.lt b e.symm).1; omega
 exact ⟨hg.cell_far ⟨b, o, none⟩ (by show b < _; omega) hne, hg.frozen_far ⟨b, o, none⟩ (by show b < _; omega) hne⟩
theorem CpH.app (h : CpH w0 w e t A cap v rs) (r : TR) (hr : TmsK (fun b => w0.heap.size + 3 ≤ b ∧ b < w.heap.size ∧ v.ownBlock ≠ some b) w r.2.1 r.1.args) {v' : Value} {w2 : World}
  (hown : w2.ownsRow (w0.heap.size + 3) e 4 v' (rs.length + 1) (rowsC rs ++ rowC r)) (hg : w.grownBy w2 v.ownBlock) (hat : v'.ownBlock = v.ownBlock ∨ v'.ownBlock = some w.heap.size) : CpH w0 (w2.setCell ⟨w0.heap.size + 2, 3, none⟩ v') e t A cap v' (rs ++ [r]) := by
 have hl := h.lt
 have hO := h.own.snoc r hr hown hg hat
 have hbel : Below w0.heap.size w0 w2 := h.bel.grown hg (by omega) (fun k hk => by have := (h.own.own.lt k hk).1; omega)
 have hc : ∀ b o, b < w0.heap.size + 3 → (b ≠ w0.heap.size + 2 ∨ o ≠ 3) → (w2.setCell ⟨w0.heap.size + 2, 3, none⟩ v').cell? ⟨b, o, none⟩ = w.cell? ⟨b, o, none⟩ := fun b o hb hne => by
  rw [World.cell?_setCell_other _ _ _ _ (by intro e; injection e with e1 e2 _; rcases hne with hne | hne <;> omega)]
  exact (h.far hg b o hb).1
 have hf : ∀ b o, b < w0.heap.size + 3 → (w2.setCell ⟨w0.heap.size + 2, 3, none⟩ v').frozen? ⟨b, o, none⟩ = w.frozen? ⟨b, o, none⟩ := fun b o hb => by
  rw [World.frozen?_setCell]; exact (h.far hg b o hb).2
 refine ⟨hbel.setCell (p := ⟨_, _, none⟩) (by show w0.heap.size ≤ w0.heap.size + 2; omega) _, by have := hg.size; simp; omega, (hc _ _ (by omega) (.inl (by omega))).trans h.b3, h.r0.imp fun _ k => (hc _ _ (by omega) (.inl (by omega))).trans k, h.r1.imp fun _ k => (hc _ _ (by omega) (.inl (by omega))).trans k, h.r2.imp fun _ k => (hc _ _ (by omega) (.inl (by omega))).trans k, h.r3.imp fun _ k => (hc _ _ (by omega) (.inl (by omega))).trans k,
  fun o => (hf _ _ (by omega)).trans (h.rf o), (hc _ _ (by omega) (.inr (by omega))).trans h.c0, (hc _ _ (by omega) (.inr (by omega))).trans h.c1, (hc _ _ (by omega) (.inr (by omega))).trans h.c2, World.cell?_setCell_same _ _ _ ((h.far hg _ _ (by omega)).1.trans h.c3), fun o => (hf _ _ (by omega)).trans (h.cf o), hO.keep (by simp) fun b hb _ => heap_setCell_other w2 ⟨w0.heap.size + 2, 3, none⟩ b v' (fun e => by simp at e; omega)⟩
end
end Hb
namespace Hb
open Go Go.RowKit
theorem CpH.start (w : World) (t : Tm) (A : Option Addr) (cap LN : Nat) (e : TypeId) (hL : LN = t.args.length) :
  CpH w ((((w.alloc (.cells #[.int .i64 t.kind, .int .i64 t.num, .string t.name, .slice A LN cap] e)).alloc (.cells #[.int .i64 0, .int .i64 0, .string ⟨#[]⟩, .slice none 0 0] e)).alloc (.cells #[.int .i64 t.kind, .int .i64 t.num, .string t.name, .slice none 0 0] e))) e t A cap (.slice none 0 0) [] := by
 obtain ⟨W1, hW1⟩ : ∃ W1, W1 = w.alloc (.cells #[.int .i64 t.kind, .int .i64 t.num, .string t.name, .slice A LN cap] e) := ⟨_, rfl⟩
 obtain ⟨W2, hW2⟩ : ∃ W2, W2 = W1.alloc (.cells #[.int .i64 0, .int .i64 0, .string ⟨#[]⟩, .slice none 0 0] e) := ⟨_, rfl⟩
 rw [← hW1, ← hW2]
 have s1 : W1.heap.size = w.heap.size + 1 := by rw [hW1]; simp
 have s2 : W2.heap.size = w.heap.size + 2 := by rw [hW2]; simp; omega
 have hB2 : Below W1.heap.size W1 W2 := by rw [hW2]; exact (Below.refl _ _).alloc (Nat.le_refl _) _
 have hB3 : Below W2.heap.size W2 (W2.alloc (.cells #[.int .i64 t.kind, .int .i64 t.num, .string t.name, .slice none 0 0] e)) := (Below.refl _ _).alloc (Nat.le_refl _) _
 have hB1 : Below w.heap.size w W1 := by rw [hW1]; exact (Below.refl _ _).alloc (Nat.le_refl _) _
 have a3 : W1.cell? ⟨w.heap.size, 3, none⟩ = some (.slice A t.args.length cap) := by rw [hW1, ← hL]; exact World.cell?_alloc_new _ _ _ 3
 have r : ∀ j u, (#[.int .i64 0, .int .i64 0, .string ⟨#[]⟩, .slice none 0 0] : Array Value)[j]? = some u → W2.cell? ⟨w.heap.size + 1, j, none⟩ = some u := fun j u hu => by
  have := World.cell?_alloc_new W1 #[.int .i64 0, .int .i64 0, .string ⟨#[]⟩, .slice none 0 0] e j
  rw [s1, ← hW2] at this; rw [this]; exact hu
 have rf : ∀ o, W2.frozen? ⟨w.heap.size + 1, o, none⟩ = false := fun o => by
  have := World.frozen?_alloc_at (w := W1) #[.int .i64 0, .int .i64 0, .string ⟨#[]⟩, .slice none 0 0] e (w.heap.size + 1) o s1.symm
  rw [← hW2] at this; exact this
 have c : ∀ j, (W2.alloc (.cells #[.int .i64 t.kind, .int .i64 t.num, .string t.name, .slice none 0 0] e)).cell? ⟨w.heap.size + 2, j, none⟩ = (#[.int .i64 t.kind, .int .i64 t.num, .string t.name, .slice none 0 0] : Array Value)[j]? := fun j => by
  have := World.cell?_alloc_new W2 #[.int .i64 t.kind, .int .i64 t.num, .string t.name, .slice none 0 0] e j
  rw [s2] at this; exact this
 have k2 : ∀ o, (W2.alloc (.cells #[.int .i64 t.kind, .int .i64 t.num, .string t.name, .slice none 0 0] e)).cell? ⟨w.heap.size + 1, o, none⟩ = W2.cell? ⟨w.heap.size + 1, o, none⟩ := fun o => hB3.cell (p := ⟨w.heap.size + 1, o, none⟩) (show w.heap.size + 1 < W2.heap.size by omega)
 refine ⟨(hB1.trans (hB2.mono (by omega))).trans (hB3.mono (by omega)), by simp; omega, ?_, ⟨_, (k2 0).trans (r 0 _ rfl)⟩, ⟨_, (k2 1).trans (r 1 _ rfl)⟩, ⟨_, (k2 2).trans (r 2 _ rfl)⟩, ⟨_, (k2 3).trans (r 3 _ rfl)⟩, fun o => ?_, c 0, c 1, c 2, c 3, fun o => ?_, OwnR.nul _ _ _⟩
 ·rw [hB3.cell (p := ⟨w.heap.size, 3, none⟩) (show w.heap.size < W2.heap.size by omega), hB2.cell (p := ⟨w.heap.size, 3, none⟩) (show w.heap.size < W1.heap.size by omega)]; exact a3
 ·rw [hB3.frozen (p := ⟨w.heap.size + 1, o, none⟩) (show w.heap.size + 1 < W2.heap.size by omega)]; exact rf o
 ·exact World.frozen?_alloc_at (w := W2) _ _ (w.heap.size + 2) o s2.symm
theorem CpH.put {w0 w : World} {e : TypeId} {t : Tm} {A : Option Addr} {cap : Nat} {v : Value} {rs : List TR} (h : CpH w0 w e t A cap v rs) (x0 x1 x2 x3 : Value) :
  Below w0.heap.size w0 ((((w.setCell ⟨w0.heap.size + 1, 0, none⟩ x0).setCell ⟨w0.heap.size + 1, 1, none⟩ x1).setCell ⟨w0.heap.size + 1, 2, none⟩ x2).setCell ⟨w0.heap.size + 1, 3, none⟩ x3) ∧
  OwnR (w0.heap.size + 3) e ((((w.setCell ⟨w0.heap.size + 1, 0, none⟩ x0).setCell ⟨w0.heap.size + 1, 1, none⟩ x1).setCell ⟨w0.heap.size + 1, 2, none⟩ x2).setCell ⟨w0.heap.size + 1, 3, none⟩ x3) v rs := by
 have hle : w0.heap.size ≤ w0.heap.size + 1 := by omega
 refine ⟨((((h.bel.setCell (p := ⟨_, _, none⟩) hle _).setCell (p := ⟨_, _, none⟩) hle _).setCell (p := ⟨_, _, none⟩) hle _).setCell (p := ⟨_, _, none⟩) hle _), h.own.keep (by simp) fun b hb _ => ?_⟩
 have hne : ∀ o, b ≠ (⟨w0.heap.size + 1, o, none⟩ : Addr).block := fun o e => by simp at e; omega
 rw [heap_setCell_other _ _ _ _ (hne _), heap_setCell_other _ _ _ _ (hne _), heap_setCell_other _ _ _ _ (hne _), heap_setCell_other _ _ _ _ (hne _)]
def NewT (w w' : World) (A : Option Addr) (l : List Tm) : Prop := TmsK (fun b => w.heap.size ≤ b ∧ b < w'.heap.size) w' A l
end Hb
namespace Go.Proofs.YtfkhcpeahdkafaaGreat
open Go.RowKit Hb
set_option maxRecDepth 100000
theorem infoTm : (Tryz.prog.info? 26).map (fun i => (i.zero, i.size, i.bytes)) = some (some (.agg #[.int .i64 0, .int .i64 0, .string ⟨#[]⟩, .slice none 0 0]), 4, 56) := by kernel_rfl
theorem at_appTT {ops : Array Oper} {rest : List Oper} {a : Act} {Q : Exit → Act → World → Prop} {w : World} {d t p f x g} (h : wpList Tryz.prog ops Q (⟨d, .call { callee := .builtin .append, args := x, argTypes := #[24, 24] }, t, p, f, g⟩ :: rest) a w) : wpList Tryz.prog ops Q (⟨d, .call { callee := .builtin .append, args := x, argTypes := #[24, 24] }, t, p, f, g⟩ :: rest) a w := h
end Go.Proofs.YtfkhcpeahdkafaaGreat
namespace Hb
open Go Go.RowKit
structure R4 (w0 w : World) (g : Nat) : Prop where
 bel : Below w0.heap.size w0 w
 le : w0.heap.size ≤ g
 lt : g < w.heap.size
 r0 : ∃ v, w.cell? ⟨g, 0, none⟩ = some v
 r1 : ∃ v, w.cell? ⟨g, 1, none⟩ = some v
 r2 : ∃ v, w.cell? ⟨g, 2, none⟩ = some v
 r3 : ∃ v, w.cell? ⟨g, 3, none⟩ = some v
 fr : ∀ o, w.frozen? ⟨g, o, none⟩ = false
theorem R4.call {w0 w w' : World} {g : Nat} (h : R4 w0 w g) (hB : Below w.heap.size w w') : R4 w0 w' g where
 bel := h.bel.trans (hB.mono h.bel.size)
 le := h.le
 lt := Nat.lt_of_lt_of_le h.lt hB.size
 r0 := h.r0.imp fun _ hh => (hB.cell (p := ⟨_, _, none⟩) h.lt).trans hh
 r1 := h.r1.imp fun _ hh => (hB.cell (p := ⟨_, _, none⟩) h.lt).trans hh
 r2 := h.r2.imp fun _ hh => (hB.cell (p := ⟨_, _, none⟩) h.lt).trans hh
 r3 := h.r3.imp fun _ hh => (hB.cell (p := ⟨_, _, none⟩) h.lt).trans hh
 fr := fun o => (hB.frozen (p := ⟨_, o, none⟩) h.lt).trans (h.fr o)
theorem R4.start {w0 w : World} (hB : Below w0.heap.size w0 w) (x0 x1 x2 x3 : Value) (e : TypeId) : R4 w0 (w.alloc (.cells #[x0, x1, x2, x3] e)) w.heap.size where
 bel := hB.trans ((Below.refl _ _).alloc hB.size _)
 le := hB.size
 lt := by simp
 r0 := ⟨_, World.cell?_alloc_new _ _ _ 0⟩
 r1 := ⟨_, World.cell?_alloc_new _ _ _ 1⟩
 r2 := ⟨_, World.cell?_alloc_new _ _ _ 2⟩
 r3 := ⟨_, World.cell?_alloc_new _ _ _ 3⟩
 fr := fun o => World.frozen?_alloc_new _ _ _ _
theorem R4.put {w0 w : World} {g : Nat} (h : R4 w0 w g) (x y z u : Value) : Below w0.heap.size w0 ((((w.setCell ⟨g, 0, none⟩ x).setCell ⟨g, 1, none⟩ y).setCell ⟨g, 2, none⟩ z).setCell ⟨g, 3, none⟩ u) :=
 (((h.bel.setCell (p := ⟨_, _, none⟩) h.le _).setCell (p := ⟨_, _, none⟩) h.le _).setCell (p := ⟨_, _, none⟩) h.le _).setCell (p := ⟨_, _, none⟩) h.le _
theorem put4_block (w : World) (g : Nat) (x y z u : Value) (b : Nat) (hb : b ≠ g) : ((((w.setCell ⟨g, 0, none⟩ x).setCell ⟨g, 1, none⟩ y).setCell ⟨g, 2, none⟩ z).setCell ⟨g, 3, none⟩ u).heap[b]? = w.heap[b]? := by
 rw [heap_setCell_other _ _ _ _ hb, heap_setCell_other _ _ _ _ hb, heap_setCell_other _ _ _ _ hb, heap_setCell_other _ _ _ _ hb]
theorem put4_size (w : World) (g : Nat) (x y z u : Value) : ((((w.setCell ⟨g, 0, none⟩ x).setCell ⟨g, 1, none⟩ y).setCell ⟨g, 2, none⟩ z).setCell ⟨g, 3, none⟩ u).heap.size = w.heap.size := by simp
end Hb
namespace Go.Proofs.YtfkhcpeahdkafaaGreat
open Go.RowKit Hb
set_option maxRecDepth 100000
set_option maxHeartbeats 1600000 in
theorem clone_1 (t : Tm) (A : Option Addr) (cap : Nat) (w : World) : Calls Tryz.prog 171 #[tmV t A cap] w fun e w' => e = .returned (tmV t A cap) ∧ Below w.heap.size w w' := by
 unfold tmV
 generalize t.kind = a0 at *
 generalize t.num = a1 at *
 generalize t.name = a2 at *
 generalize t.args.length = a3 at *
 have hX := R4.start (w0 := w) (w := w.alloc (.cells #[.int .i64 a0, .int .i64 a1, .string a2, .slice A a3 cap] 26)) ((Below.refl _ _).alloc (Nat.le_refl _) _) (.int .i64 0) (.int .i64 0) (.string ⟨#[]⟩) (.slice none 0 0) 26
 have hs : (w.alloc (.cells #[.int .i64 a0, .int .i64 a1, .string a2, .slice A a3 cap] 26)).heap.size = w.heap.size + 1 := by simp
 rw [hs] at hX
 have hp := hX.put (.int .i64 a0) (.int .i64 a1) (.string a2) (.slice A a3 cap)
 go_enter Tryz.func171, Tryz.ntmps171
 go_wp2_with fail
 refine bodyPost_ret (v := .agg #[.int .i64 a0, .int .i64 a1, .string a2, .slice A a3 cap]) (by simp [results, Tryz.results171, go_sem]) rfl ⟨rfl, ?_⟩
 exact ((Below.refl _ _).alloc (Nat.le_refl _) _).alloc (by simp) _
def cloneF : Value := .func (.func 171) #[] #[]
set_option maxHeartbeats 6400000 in
theorem t_apply : ∀ (t : Tm) (A : Option Addr) (cap : Nat) (w : World), TmsAt w.heap.size w A t.args → t.allOk = true →
    Calls Tryz.prog 111 #[tmV t A cap, cloneF] w fun e w' => ∃ A' cap', e = .returned (tmV t A' cap') ∧ Below w.heap.size w w' ∧ NewT w w' A' t.args := by
  refine Tm.ind fun t ih => ?_
  intro A cap w hT hok
  obtain ⟨i, hi, hz0, hz1, hz2⟩ := info_parts infoTm
  have HI := Lib.hid hi
  have HZ0 := Lib.hid hz0
  have HZ1 := Lib.hid hz1
  have HZ2 := Lib.hid hz2
  clear hi hz0 hz1 hz2
  have HT := Lib.hid hT
  have hm : t.args.length ≤ 8 := by
    rw [Tm.allOk_eq, Bool.and_eq_true] at hok
    have := hok.1
    unfold nodeOk at this
    grind
  have HOKA : Hid (∀ a ∈ t.args, a.allOk = true) := Lib.hid (by
    rw [Tm.allOk_eq, Bool.and_eq_true, List.all_eq_true] at hok
    exact hok.2)
  have HIH := Lib.hid ih
  obtain ⟨L, HL⟩ : ∃ L, Hid (L = t.args.length) := ⟨_, Lib.hid rfl⟩
  have HST := Lib.hid (CpH.start w t A cap L 26 HL.out)
  unfold tmV cloneF at *
  rw [← HL.out] at hm ⊢
  by_cases hk0 : t.kind = 0
  · have hl0 : t.args.length = 0 := by
      have h1 := hok
      rw [Tm.allOk_eq, Bool.and_eq_true] at h1
      have h2 := h1.1
      unfold nodeOk at h2
      rw [if_pos hk0] at h2
      simp at h2
      exact List.length_eq_zero_iff.2 h2.2
    have hnil : t.args = [] := List.eq_nil_of_length_eq_zero hl0
    have HC1 := Lib.hid (fun W => clone_1 t A cap W)
    unfold tmV at HC1
    rw [← HL.out] at HC1
    have HK := Lib.hid hk0
    have hX0 := R4.start (w0 := w) (w := w.alloc (.cells #[.int .i64 t.kind, .int .i64 t.num, .string t.name, .slice A L cap] 26)) ((Below.refl _ _).alloc (Nat.le_refl _) _) (.int .i64 0) (.int .i64 0) (.string ⟨#[]⟩) (.slice none 0 0) 26
    have hs : (w.alloc (.cells #[.int .i64 t.kind, .int .i64 t.num, .string t.name, .slice A L cap] 26)).heap.size = w.heap.size + 1 := by simp
    rw [hs] at hX0
    have HX0 := Lib.hid hX0
    have hb0 : (t.kind == 0) = true := by simp [hk0]
    clear hok hk0 hl0 hX0 hs ih hT HST HL
    generalize t.kind = a0 at *
    generalize t.num = a1 at *
    generalize t.name = a2 at *
    go_enter Tryz.func111, Tryz.ntmps111
    go_wp2_with fail
    refine (HC1.out _).mono ?_; rintro e w1 ⟨rfl, hB1⟩
    have hX1 := HX0.out.call hB1
    obtain ⟨v0, r0⟩ := hX1.r0
    obtain ⟨v1, r1⟩ := hX1.r1
    obtain ⟨v2, r2⟩ := hX1.r2
    obtain ⟨v3, r3⟩ := hX1.r3
    have f0 := hX1.fr 0
    have f1 := hX1.fr 1
    have f2 := hX1.fr 2
    have f3 := hX1.fr 3
    have hput := hX1.put (.int .i64 a0) (.int .i64 a1) (.string a2) (.slice A L cap)
    go_wp2_with fail
    exact bodyPost_ret (v := .agg #[.int .i64 a0, .int .i64 a1, .string a2, .slice A L cap]) (by simp [results, Tryz.results111, go_sem, r0, r1, r2, r3]) rfl ⟨A, cap, rfl, hput, by rw [hnil]; exact TmsK.nil⟩
  have hkb : (t.kind == 0) = false := by simp [hk0]
  clear ih hT hok
  go_enter Tryz.func111, Tryz.ntmps111
  go_wp2_with fail
  go_loopw [24] (fun i wr => ∃ k : Nat, ∃ v : Value, ∃ rs : List TR, k ≤ L ∧ i = .int .i64 k ∧ Hid (CpH w wr 26 t A cap v rs) ∧ Hid (rs.map (·.1) = t.args.take k)) (fun i _ => L - (intOf i).toNat)
  case atStart => exact ⟨0, _, [], Nat.zero_le _, rfl, HST, Lib.hid (by simp)⟩
  case round =>
    obtain ⟨k, v, rs, hk, rfl, HB, HR⟩ := hrel
    have b3 := HB.out.b3
    rw [← HL.out] at b3
    by_cases hlt : k < L
    · have hkl : k < t.args.length := by have := HL.out; omega
      obtain ⟨b, off, A', cap', rfl, hb, c0, c1, c2, c3, hs⟩ := (HT.out.keep HB.out.bel).get k hkl
      have hX := HB.out.call ((Below.refl _ _).alloc (Nat.le_refl _) (.cells #[.int .i64 t.args[k].kind, .int .i64 t.args[k].num, .string t.args[k].name, .slice A' t.args[k].args.length cap'] 26))
      have hD := hX.drew
      have HA := Lib.hid (HIH.out t.args[k] (List.getElem_mem hkl) A' cap' (wr.alloc (.cells #[.int .i64 t.args[k].kind, .int .i64 t.args[k].num, .string t.args[k].name, .slice A' t.args[k].args.length cap'] 26)).drew ((hs.keep ((Below.refl _ wr).alloc HB.out.bel.size _).drew).mono hX.bel.size) (HOKA.out _ (List.getElem_mem hkl)))
      have HC : Hid (Calls Tryz.prog 111 #[.agg #[.int .i64 t.args[k].kind, .int .i64 t.args[k].num, .string t.args[k].name, .slice A' t.args[k].args.length cap'], .func (.func 171) #[] #[]] (wr.alloc (.cells #[.int .i64 t.args[k].kind, .int .i64 t.args[k].num, .string t.args[k].name, .slice A' t.args[k].args.length cap'] 26)).drew fun e w' => ∃ A2 c2, e = .returned (.agg #[.int .i64 t.args[k].kind, .int .i64 t.args[k].num, .string t.args[k].name, .slice A2 t.args[k].args.length c2]) ∧ CpH w w' 26 t (some ⟨b, off, none⟩) cap v rs ∧ TmsK (fun b => w.heap.size + 3 ≤ b ∧ b < w'.heap.size ∧ v.ownBlock ≠ some b) w' A2 t.args[k].args) :=
        Lib.hid (HA.out.mono fun e w' hh => by
          obtain ⟨A2, c2, he, hB, hN⟩ := hh
          refine ⟨A2, c2, he, hD.call hB, hN.keep (fun _ _ => rfl) fun b hb => ⟨Nat.le_trans hD.lt hb.1, hb.2, fun ee => ?_⟩⟩
          have := (hD.own.own.lt b ee).2
          have h1 := hb.1
          omega)
      have hrl : rs.length = k := by
        have := congrArg List.length HR.out
        rw [List.length_map, List.length_take] at this; omega
      have HR2 : Hid ((rs ++ [((t.args[k], none, 0) : TR)]).map (fun x : TR => x.1) = t.args.take (k + 1)) := Lib.hid (by
        rw [List.map_append, HR.out, List.take_succ_eq_append_getElem hkl]; simp)
      have hk3 := hX.c3
      have hkf := hX.cf 3
      have hki : (0 : Int) ≤ (k : Int) := by omega
      have hk1 : (k : Int) < (L : Int) := by omega
      clear hs HA
      obtain ⟨a, HAE⟩ : ∃ a, Hid (a = t.args[k]) := ⟨_, Lib.hid rfl⟩
      rw [← HAE.out] at HC HR2 c0 c1 c2 c3 hX hD hk3 hkf
      go_wp2_with fail
      go_region_law (first
        | (go_simp; go_at_call 111; (with_reducible refine HC.out.mono ?_); rintro e w2 ⟨A2, c2', rfl, hC2, hS2⟩; have k3 := hC2.c3; have kf := hC2.cf 3; have hCa := hC2.call ((Below.refl _ _).alloc (Nat.le_refl _) (.cells #[.int .i64 a.kind, .int .i64 a.num, .string a.name, .slice A2 a.args.length c2'] 26)); have k5 := hCa.c3; have kf5 := hCa.cf 3)
        | go_must (have q1 : rs.length + 1 ≤ maxLen := by unfold maxLen; omega
                   have q2 : (rs.length + 1) * 56 ≤ 140737488355328 := by omega
                   have q3 : w.heap.size + 3 ≤ (w2.alloc (.cells #[.int .i64 a.kind, .int .i64 a.num, .string a.name, .slice A2 a.args.length c2'] 26)).heap.size := hCa.lt
                   have q4 : ∀ j u, (rowC (a, A2, c2'))[j]? = some u → (w2.alloc (.cells #[.int .i64 a.kind, .int .i64 a.num, .string a.name, .slice A2 a.args.length c2'] 26)).cell? ((⟨w2.heap.size, 0, none⟩ : Addr).add j) = some u := World.news_of_block (heap_alloc_new w2 _)
                   have q5 : (w2.alloc (.cells #[.int .i64 a.kind, .int .i64 a.num, .string a.name, .slice A2 a.args.length c2'] 26)).heap.size = w2.heap.size + 1 := by simp
                   refine step_append_lies _ (by rfl) _ _ 24 (by rfl) (w.heap.size + 3) 26 i _ 4 56 Tryz.underlying24 HI.out HZ0.out HZ1.out HZ2.out (by rfl) (by decide) v rs.length (rowsC rs) (by rfl) hCa.own.own ⟨w2.heap.size, 0, none⟩ 1 1 (rowC (a, A2, c2')) (by rfl) (by rfl) q4 (rowC_one _) (by decide) q1 q2 q3 (w2.heap.size + 1) q5 ?_; intro g2 cp2 w3 hown3 hg3 hat3 hlt3; clear q1 q2 q3 q4 q5; have k4 := (hCa.far hg3 (w.heap.size + 2) 3 (by omega)).1.trans hCa.c3; have kf4 := (hCa.far hg3 (w.heap.size + 2) 3 (by omega)).2.trans (hCa.cf 3))
        | fail)
      all_goals
        have HN := Lib.hid (hCa.app (a, A2, c2') (hS2.keep (fun b hb => heap_alloc_old w2 _ hb.2.1) fun b hb => ⟨hb.1, by simp; omega, hb.2.2⟩) hown3 hg3 (by
          rcases hat3 with h' | h'
          · exact .inl h'.symm
          · exact .inr (by rw [h']; simp [Value.ownBlock])))
        rw [hrl] at HN
        have HR3 : Hid ((rs ++ [((a, A2, c2') : TR)]).map (fun x : TR => x.1) = t.args.take (k + 1)) := Lib.hid (by rw [← HR2.out]; simp)
        clear k3 kf k4 kf4 k5 kf5 hC2 hS2 hCa hown3 hg3 hD hX hk3 hkf
        go_wp2_with fail
        go_roundw
        case rel => exact ⟨k + 1, _, rs ++ [(a, A2, c2')], by omega, by go_num, HN, HR3⟩
        case measure => simp [intOf] <;> omega
    · have hkL : k = L := by omega
      subst hkL
      obtain ⟨A2, c2, rfl, hN⟩ := HB.out.own.tms
      have hrl : rs.length = k := by
        have := congrArg List.length HR.out
        rw [List.length_map, List.length_take, ← HL.out] at this; omega
      have hra : rs.map (fun x : TR => x.1) = t.args := by rw [HR.out, HL.out, List.take_length]
      rw [hrl] at HB
      have k0 := HB.out.c0
      have k1 := HB.out.c1
      have k2 := HB.out.c2
      have k3 := HB.out.c3
      obtain ⟨v0, r0⟩ := HB.out.r0
      obtain ⟨v1, r1⟩ := HB.out.r1
      obtain ⟨v2, r2⟩ := HB.out.r2
      obtain ⟨v3, r3⟩ := HB.out.r3
      have f0 := HB.out.rf 0
      have f1 := HB.out.rf 1
      have f2 := HB.out.rf 2
      have f3 := HB.out.rf 3
      have HP := Lib.hid (HB.out.put (.int .i64 t.kind) (.int .i64 t.num) (.string t.name) (.slice A2 k c2))
      have HNA : Hid (NewT w ((((wr.setCell ⟨w.heap.size + 1, 0, none⟩ (.int .i64 t.kind)).setCell ⟨w.heap.size + 1, 1, none⟩ (.int .i64 t.num)).setCell ⟨w.heap.size + 1, 2, none⟩ (.string t.name)).setCell ⟨w.heap.size + 1, 3, none⟩ (.slice A2 k c2)) A2 t.args) := Lib.hid (by
        obtain ⟨A3, c3, he, h3⟩ := HP.out.2.tms
        rw [hra] at h3
        injection he with he _ _
        subst he
        exact h3.keep (fun _ _ => rfl) fun b hb => ⟨by have := hb.1; omega, hb.2⟩)
      clear hN hra hrl
      go_wp2_with fail
      exact bodyPost_ret (v := .agg #[.int .i64 t.kind, .int .i64 t.num, .string t.name, .slice A2 k c2]) (by simp [results, Tryz.results111, go_sem, r0, r1, r2, r3]) rfl ⟨A2, c2, rfl, HP.out.1, HNA.out⟩
end Go.Proofs.YtfkhcpeahdkafaaGreat
namespace Hb
open Go Go.RowKit
theorem validT_iff (t : Tm) : validT t = true ↔ t.nodes ≤ 2000 ∧ t.allOk = true := by unfold validT; rw [Bool.and_eq_true, decide_eq_true_iff]
theorem validT_arg {t : Tm} (h : validT t = true) (j : Nat) (hj : j < t.args.length) : validT t.args[j] = true := by
 rw [validT_iff] at *
 have h1 := t.nodes_arg j hj
 rw [Tm.arg_get t j hj] at h1
 have h2 := h.2
 rw [Tm.allOk_eq, Bool.and_eq_true, List.all_eq_true] at h2
 exact ⟨by omega, h2.2 _ (List.getElem_mem hj)⟩
def cloneT (t : Tm) : Tm := if validT t = true then t else tm0
theorem elems_len : ∀ f u, u.nodes ≤ f → (elemsF f u).length ≤ u.nodes := by
 intro f
 induction f with
 | zero => intro u h; have := u.nodes_pos; omega
 | succ f ih =>
  intro u h
  show (if u.cons = true then u.arg 0 :: elemsF f (u.arg 1) else []).length ≤ _
  split
  ·rename_i hc
   have h1 := u.nodes_arg 1 (by rw [Tm.cons_len hc]; decide)
   have := ih (u.arg 1) (by omega)
   rw [List.length_cons]; omega
  ·simp
theorem elemsT_len (t : Tm) : (elemsT t).length ≤ t.nodes := elems_len t.nodes t (Nat.le_refl _)
structure ElH (w0 w : World) (e : TypeId) (t : Tm) (A : Option Addr) (cap : Nat) (v : Value) (rs : List TR) : Prop where
 bel : Below w0.heap.size w0 w
 lt : w0.heap.size + 2 ≤ w.heap.size
 c0 : w.cell? ⟨w0.heap.size, 0, none⟩ = some (.int .i64 t.kind)
 c1 : w.cell? ⟨w0.heap.size, 1, none⟩ = some (.int .i64 t.num)
 c2 : w.cell? ⟨w0.heap.size, 2, none⟩ = some (.string t.name)
 c3 : w.cell? ⟨w0.heap.size, 3, none⟩ = some (.slice A t.args.length cap)
 cf : ∀ o, w.frozen? ⟨w0.heap.size, o, none⟩ = false
 r0 : ∃ u, w.cell? ⟨w0.heap.size + 1, 0, none⟩ = some u
 r1 : ∃ u, w.cell? ⟨w0.heap.size + 1, 1, none⟩ = some u
 r2 : ∃ u, w.cell? ⟨w0.heap.size + 1, 2, none⟩ = some u
 r3 : ∃ u, w.cell? ⟨w0.heap.size + 1, 3, none⟩ = some u
 rf : ∀ o, w.frozen? ⟨w0.heap.size + 1, o, none⟩ = false
 own : OwnR (w0.heap.size + 2) e w v rs
section
variable {w0 w w' : World} {e : TypeId} {t : Tm} {A : Option Addr} {cap : Nat} {v : Value} {rs : List TR}
theorem ElH.over (h : ElH w0 w e t A cap v rs) {v' : Value} {rs' : List TR} (hB : Below w0.heap.size w0 w') (hs : w.heap.size ≤ w'.heap.size) (hb : ∀ b o, b < w0.heap.size + 2 → w'.cell? ⟨b, o, none⟩ = w.cell? ⟨b, o, none⟩ ∧ w'.frozen? ⟨b, o, none⟩ = w.frozen? ⟨b, o, none⟩) (ho : OwnR (w0.heap.size + 2) e w' v' rs') : ElH w0 w' e t A cap v' rs' := by
 have hl := h.lt
 exact ⟨hB, Nat.le_trans hl hs, (hb _ _ (by omega)).1.trans h.c0, (hb _ _ (by omega)).1.trans h.c1, (hb _ _ (by omega)).1.trans h.c2, (hb _ _ (by omega)).1.trans h.c3, fun o => (hb _ _ (by omega)).2.trans (h.cf o),
  h.r0.imp fun _ k => (hb _ _ (by omega)).1.trans k, h.r1.imp fun _ k => (hb _ _ (by omega)).1.trans k, h.r2.imp fun _ k => (hb _ _ (by omega)).1.trans k, h.r3.imp fun _ k => (hb _ _ (by omega)).1.trans k, fun o => (hb _ _ (by omega)).2.trans (h.rf o), ho⟩
theorem ElH.call (h : ElH w0 w e t A cap v rs) (hB : Below w.heap.size w w') : ElH w0 w' e t A cap v rs := by
 have hl := h.lt
 exact h.over (h.bel.trans (hB.mono (by omega))) hB.size (fun b o hb => ⟨hB.cell (p := ⟨b, o, none⟩) (show b < _ by omega), hB.frozen (p := ⟨b, o, none⟩) (show b < _ by omega)⟩) (h.own.below hB)
theorem ElH.app (h : ElH w0 w e t A cap v rs) (r : TR) (hr : TmsK (fun b => w0.heap.size + 2 ≤ b ∧ b < w.heap.size ∧ v.ownBlock ≠ some b) w r.2.1 r.1.args) {v' : Value} {w2 : World}
  (hown : w2.ownsRow (w0.heap.size + 2) e 4 v' (rs.length + 1) (rowsC rs ++ rowC r)) (hg : w.grownBy w2 v.ownBlock) (hat : v'.ownBlock = v.ownBlock ∨ v'.ownBlock = some w.heap.size) : ElH w0 w2 e t A cap v' (rs ++ [r]) := by
 have hl := h.lt
 refine h.over (h.bel.grown hg (by omega) (fun k hk => by have := (h.own.own.lt k hk).1; omega)) hg.size (fun b o hb => ?_) (h.own.snoc r hr hown hg hat)
 have hne : some b ≠ v.ownBlock := fun e => by have := (h.own.own.lt b e.symm).1; omega
 exact ⟨hg.cell_far ⟨b, o, none⟩ (show b < _ by omega) hne, hg.frozen_far ⟨b, o, none⟩ (show b < _ by omega) hne⟩
theorem sc_ne (w : World) (g i j : Nat) (v : Value) (h : j ≠ i) : (w.setCell ⟨g, i, none⟩ v).cell? ⟨g, j, none⟩ = w.cell? ⟨g, j, none⟩ := World.cell?_setCell_other _ _ _ _ (fun e => h (by injection e with _ e2 _; first | exact e2 | exact e2.symm))
theorem put4_cells (w : World) (g : Nat) (x y z u : Value) {y0 y1 y2 y3 : Value} (h0 : w.cell? ⟨g, 0, none⟩ = some y0) (h1 : w.cell? ⟨g, 1, none⟩ = some y1) (h2 : w.cell? ⟨g, 2, none⟩ = some y2) (h3 : w.cell? ⟨g, 3, none⟩ = some y3) (W : World) (hW : W = (((w.setCell ⟨g, 0, none⟩ x).setCell ⟨g, 1, none⟩ y).setCell ⟨g, 2, none⟩ z).setCell ⟨g, 3, none⟩ u) :
  W.cell? ⟨g, 0, none⟩ = some x ∧ W.cell? ⟨g, 1, none⟩ = some y ∧ W.cell? ⟨g, 2, none⟩ = some z ∧ W.cell? ⟨g, 3, none⟩ = some u ∧ ∀ p, W.frozen? p = w.frozen? p := by
 obtain ⟨w1, e1⟩ : ∃ w1, w1 = w.setCell ⟨g, 0, none⟩ x := ⟨_, rfl⟩
 obtain ⟨w2, e2⟩ : ∃ w2, w2 = w1.setCell ⟨g, 1, none⟩ y := ⟨_, rfl⟩
 obtain ⟨w3, e3⟩ : ∃ w3, w3 = w2.setCell ⟨g, 2, none⟩ z := ⟨_, rfl⟩
 rw [← e1, ← e2, ← e3] at hW
 have a0 : w1.cell? ⟨g, 0, none⟩ = some x := by rw [e1]; exact World.cell?_setCell_same _ _ _ h0
 have a1 : w1.cell? ⟨g, 1, none⟩ = some y1 := by rw [e1, sc_ne _ _ _ _ _ (by decide)]; exact h1
 have a2 : w1.cell? ⟨g, 2, none⟩ = some y2 := by rw [e1, sc_ne _ _ _ _ _ (by decide)]; exact h2
 have a3 : w1.cell? ⟨g, 3, none⟩ = some y3 := by rw [e1, sc_ne _ _ _ _ _ (by decide)]; exact h3
 have b0 : w2.cell? ⟨g, 0, none⟩ = some x := by rw [e2, sc_ne _ _ _ _ _ (by decide)]; exact a0
 have b1 : w2.cell? ⟨g, 1, none⟩ = some y := by rw [e2]; exact World.cell?_setCell_same _ _ _ a1
 have b2 : w2.cell? ⟨g, 2, none⟩ = some y2 := by rw [e2, sc_ne _ _ _ _ _ (by decide)]; exact a2
 have b3 : w2.cell? ⟨g, 3, none⟩ = some y3 := by rw [e2, sc_ne _ _ _ _ _ (by decide)]; exact a3
 have c0 : w3.cell? ⟨g, 0, none⟩ = some x := by rw [e3, sc_ne _ _ _ _ _ (by decide)]; exact b0
 have c1 : w3.cell? ⟨g, 1, none⟩ = some y := by rw [e3, sc_ne _ _ _ _ _ (by decide)]; exact b1
 have c2 : w3.cell? ⟨g, 2, none⟩ = some z := by rw [e3]; exact World.cell?_setCell_same _ _ _ b2
 have c3 : w3.cell? ⟨g, 3, none⟩ = some y3 := by rw [e3, sc_ne _ _ _ _ _ (by decide)]; exact b3
 refine ⟨?_, ?_, ?_, ?_, fun p => by rw [hW, e3, e2, e1, World.frozen?_setCell, World.frozen?_setCell, World.frozen?_setCell, World.frozen?_setCell]⟩
 ·rw [hW, sc_ne _ _ _ _ _ (by decide)]; exact c0
 ·rw [hW, sc_ne _ _ _ _ _ (by decide)]; exact c1
 ·rw [hW, sc_ne _ _ _ _ _ (by decide)]; exact c2
 ·rw [hW]; exact World.cell?_setCell_same _ _ _ c3
theorem ElH.next (h : ElH w0 w e t A cap v rs) (u : Tm) (A' : Option Addr) (cap' : Nat) :
  ElH w0 ((((w.setCell ⟨w0.heap.size, 0, none⟩ (.int .i64 u.kind)).setCell ⟨w0.heap.size, 1, none⟩ (.int .i64 u.num)).setCell ⟨w0.heap.size, 2, none⟩ (.string u.name)).setCell ⟨w0.heap.size, 3, none⟩ (.slice A' u.args.length cap')) e u A' cap' v rs := by
 have hl := h.lt
 have hle : w0.heap.size ≤ w0.heap.size := Nat.le_refl _
 have hbel : Below w0.heap.size w0 ((((w.setCell ⟨w0.heap.size, 0, none⟩ (.int .i64 u.kind)).setCell ⟨w0.heap.size, 1, none⟩ (.int .i64 u.num)).setCell ⟨w0.heap.size, 2, none⟩ (.string u.name)).setCell ⟨w0.heap.size, 3, none⟩ (.slice A' u.args.length cap')) := ((((h.bel.setCell (p := ⟨_, _, none⟩) hle _).setCell (p := ⟨_, _, none⟩) hle _).setCell (p := ⟨_, _, none⟩) hle _).setCell (p := ⟨_, _, none⟩) hle _)
 have hc := put4_cells w w0.heap.size (.int .i64 u.kind) (.int .i64 u.num) (.string u.name) (.slice A' u.args.length cap') h.c0 h.c1 h.c2 h.c3 _ rfl
 have hbl := fun b hb => put4_block w w0.heap.size (.int .i64 u.kind) (.int .i64 u.num) (.string u.name) (.slice A' u.args.length cap') b hb
 have hsz := put4_size w w0.heap.size (.int .i64 u.kind) (.int .i64 u.num) (.string u.name) (.slice A' u.args.length cap')
 generalize (((w.setCell ⟨w0.heap.size, 0, none⟩ (.int .i64 u.kind)).setCell ⟨w0.heap.size, 1, none⟩ (.int .i64 u.num)).setCell ⟨w0.heap.size, 2, none⟩ (.string u.name)).setCell ⟨w0.heap.size, 3, none⟩ (.slice A' u.args.length cap') = W at *
 obtain ⟨q0, q1, q2, q3, qf⟩ := hc
 have far : ∀ o, W.cell? ⟨w0.heap.size + 1, o, none⟩ = w.cell? ⟨w0.heap.size + 1, o, none⟩ := fun o => World.cell?_of_block (hbl (w0.heap.size + 1) (by omega))
 exact ⟨hbel, by omega, q0, q1, q2, q3, fun o => (qf _).trans (h.cf o), h.r0.imp fun _ k => (far 0).trans k, h.r1.imp fun _ k => (far 1).trans k, h.r2.imp fun _ k => (far 2).trans k, h.r3.imp fun _ k => (far 3).trans k, fun o => (qf _).trans (h.rf o), h.own.keep (by omega) fun b hb _ => hbl b (by omega)⟩
end
theorem ElH.start (w : World) (t : Tm) (A : Option Addr) (cap LN : Nat) (e : TypeId) (hL : LN = t.args.length) :
  ElH w ((w.alloc (.cells #[.int .i64 t.kind, .int .i64 t.num, .string t.name, .slice A LN cap] e)).alloc (.cells #[.int .i64 0, .int .i64 0, .string ⟨#[]⟩, .slice none 0 0] e)) e t A cap (.slice none 0 0) [] := by
 obtain ⟨W1, hW1⟩ : ∃ W1, W1 = w.alloc (.cells #[.int .i64 t.kind, .int .i64 t.num, .string t.name, .slice A LN cap] e) := ⟨_, rfl⟩
 rw [← hW1]
 have s1 : W1.heap.size = w.heap.size + 1 := by rw [hW1]; simp
 have hB1 : Below w.heap.size w W1 := by rw [hW1]; exact (Below.refl _ _).alloc (Nat.le_refl _) _
 have hB2 : Below W1.heap.size W1 (W1.alloc (.cells #[.int .i64 0, .int .i64 0, .string ⟨#[]⟩, .slice none 0 0] e)) := (Below.refl _ _).alloc (Nat.le_refl _) _
 have a : ∀ j, W1.cell? ⟨w.heap.size, j, none⟩ = (#[.int .i64 t.kind, .int .i64 t.num, .string t.name, .slice A t.args.length cap] : Array Value)[j]? := fun j => by rw [hW1, ← hL]; exact World.cell?_alloc_new _ _ _ j
 have af : ∀ o, W1.frozen? ⟨w.heap.size, o, none⟩ = false := fun o => by rw [hW1]; exact World.frozen?_alloc_at (w := w) _ _ w.heap.size o rfl
 have k1 : ∀ o, (W1.alloc (.cells #[.int .i64 0, .int .i64 0, .string ⟨#[]⟩, .slice none 0 0] e)).cell? ⟨w.heap.size, o, none⟩ = W1.cell? ⟨w.heap.size, o, none⟩ := fun o => hB2.cell (p := ⟨w.heap.size, o, none⟩) (show w.heap.size < W1.heap.size by omega)
 have r : ∀ j, (W1.alloc (.cells #[.int .i64 0, .int .i64 0, .string ⟨#[]⟩, .slice none 0 0] e)).cell? ⟨w.heap.size + 1, j, none⟩ = (#[.int .i64 0, .int .i64 0, .string ⟨#[]⟩, .slice none 0 0] : Array Value)[j]? := fun j => by
  have := World.cell?_alloc_new W1 #[.int .i64 0, .int .i64 0, .string ⟨#[]⟩, .slice none 0 0] e j
  rw [s1] at this; exact this
 exact ⟨hB1.trans (hB2.mono (by omega)), by simp; omega, (k1 0).trans (a 0), (k1 1).trans (a 1), (k1 2).trans (a 2), (k1 3).trans (a 3), fun o => (hB2.frozen (p := ⟨w.heap.size, o, none⟩) (show w.heap.size < W1.heap.size by omega)).trans (af o), ⟨_, r 0⟩, ⟨_, r 1⟩, ⟨_, r 2⟩, ⟨_, r 3⟩, fun o => World.frozen?_alloc_at (w := W1) _ _ (w.heap.size + 1) o s1.symm, OwnR.nul _ _ _⟩
theorem ElH.put {w0 w : World} {e : TypeId} {t : Tm} {A : Option Addr} {cap : Nat} {v : Value} {rs : List TR} (h : ElH w0 w e t A cap v rs) (x0 x1 x2 x3 : Value) :
  Below w0.heap.size w0 ((((w.setCell ⟨w0.heap.size + 1, 0, none⟩ x0).setCell ⟨w0.heap.size + 1, 1, none⟩ x1).setCell ⟨w0.heap.size + 1, 2, none⟩ x2).setCell ⟨w0.heap.size + 1, 3, none⟩ x3) ∧
  OwnR (w0.heap.size + 2) e ((((w.setCell ⟨w0.heap.size + 1, 0, none⟩ x0).setCell ⟨w0.heap.size + 1, 1, none⟩ x1).setCell ⟨w0.heap.size + 1, 2, none⟩ x2).setCell ⟨w0.heap.size + 1, 3, none⟩ x3) v rs := by
 have hle : w0.heap.size ≤ w0.heap.size + 1 := by omega
 exact ⟨((((h.bel.setCell (p := ⟨_, _, none⟩) hle _).setCell (p := ⟨_, _, none⟩) hle _).setCell (p := ⟨_, _, none⟩) hle _).setCell (p := ⟨_, _, none⟩) hle _), h.own.keep (by simp) fun b hb _ => put4_block w (w0.heap.size + 1) _ _ _ _ b (by omega)⟩
def lenV : Value → Nat | .slice _ n _ => n | _ => 0
theorem lenV_own {w : World} {b e s n : Nat} {v : Value} {xs : List Value} (h : w.ownsRow b e s v n xs) : lenV v = n := by
 rcases h.2 with ⟨rfl, rfl⟩ | ⟨g, cap, cur, rfl, _⟩ <;> rfl
end Hb
namespace Go.Proofs.YtfkhcpeahdkafaaGreat
open Go.RowKit Hb
set_option maxRecDepth 100000
set_option maxHeartbeats 1600000 in
theorem t_clone (t : Tm) (A : Option Addr) (cap : Nat) (w : World) (hT : TmsAt w.heap.size w A t.args) :
  Calls Tryz.prog 137 #[tmV t A cap] w fun e w' => ∃ A' cap', e = .returned (tmV (cloneT t) A' cap') ∧ Below w.heap.size w w' ∧ NewT w w' A' (cloneT t).args := by
 have hX0 := R4.start (w0 := w) (w := w.alloc (.cells #[.int .i64 t.kind, .int .i64 t.num, .string t.name, .slice A t.args.length cap] 26)) ((Below.refl _ _).alloc (Nat.le_refl _) _) (.int .i64 0) (.int .i64 0) (.string ⟨#[]⟩) (.slice none 0 0) 26
 have hs : (w.alloc (.cells #[.int .i64 t.kind, .int .i64 t.num, .string t.name, .slice A t.args.length cap] 26)).heap.size = w.heap.size + 1 := by simp
 rw [hs] at hX0
 have HX := Lib.hid hX0
 have HB0 : Hid (TBoxT w ((w.alloc (.cells #[.int .i64 t.kind, .int .i64 t.num, .string t.name, .slice A t.args.length cap] 26)).alloc (.cells #[.int .i64 0, .int .i64 0, .string ⟨#[]⟩, .slice none 0 0] 26)) t A cap) :=
  Lib.hid ((TBoxT.start w t A cap 26).call ((Below.refl _ _).alloc (Nat.le_refl _) _))
 have HCEL := Lib.hid (fun (W : World) (h : TBoxT w W t A cap) => (⟨h.c0, h.c1, h.c2, h.c3⟩ : _ ∧ _ ∧ _ ∧ _))
 have HV := Lib.hid (fun (W : World) (h : R4 w W (w.heap.size + 1)) => t_valid t A cap W ((hT.keep h.bel).mono h.bel.size))
 have HAP := Lib.hid (fun (W : World) (h : R4 w W (w.heap.size + 1)) (ho : t.allOk = true) => t_apply t A cap W ((hT.keep h.bel).mono h.bel.size) ho)
 clear hT hX0 hs
 unfold tmV cloneF at *
 cases hv : validT t
 ·have HE := Lib.hid (show cloneT t = tm0 by unfold cloneT; rw [hv]; rfl)
  rw [hv] at HV
  clear hv
  rw [HE.out]
  generalize t.kind = a0 at *
  generalize t.num = a1 at *
  generalize t.name = a2 at *
  generalize t.args.length = a3 at *
  go_enter Tryz.func137, Tryz.ntmps137
  go_wp2_with fail
  refine (HV.out _ HX.out).mono ?_; rintro e w1 ⟨rfl, hB1⟩
  have hX1 := HX.out.call hB1
  obtain ⟨v0, r0⟩ := hX1.r0
  obtain ⟨v1, r1⟩ := hX1.r1
  obtain ⟨v2, r2⟩ := hX1.r2
  obtain ⟨v3, r3⟩ := hX1.r3
  have f0 := hX1.fr 0
  have f1 := hX1.fr 1
  have f2 := hX1.fr 2
  have f3 := hX1.fr 3
  have hput := hX1.put (.int .i64 0) (.int .i64 0) (.string ⟨#[]⟩) (.slice none 0 0)
  go_wp2_with fail
  exact bodyPost_ret (v := .agg #[.int .i64 0, .int .i64 0, .string ⟨#[]⟩, .slice none 0 0]) (by simp [results, Tryz.results137, go_sem, r0, r1, r2, r3]) rfl ⟨none, 0, rfl, hput, TmsK.nil⟩
 ·have hok := ((validT_iff t).1 hv).2
  have HE := Lib.hid (show cloneT t = t by unfold cloneT; rw [hv]; rfl)
  rw [hv] at HV
  clear hv
  rw [HE.out]
  have HAP2 := Lib.hid (fun W h => HAP.out W h hok)
  clear HAP hok
  generalize t.kind = a0 at *
  generalize t.num = a1 at *
  generalize t.name = a2 at *
  generalize t.args.length = a3 at *
  go_enter Tryz.func137, Tryz.ntmps137
  go_wp2_with fail
  refine (HV.out _ HX.out).mono ?_; rintro e w1 ⟨rfl, hB1⟩
  have hX1 := HX.out.call hB1
  have hT1 := HB0.out.call hB1
  obtain ⟨c0, c1, c2, c3⟩ := HCEL.out _ hT1
  go_wp2_with fail
  refine (HAP2.out _ hX1).mono ?_; rintro e w2 ⟨A2, n2, rfl, hB2, hN⟩
  have hX2 := hX1.call hB2
  have hNN := Lib.hid hN
  obtain ⟨v0, r0⟩ := hX2.r0
  obtain ⟨v1, r1⟩ := hX2.r1
  obtain ⟨v2, r2⟩ := hX2.r2
  obtain ⟨v3, r3⟩ := hX2.r3
  have f0 := hX2.fr 0
  have f1 := hX2.fr 1
  have f2 := hX2.fr 2
  have f3 := hX2.fr 3
  have HP := Lib.hid (hX2.put (.int .i64 a0) (.int .i64 a1) (.string a2) (.slice A2 a3 n2))
  have HNA : Hid (NewT w ((((w2.setCell ⟨w.heap.size + 1, 0, none⟩ (.int .i64 a0)).setCell ⟨w.heap.size + 1, 1, none⟩ (.int .i64 a1)).setCell ⟨w.heap.size + 1, 2, none⟩ (.string a2)).setCell ⟨w.heap.size + 1, 3, none⟩ (.slice A2 a3 n2)) A2 t.args) :=
   Lib.hid (TmsK.keep hN (fun b hb => put4_block w2 (w.heap.size + 1) _ _ _ _ b (by have := hX1.lt; omega)) (fun b hb => ⟨by have := hX1.lt; omega, by rw [put4_size]; exact hb.2⟩))
  clear hN c0 c1 c2 c3
  go_wp2_with fail
  exact bodyPost_ret (v := .agg #[.int .i64 a0, .int .i64 a1, .string a2, .slice A2 a3 n2]) (by simp [results, Tryz.results137, go_sem, r0, r1, r2, r3]) rfl ⟨A2, n2, rfl, HP.out, HNA.out⟩
end Go.Proofs.YtfkhcpeahdkafaaGreat
namespace Go.Proofs.YtfkhcpeahdkafaaGreat
open Go.RowKit Hb
set_option maxRecDepth 100000
set_option maxHeartbeats 6400000 in
theorem t_elems (t : Tm) (A : Option Addr) (cap : Nat) (w : World) (hT : TmsAt w.heap.size w A t.args) (hv : validT t = true) :
  Calls Tryz.prog 184 #[tmV t A cap] w fun e w' => ∃ A1 c1 A2 c2, e = .returned (.tuple #[.slice A1 (elemsT t).length c1, tmV (tailT t) A2 c2]) ∧ Below w.heap.size w w' ∧ NewT w w' A1 (elemsT t) ∧ NewT w w' A2 (tailT t).args := by
 obtain ⟨i, hi, hz0, hz1, hz2⟩ := info_parts infoTm
 have HI := Lib.hid hi
 have HZ0 := Lib.hid hz0
 have HZ1 := Lib.hid hz1
 have HZ2 := Lib.hid hz2
 clear hi hz0 hz1 hz2
 have HT := Lib.hid hT
 have HV0 := Lib.hid hv
 have hsz : t.nodes ≤ 2000 := ((validT_iff t).1 hv).1
 have HEL := Lib.hid (elemsT_len t)
 obtain ⟨L, HL⟩ : ∃ L, Hid (L = t.args.length) := ⟨_, Lib.hid rfl⟩
 have HST := Lib.hid (ElH.start w t A cap L 26 HL.out)
 have HVV : Hid (∀ (W : World), ElH w W 26 t A cap (.slice none 0 0) [] → Calls Tryz.prog 53 #[.agg #[.int .i64 t.kind, .int .i64 t.num, .string t.name, .slice A L cap]] W fun e w' => e = .returned (.bool true) ∧ ElH w w' 26 t A cap (.slice none 0 0) []) := Lib.hid (fun W h => by
  have := t_valid t A cap W ((hT.keep h.bel).mono h.bel.size)
  unfold tmV at this
  rw [hv, ← HL.out] at this
  exact this.mono fun _ _ hh => ⟨hh.1, h.call hh.2⟩)
 clear hT hv
 unfold tmV
 rw [← HL.out]
 go_enter Tryz.func184, Tryz.ntmps184
 go_wp2_with fail
 refine (HVV.out _ HST.out).mono ?_; rintro e w1 ⟨rfl, hX1⟩
 have HX1 := Lib.hid hX1
 clear hX1
 go_wp2_with fail
 go_loopw [4] (fun v wr => ∃ (u : Tm) (A1 : Option Addr) (c1 : Nat) (rs : List TR), Hid (ElH w wr 26 u A1 c1 v rs) ∧ Hid (TmsAt w.heap.size w A1 u.args) ∧ Hid (validT u = true) ∧ Hid (elemsT t = rs.map (fun x : TR => x.1) ++ elemsT u) ∧ Hid (tailT t = tailT u)) (fun v _ => 2001 - lenV v)
 case atStart => exact ⟨t, A, cap, [], HX1, HT, HV0, Lib.hid rfl, Lib.hid rfl⟩
 case round =>
  obtain ⟨u, A1, n1, rs, HB, HU, HV, HE, HTL⟩ := hrel
  obtain ⟨v, hvv⟩ : ∃ v, v = u4 := ⟨_, rfl⟩
  subst hvv
  have b0 := HB.out.c0
  have b1 := HB.out.c1
  have b2 := HB.out.c2
  have b3 := HB.out.c3
  have hlen : rs.length + (elemsT u).length ≤ 2000 := by
   have h1 := congrArg List.length HE.out
   rw [List.length_append, List.length_map] at h1
   have h2 := HEL.out
   omega
  have HCL : Hid (∀ W, ElH w W 26 u A1 n1 v rs → Calls Tryz.prog 137 #[.agg #[.int .i64 u.kind, .int .i64 u.num, .string u.name, .slice A1 u.args.length n1]] W fun e w' => ∃ A' cap', e = .returned (.agg #[.int .i64 u.kind, .int .i64 u.num, .string u.name, .slice A' u.args.length cap']) ∧ ElH w w' 26 u A1 n1 v rs ∧ NewT W w' A' u.args ∧ W.heap.size ≤ w'.heap.size) := Lib.hid (fun W h => by
   have := t_clone u A1 n1 W ((HU.out.keep h.bel).mono h.bel.size)
   rw [show cloneT u = u by unfold cloneT; rw [HV.out]; rfl] at this
   exact this.mono fun _ _ ⟨A', c', he, hB, hN⟩ => ⟨A', c', he, h.call hB, hN, hB.size⟩)
  cases hc : u.cons
  ·have HE2 : Hid (elemsT t = rs.map (fun x : TR => x.1)) := Lib.hid (by rw [HE.out, elemsT_end hc, List.append_nil])
   have HT2 : Hid (tailT t = u) := Lib.hid (by rw [HTL.out, tailT_end hc])
   have hnc : (u.kind == 3 && (u.name.toList == [46] && u.args.length == 2)) = false := hc
   have HCL2 := Lib.hid (HCL.out wr HB.out)
   have hfin : ∀ (W : World) (A2 : Option Addr) (n2 : Nat), ElH w W 26 u A1 n1 v rs → NewT wr W A2 u.args → wr.heap.size ≤ W.heap.size →
     ∃ A3 c3, v = .slice A3 (elemsT t).length c3 ∧ Below w.heap.size w ((((W.setCell ⟨w.heap.size + 1, 0, none⟩ (.int .i64 u.kind)).setCell ⟨w.heap.size + 1, 1, none⟩ (.int .i64 u.num)).setCell ⟨w.heap.size + 1, 2, none⟩ (.string u.name)).setCell ⟨w.heap.size + 1, 3, none⟩ (.slice A2 u.args.length n2)) ∧
      NewT w ((((W.setCell ⟨w.heap.size + 1, 0, none⟩ (.int .i64 u.kind)).setCell ⟨w.heap.size + 1, 1, none⟩ (.int .i64 u.num)).setCell ⟨w.heap.size + 1, 2, none⟩ (.string u.name)).setCell ⟨w.heap.size + 1, 3, none⟩ (.slice A2 u.args.length n2)) A3 (elemsT t) ∧
      NewT w ((((W.setCell ⟨w.heap.size + 1, 0, none⟩ (.int .i64 u.kind)).setCell ⟨w.heap.size + 1, 1, none⟩ (.int .i64 u.num)).setCell ⟨w.heap.size + 1, 2, none⟩ (.string u.name)).setCell ⟨w.heap.size + 1, 3, none⟩ (.slice A2 u.args.length n2)) A2 u.args := by
    intro W A2 n2 h hN hle
    obtain ⟨hB, hO⟩ := h.put (.int .i64 u.kind) (.int .i64 u.num) (.string u.name) (.slice A2 u.args.length n2)
    have hlt := HB.out.lt
    obtain ⟨A3, c3, he, h3⟩ := hO.tms
    rw [HE2.out]
    refine ⟨A3, c3, by rw [List.length_map]; exact he, hB, h3.keep (fun _ _ => rfl) (fun b hb => ⟨by have := hb.1; omega, hb.2⟩), TmsK.keep hN (fun b hb => put4_block W (w.heap.size + 1) _ _ _ _ b (by omega)) (fun b hb => ⟨by omega, by rw [put4_size]; exact hb.2⟩)⟩
   have HF := Lib.hid hfin
   obtain ⟨en, HEN⟩ : ∃ en, Hid (en = (elemsT t).length) := ⟨_, Lib.hid rfl⟩
   rw [← HEN.out] at HF
   have HRES : Hid (∀ (A3 : Option Addr) (c3 : Nat) (A2 : Option Addr) (n2 : Nat) (W : World), NewT w W A2 u.args → Ending.returned (.tuple #[.slice A3 en c3, .agg #[.int .i64 u.kind, .int .i64 u.num, .string u.name, .slice A2 u.args.length n2]]) = Ending.returned (.tuple #[.slice A3 (elemsT t).length c3, .agg #[.int .i64 (tailT t).kind, .int .i64 (tailT t).num, .string (tailT t).name, .slice A2 (tailT t).args.length n2]]) ∧ NewT w W A2 (tailT t).args) :=
    Lib.hid (fun A3 c3 A2 n2 W h => by rw [HT2.out, HEN.out]; exact ⟨rfl, h⟩)
   clear hfin HCL HE HTL HU HV hc HE2 HT2 HEN
   generalize u.kind = a0 at *
   generalize u.num = a1 at *
   generalize u.name = a2 at *
   generalize u.args.length = a3 at *
   by_cases hk3 : a0 = 3
   ·subst hk3
    have hnc2 : (a2.toList == [46] && a3 == 2) = false := by simpa using hnc
    cases hn : (a2.toList == [46])
    ·have hn2 : ¬ a2.toList = [46] := by simpa using hn
     clear hnc hnc2
     go_wp2_with fail
     refine HCL2.out.mono ?_; rintro e w2 ⟨A2, n2, rfl, hX2, hN, hle⟩
     obtain ⟨v0, r0⟩ := hX2.r0
     obtain ⟨v1, r1⟩ := hX2.r1
     obtain ⟨v2, r2⟩ := hX2.r2
     obtain ⟨v3, r3⟩ := hX2.r3
     have f0 := hX2.rf 0
     have f1 := hX2.rf 1
     have f2 := hX2.rf 2
     have f3 := hX2.rf 3
     obtain ⟨A3, c3, rfl, hB, hN1, hN2⟩ := HF.out w2 A2 n2 hX2 hN hle
     clear hX2 hN hle HF
     go_wp2_with fail
     obtain ⟨he, hn2⟩ := HRES.out A3 c3 A2 n2 _ hN2
     exact bodyPost_ret (v := .tuple #[.slice A3 en c3, .agg #[.int .i64 3, .int .i64 a1, .string a2, .slice A2 a3 n2]]) (by simp [results, Tryz.results184, go_sem, r0, r1, r2, r3]) rfl ⟨A3, c3, A2, n2, he, hB, hN1, hn2⟩
    ·have hn2 : a2.toList = [46] := by simpa using hn
     have hl2 : (a3 == 2) = false := by rw [hn, Bool.true_and] at hnc2; exact hnc2
     have hl3 : ¬ a3 = 2 := by simpa using hl2
     clear hnc hnc2
     go_wp2_with fail
     refine HCL2.out.mono ?_; rintro e w2 ⟨A2, n2, rfl, hX2, hN, hle⟩
     obtain ⟨v0, r0⟩ := hX2.r0
     obtain ⟨v1, r1⟩ := hX2.r1
     obtain ⟨v2, r2⟩ := hX2.r2
     obtain ⟨v3, r3⟩ := hX2.r3
     have f0 := hX2.rf 0
     have f1 := hX2.rf 1
     have f2 := hX2.rf 2
     have f3 := hX2.rf 3
     obtain ⟨A3, c3, rfl, hB, hN1, hN2⟩ := HF.out w2 A2 n2 hX2 hN hle
     clear hX2 hN hle HF
     go_wp2_with fail
     obtain ⟨he, hn2⟩ := HRES.out A3 c3 A2 n2 _ hN2
     exact bodyPost_ret (v := .tuple #[.slice A3 en c3, .agg #[.int .i64 3, .int .i64 a1, .string a2, .slice A2 a3 n2]]) (by simp [results, Tryz.results184, go_sem, r0, r1, r2, r3]) rfl ⟨A3, c3, A2, n2, he, hB, hN1, hn2⟩
   ·have hk4 : (a0 == 3) = false := by simpa using hk3
    clear hnc
    go_wp2_with fail
    refine HCL2.out.mono ?_; rintro e w2 ⟨A2, n2, rfl, hX2, hN, hle⟩
    obtain ⟨v0, r0⟩ := hX2.r0
    obtain ⟨v1, r1⟩ := hX2.r1
    obtain ⟨v2, r2⟩ := hX2.r2
    obtain ⟨v3, r3⟩ := hX2.r3
    have f0 := hX2.rf 0
    have f1 := hX2.rf 1
    have f2 := hX2.rf 2
    have f3 := hX2.rf 3
    obtain ⟨A3, c3, rfl, hB, hN1, hN2⟩ := HF.out w2 A2 n2 hX2 hN hle
    clear hX2 hN hle HF
    go_wp2_with fail
    obtain ⟨he, hn2⟩ := HRES.out A3 c3 A2 n2 _ hN2
    exact bodyPost_ret (v := .tuple #[.slice A3 en c3, .agg #[.int .i64 a0, .int .i64 a1, .string a2, .slice A2 a3 n2]]) (by simp [results, Tryz.results184, go_sem, r0, r1, r2, r3]) rfl ⟨A3, c3, A2, n2, he, hB, hN1, hn2⟩
  ·have hcl := Tm.cons_len hc
   have hk : u.kind = 3 := by unfold Tm.cons at hc; simp at hc; exact hc.1
   have hnm : u.name.toList = [46] := by unfold Tm.cons Tm.isNm at hc; simp at hc; exact hc.2.1
   obtain ⟨b, off, A3, n3, rfl, hb, x0, x1, x2, x3, hs0⟩ := (HU.out.keep HB.out.bel).get 0 (by omega)
   obtain ⟨b', off', A4, n4, hA, hb', y0, y1, y2, y3, hs1⟩ := HU.out.get 1 (by omega)
   obtain ⟨rfl, rfl⟩ : b = b' ∧ off = off' := by injection hA with hA; injection hA with h1 h2 _; exact ⟨h1, h2⟩
   clear hA hb'
   have HVA := Lib.hid (validT_arg HV.out 0 (by omega))
   have HVC := Lib.hid (validT_arg HV.out 1 (by omega))
   have HE3 : Hid (∀ A2 c2, elemsT t = (rs ++ [((u.args[0], A2, c2) : TR)]).map (fun x : TR => x.1) ++ elemsT u.args[1]) := Lib.hid (fun A2 c2 => by
    rw [HE.out, elemsT_cons hc, Tm.arg_get u 0 (by omega), Tm.arg_get u 1 (by omega)]; simp)
   have HT3 : Hid (tailT t = tailT u.args[1]) := Lib.hid (by rw [HTL.out, tailT_cons hc, Tm.arg_get u 1 (by omega)])
   have hrl : rs.length ≤ 2000 := by omega
   have HLV := Lib.hid (lenV_own HB.out.own.own)
   have HNX := Lib.hid (fun (W : World) (v' : Value) (rs' : List TR) (h : ElH w W 26 u (some ⟨b, off, none⟩) n1 v' rs') => h.next u.args[1] A4 n4)
   have HCA : Hid (Calls Tryz.prog 137 #[.agg #[.int .i64 u.args[0].kind, .int .i64 u.args[0].num, .string u.args[0].name, .slice A3 u.args[0].args.length n3]] wr fun e w' => ∃ A' cap', e = .returned (.agg #[.int .i64 u.args[0].kind, .int .i64 u.args[0].num, .string u.args[0].name, .slice A' u.args[0].args.length cap']) ∧ ElH w w' 26 u (some ⟨b, off, none⟩) n1 v rs ∧ TmsK (fun b => w.heap.size + 2 ≤ b ∧ b < w'.heap.size ∧ v.ownBlock ≠ some b) w' A' u.args[0].args) := Lib.hid (by
    have := t_clone u.args[0] A3 n3 wr (hs0.mono HB.out.bel.size)
    rw [show cloneT u.args[0] = u.args[0] by unfold cloneT; rw [HVA.out]; rfl] at this
    refine this.mono fun _ w' ⟨A', c', he, hB, hN⟩ => ⟨A', c', he, HB.out.call hB, TmsK.keep hN (fun _ _ => rfl) fun b hb => ⟨Nat.le_trans HB.out.lt hb.1, hb.2, fun ee => ?_⟩⟩
    have := (HB.out.own.own.lt b ee).2
    have h1 := hb.1
    omega)
   have HY : Hid (∀ W, Below w.heap.size w W → W.cell? ⟨b, off + 4, none⟩ = some (.int .i64 u.args[1].kind) ∧ W.cell? ⟨b, off + 4 + 1, none⟩ = some (.int .i64 u.args[1].num) ∧ W.cell? ⟨b, off + 4 + 2, none⟩ = some (.string u.args[1].name) ∧ W.cell? ⟨b, off + 4 + 3, none⟩ = some (.slice A4 u.args[1].args.length n4)) := Lib.hid (fun W hB => by
    rw [Nat.one_mul] at y0 y1 y2 y3
    exact ⟨(hB.cell (p := ⟨b, _, none⟩) hb).trans y0, (hB.cell (p := ⟨b, _, none⟩) hb).trans y1, (hB.cell (p := ⟨b, _, none⟩) hb).trans y2, (hB.cell (p := ⟨b, _, none⟩) hb).trans y3⟩)
   rw [Nat.zero_mul, Nat.add_zero] at x0 x1 x2 x3
   rw [hk] at b0
   rw [hcl] at b3
   have HS1 := Lib.hid hs1
   clear y0 y1 y2 y3 hs0 hs1 HCL HE HTL HV hc HVA HT HST HVV
   obtain ⟨a, HAE⟩ : ∃ a, Hid (a = u.args[0]) := ⟨_, Lib.hid rfl⟩
   obtain ⟨c, HCE⟩ : ∃ c, Hid (c = u.args[1]) := ⟨_, Lib.hid rfl⟩
   rw [← HAE.out] at HCA x0 x1 x2 x3 HE3
   rw [← HCE.out] at HY HNX HE3 HT3 HVC HS1
   go_wp2_with fail
   refine HCA.out.mono ?_; rintro e w2 ⟨A2, c2, rfl, hX2, hS2⟩
   have hXa := hX2.call ((Below.refl _ _).alloc (Nat.le_refl _) (.cells #[.int .i64 a.kind, .int .i64 a.num, .string a.name, .slice A2 a.args.length c2] 26))
   have hSa : TmsK (fun b => w.heap.size + 2 ≤ b ∧ b < (w2.alloc (.cells #[.int .i64 a.kind, .int .i64 a.num, .string a.name, .slice A2 a.args.length c2] 26)).heap.size ∧ v.ownBlock ≠ some b) (w2.alloc (.cells #[.int .i64 a.kind, .int .i64 a.num, .string a.name, .slice A2 a.args.length c2] 26)) A2 a.args :=
    hS2.keep (fun b hb => heap_alloc_old w2 _ hb.2.1) fun b hb => ⟨hb.1, by simp; omega, hb.2.2⟩
   have q1 : rs.length + 1 ≤ maxLen := by unfold maxLen; omega
   have q2 : (rs.length + 1) * 56 ≤ 140737488355328 := by omega
   have q3 := hXa.lt
   have q4 : ∀ j u, (rowC (a, A2, c2))[j]? = some u → (w2.alloc (.cells #[.int .i64 a.kind, .int .i64 a.num, .string a.name, .slice A2 a.args.length c2] 26)).cell? ((⟨w2.heap.size, 0, none⟩ : Addr).add j) = some u := World.news_of_block (heap_alloc_new w2 _)
   have HSA := Lib.hid hSa
   have HXA := Lib.hid hXa
   clear hSa hXa hX2 hS2
   go_wp2_with ((with_reducible refine at_appTT ?_); go_must (refine wpList_append_own_at _ rfl _ _ 24 rfl (w.heap.size + 2) 26 i _ 4 56 Tryz.underlying24 HI.out HZ0.out HZ1.out HZ2.out rfl (by decide) v rs.length (rowsC rs) rfl HXA.out.own.own ⟨w2.heap.size, 0, none⟩ 1 1 (rowC (a, A2, c2)) rfl rfl q4 (rowC_one _) q1 q2 q3 ?_; intro v' w3 hown3 hg3 hnil3 hat3; have hY3 := HXA.out.app (a, A2, c2) HSA.out hown3 hg3 hat3; obtain ⟨z0, z1, z2, z3⟩ := HY.out w3 hY3.bel; have t0 := hY3.c0; have t1 := hY3.c1; have t2 := hY3.c2; have t3 := hY3.c3; have e0 := hY3.cf 0; have e1 := hY3.cf 1; have e2 := hY3.cf 2; have e3 := hY3.cf 3))
   have HZ := Lib.hid (HNX.out w3 v' _ hY3)
   have HL3 := Lib.hid (lenV_own hown3)
   go_roundw
   case rel => exact ⟨c, A4, n4, rs ++ [(a, A2, c2)], HZ, HS1, HVC, Lib.hid (HE3.out A2 c2), HT3⟩
   case measure => rw [HL3.out, HLV.out]; omega
end Go.Proofs.YtfkhcpeahdkafaaGreat
