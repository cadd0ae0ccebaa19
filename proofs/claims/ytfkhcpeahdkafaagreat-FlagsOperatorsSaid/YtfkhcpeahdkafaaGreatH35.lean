/- Flags: current_char_conversion. -/
import Derived.Test.YtfkhcpeahdkafaaGreatH26
import Derived.Test.YtfkhcpeahdkafaaGreatH22
namespace Hb
open Go Go.RowKit
structure LcI (w W : World) (bx : List (Nat × List Value)) (x : Tm) (ag : List Tm) (X : World) (xA : Option Addr) (xc g1 g2 : Nat) (s3 s4 s5 : Bool) : Prop where
 bel : Below w.heap.size w X
 siz : W.heap.size ≤ X.heap.size
 bks : Bks X bx
 row : s3 = true → s4 = false → TmsK (fun b => (b < w.heap.size ∨ W.heap.size ≤ b) ∧ b < X.heap.size) X (some ⟨g1, 0, none⟩) ag
 str : s4 = true → s5 = false → TmsK (fun b => W.heap.size ≤ b ∧ b < X.heap.size) X xA x.args
 one : s5 = true → TmsK (fun b => W.heap.size ≤ b ∧ b < X.heap.size) X (some ⟨g2, 0, none⟩) [x]
theorem LcI.call {w W : World} {bx : List (Nat × List Value)} {x : Tm} {ag : List Tm} {X X' : World} {xA : Option Addr} {xc g1 g2 : Nat} {s3 s4 s5 : Bool} (h : LcI w W bx x ag X xA xc g1 g2 s3 s4 s5) (hB : Below X.heap.size X X') : LcI w W bx x ag X' xA xc g1 g2 s3 s4 s5 :=
 ⟨h.bel.trans (hB.mono h.bel.size), Nat.le_trans h.siz hB.size, h.bks.call hB, fun s t => (h.row s t).keep (fun b hb => hB.block b hb.2) (fun _ hb => ⟨hb.1, Nat.lt_of_lt_of_le hb.2 hB.size⟩), fun s t => (h.str s t).keep (fun b hb => hB.block b hb.2) (fun _ hb => ⟨hb.1, Nat.lt_of_lt_of_le hb.2 hB.size⟩), fun s => (h.one s).keep (fun b hb => hB.block b hb.2) (fun _ hb => ⟨hb.1, Nat.lt_of_lt_of_le hb.2 hB.size⟩)⟩
theorem LcI.put {w W : World} {bx bx' : List (Nat × List Value)} {x : Tm} {ag : List Tm} {X X' : World} {xA : Option Addr} {xc g1 g2 : Nat} {s3 s4 s5 : Bool} (h : LcI w W bx x ag X xA xc g1 g2 s3 s4 s5) (g : Nat) (hg0 : w.heap.size ≤ g) (hg1 : g < W.heap.size) (hs : X'.heap.size = X.heap.size) (hk : ∀ b, b ≠ g → X'.heap[b]? = X.heap[b]?) (hb : Below w.heap.size w X') (hx : Bks X' bx') : LcI w W bx' x ag X' xA xc g1 g2 s3 s4 s5 :=
 ⟨hb, by rw [hs]; exact h.siz, hx, fun s t => (h.row s t).keep (fun b hb => hk b (by have := hb.1; omega)) (fun _ hb => ⟨hb.1, by rw [hs]; exact hb.2⟩), fun s t => (h.str s t).keep (fun b hb => hk b (by have := hb.1; omega)) (fun _ hb => ⟨hb.1, by rw [hs]; exact hb.2⟩), fun s => (h.one s).keep (fun b hb => hk b (by have := hb.1; omega)) (fun _ hb => ⟨hb.1, by rw [hs]; exact hb.2⟩)⟩
theorem Bks.cons {X : World} {l : List (Nat × List Value)} (h : Bks X l) {g : Nat} {vs : List Value} (hb : Bk X g vs) (hg : ∀ x ∈ l, x.1 < g) : Bks X ((g, vs) :: l) := by
 refine ⟨fun x hx => ?_, ?_⟩
 ·rcases List.mem_cons.1 hx with rfl | hx
  ·exact hb
  ·exact h.bk x hx
 ·rw [List.map_cons]
  refine List.Pairwise.cons (fun y hy => ?_) h.ord
  obtain ⟨x, hx, rfl⟩ := List.mem_map.1 hy
  exact hg x hx
end Hb
namespace Go.Proofs.YtfkhcpeahdkafaaGreat
open Go.RowKit Hb
set_option maxRecDepth 100000
end Go.Proofs.YtfkhcpeahdkafaaGreat
