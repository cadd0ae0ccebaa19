/- Flags: Call in plain words; goals of two leaves. Flags: what a call that went well has handed back, while the laws lay it down. -/
import Derived.Test.YtfkhcpeahdkafaaGreatH35
import Derived.Test.YtfkhcpeahdkafaaGreatH33
import Derived.Test.YtfkhcpeahdkafaaGreatH32
namespace Hb
open Go Go.RowKit
theorem RIs.turn {w W w8 w' : World} {r : RV} {sp : CR} (h : Turn w W w8 w') (hr : RIs (w.heap.size + 1 + 1 + 1 + 1) W w8 r sp) : RIs (w.heap.size + 1 + 1 + 1 + 1) w w' (if r.er = 0 then rvS r.oa r.on r.oc r.q r.u r.c r.d r.ca r.cn r.cc r.ra r.rn r.rc else rvB r.bk r.bn r.bs r.ba r.bz r.bc r.er) sp := by
 cases sp with
 | ok s l =>
  obtain ⟨h0, h1, h2, h3, h4, h5⟩ := hr
  rw [if_pos h0]
  exact ⟨rfl, h.tab h1, h2, h.prs h3, h4, h.tms h5⟩
 | ball b =>
  obtain ⟨h0, h1, h2, h3, h4, h5⟩ := hr
  rw [if_neg (by omega)]
  exact ⟨h0, h1, h2, h3, h4, h.tms h5⟩
 | err n =>
  obtain ⟨h0, h1, h2, h3, h4, h5, h6⟩ := hr
  rw [if_neg (by omega)]
  exact ⟨h0, h1, h2, h3, h4, h5, h6⟩
theorem same_can {t : Tm} (hv : validT t = true) (hc : canT t = t) : sameT t (canT t) = true := by rw [hc]; exact sameT_refl hv
end Hb
namespace Go.Proofs.YtfkhcpeahdkafaaGreat
open Go.RowKit Hb Go.Shelf
set_option maxRecDepth 100000
theorem opsValid_len {l : List OpR} (h : opsValid l = true) : l.length ≤ 100 := by
 unfold opsValid at h
 rw [Bool.and_eq_true, decide_eq_true_iff] at h
 exact h.1
end Go.Proofs.YtfkhcpeahdkafaaGreat
namespace Hb
open Go Go.RowKit
structure ResOk (P Q : Nat) (X : World) (r : RV) (s : SyP) (l : List Tm) : Prop where
 er : r.er = 0
 tab : Tab X r.oa r.on r.oc s.ops
 fl : (⟨r.q, r.u, r.c, r.d⟩ : FlR) = s.fl
 cv : PrI P X r.ca r.cn r.cc s.cv
 cvq : ∀ b o, r.ca = some ⟨b, o, none⟩ → b < Q
 rn : r.rn = l.length
 ra : TmsK (fun b => P ≤ b ∧ b < Q) X r.ra l
 qx : Q ≤ X.heap.size
theorem ResOk.of {w w' : World} {r : RV} {s : SyP} {l : List Tm} (h : RIs (w.heap.size + 1 + 1 + 1 + 1) w w' r (.ok s l)) : ResOk w.heap.size w'.heap.size w' r s l :=
 ⟨h.1, h.2.1, h.2.2.1, h.2.2.2.1.mono (by omega), fun b o e => (h.2.2.2.1.blk b o e).2, h.2.2.2.2.1, h.2.2.2.2.2, Nat.le_refl _⟩
theorem ResOk.call {P Q : Nat} {X X' : World} {r : RV} {s : SyP} {l : List Tm} (h : ResOk P Q X r s l) (hB : Below X.heap.size X X') : ResOk P Q X' r s l :=
 ⟨h.er, h.tab.below hB, h.fl, h.cv.below hB, h.cvq, h.rn, h.ra.keep (fun b hb => hB.block b (Nat.lt_of_lt_of_le hb.2 h.qx)) (fun _ hb => hb), Nat.le_trans h.qx hB.size⟩
theorem ResOk.put {P Q : Nat} {X X' : World} {r : RV} {s : SyP} {l : List Tm} (h : ResOk P Q X r s l) (e : Nat) (vs : List Value) (he : e < P ∨ Q ≤ e) (hb : Bk X e vs) (hv : ∀ i s x, vs[i]? = some (.string s) → ¬ vs[i + 1]? = some (.int .i64 x)) (hs : X'.heap.size = X.heap.size) (hk : ∀ b, b ≠ e → X'.heap[b]? = X.heap[b]?) : ResOk P Q X' r s l :=
 ⟨h.er, tab_boxes (L := [(e, vs)]) h.tab ⟨fun x hx => by rw [List.mem_singleton.1 hx]; exact hb, by simp⟩ (fun x hx => by rw [List.mem_singleton.1 hx]; exact hv) (by rw [hs]; exact Nat.le_refl _) (fun k hk' => hk k (hk' _ (List.mem_singleton.2 rfl))), h.fl, h.cv.keep (by rw [hs]; exact Nat.le_refl _) (fun b o e' => hk b (by have := (h.cv.blk b o e').1; have := h.cvq b o e'; omega)), h.cvq, h.rn, h.ra.keep (fun b hb => hk b (by have := hb.1; have := hb.2; omega)) (fun _ hb => hb), by rw [hs]; exact h.qx⟩
def ResAny (P Q : Nat) (X : World) (r : RV) : CR → Prop
 | .ok s l => ResOk P Q X r s l
 | _ => r.er ≠ 0 ∧ r.rn = 0 ∧ Q ≤ X.heap.size
theorem ResAny.qx {P Q : Nat} {X : World} {r : RV} {sp : CR} (h : ResAny P Q X r sp) : Q ≤ X.heap.size := by
 cases sp with
 | ok s l => exact ResOk.qx h
 | ball b => exact h.2.2
 | err n => exact h.2.2
theorem ResAny.call {P Q : Nat} {X X' : World} {r : RV} {sp : CR} (h : ResAny P Q X r sp) (hB : Below X.heap.size X X') : ResAny P Q X' r sp := by
 cases sp with
 | ok s l => exact ResOk.call h hB
 | ball b => exact ⟨h.1, h.2.1, Nat.le_trans h.2.2 hB.size⟩
 | err n => exact ⟨h.1, h.2.1, Nat.le_trans h.2.2 hB.size⟩
theorem ResAny.put {P Q : Nat} {X X' : World} {r : RV} {sp : CR} (h : ResAny P Q X r sp) (e : Nat) (vs : List Value) (he : e < P ∨ Q ≤ e) (hb : Bk X e vs) (hv : ∀ i s x, vs[i]? = some (.string s) → ¬ vs[i + 1]? = some (.int .i64 x)) (hs : X'.heap.size = X.heap.size) (hk : ∀ b, b ≠ e → X'.heap[b]? = X.heap[b]?) : ResAny P Q X' r sp := by
 cases sp with
 | ok s l => exact ResOk.put h e vs he hb hv hs hk
 | ball b => exact ⟨h.1, h.2.1, by rw [hs]; exact h.2.2⟩
 | err n => exact ⟨h.1, h.2.1, by rw [hs]; exact h.2.2⟩
end Hb
