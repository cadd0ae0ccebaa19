/- Contracts: chars.Convert (a binary search). Conversion tables, plain: a valid table is the one of its function; what Set makes of it. Contracts: chars.Set. -/
import Derived.Test.YtfkhcpeahdkafaaGreatH11
import Derived.Test.YtfkhcpeahdkafaaGreatH18
namespace Hb
theorem sorted_step (l : List (Int × Int)) (hv : pvalid l = true) (k : Nat) (h : k + 1 < l.length) : prF l k < prF l (k + 1) := by
 have := pvalid_at l hv (k + 1) h
 unfold okAt at this
 simp at this
 exact this.2.2.2
theorem sorted_lt (l : List (Int × Int)) (hv : pvalid l = true) : ∀ (d k : Nat), k + d + 1 < l.length → prF l k < prF l (k + d + 1)
 | 0, k, h => sorted_step l hv k h
 | d + 1, k, h => by
  have h1 := sorted_lt l hv d k (by omega)
  have h2 := sorted_step l hv (k + d + 1) (by omega)
  rw [show k + (d + 1) + 1 = k + d + 1 + 1 by omega]; omega
theorem sorted (l : List (Int × Int)) (hv : pvalid l = true) (j k : Nat) (h1 : j < k) (h2 : k < l.length) : prF l j < prF l k := by
 have := sorted_lt l hv (k - j - 1) j (by omega)
 rwa [show j + (k - j - 1) + 1 = k by omega] at this
end Hb
namespace Go.Proofs.YtfkhcpeahdkafaaGreat
open Go.RowKit Hb
set_option maxRecDepth 100000
end Go.Proofs.YtfkhcpeahdkafaaGreat
namespace Hb
structure CvOk (l : List (Int × Int)) : Prop where
 ok : ∀ p ∈ l, 0 ≤ p.1 ∧ p.1 ≤ 255 ∧ 0 ≤ p.2 ∧ p.2 ≤ 255 ∧ p.1 ≠ p.2
 asc : l.Pairwise (fun p q => p.1 < q.1)
theorem okAt_iff (l : List (Int × Int)) (j : Nat) : okAt l j = true ↔ (0 ≤ prF l j ∧ prF l j ≤ 255) ∧ (0 ≤ prT l j ∧ prT l j ≤ 255) ∧ prF l j ≠ prT l j ∧ (j = 0 ∨ prF l (j - 1) < prF l j) := by
 unfold okAt isCh
 simp
theorem cvOk_iff (l : List (Int × Int)) : pvalid l = true ↔ CvOk l := by
 constructor
 ·intro h
  refine ⟨fun p hp => ?_, ?_⟩
  ·obtain ⟨j, hj, rfl⟩ := List.mem_iff_getElem.1 hp
   have := (okAt_iff l j).1 (pvalid_at l h j hj)
   rw [prF_get _ _ hj, prT_get _ _ hj]
   exact ⟨this.1.1, this.1.2, this.2.1.1, this.2.1.2, this.2.2.1⟩
  ·rw [List.pairwise_iff_getElem]
   intro i j hi hj hij
   rw [prF_get _ _ hi, prF_get _ _ hj]
   exact sorted l h i j hij hj
 ·intro h
  refine pvalid_all l fun j hj => ?_
  have h1 := h.ok l[j] (List.getElem_mem hj)
  rw [prF_get _ _ hj, prT_get _ _ hj] at h1
  refine (okAt_iff l j).2 ⟨⟨h1.1, h1.2.1⟩, ⟨h1.2.2.1, h1.2.2.2.1⟩, h1.2.2.2.2, ?_⟩
  rcases j with _ | j
  ·exact .inl rfl
  ·have := (List.pairwise_iff_getElem.1 h.asc) j (j + 1) (by omega) hj (by omega)
   rw [prF_get _ _ (by omega), prF_get _ _ hj] at this
   exact .inr this
theorem fold_miss (c : Int) : ∀ (l : List (Int × Int)) (t : Int), (∀ p ∈ l, p.1 ≠ c) → l.foldl (fun t p => if p.1 = c then p.2 else t) t = t
 | [], _, _ => rfl
 | p :: l, t, h => by
  rw [List.foldl_cons, if_neg (h p (List.mem_cons_self ..))]
  exact fold_miss c l t fun q hq => h q (List.mem_cons_of_mem _ hq)
theorem cv_miss {l : List (Int × Int)} {c : Int} (h : ∀ p ∈ l, p.1 ≠ c) : convT l c = c := fold_miss c l c h
theorem cv_ne {p : Int × Int} {l : List (Int × Int)} {c : Int} (h : p.1 ≠ c) : convT (p :: l) c = convT l c := by
 unfold convT
 rw [List.foldl_cons, if_neg h]
theorem cv_eq {p : Int × Int} {l : List (Int × Int)} (h : ∀ q ∈ l, q.1 ≠ p.1) : convT (p :: l) p.1 = p.2 := by
 unfold convT
 rw [List.foldl_cons, if_pos rfl]
 exact fold_miss p.1 l p.2 h
def tabFrom (f : Int → Int) : Nat → Nat → List (Int × Int)
 | _, 0 => []
 | a, n + 1 => if f a = a then tabFrom f (a + 1) n else ((a : Int), f a) :: tabFrom f (a + 1) n
def tabOf (f : Int → Int) : List (Int × Int) := tabFrom f 0 256
theorem tab_congr {f g : Int → Int} : ∀ (n a : Nat), (∀ c : Int, (a : Int) ≤ c → c < a + n → f c = g c) → tabFrom f a n = tabFrom g a n
 | 0, _, _ => rfl
 | n + 1, a, h => by
  unfold tabFrom
  rw [h a (by omega) (by omega), tab_congr n (a + 1) fun c h1 h2 => h c (by omega) (by omega)]
theorem tab_unique : ∀ (n a : Nat) (l : List (Int × Int)), l.Pairwise (fun p q => p.1 < q.1) → (∀ p ∈ l, (a : Int) ≤ p.1 ∧ p.1 < a + n ∧ p.1 ≠ p.2) → tabFrom (convT l) a n = l
 | 0, a, l, _, h => by
  cases l with
  | nil => rfl
  | cons p l => have := h p (List.mem_cons_self ..); omega
 | n + 1, a, l, hp, h => by
  by_cases hl : ∃ p l', l = p :: l' ∧ p.1 = a
  ·obtain ⟨p, l', rfl, e⟩ := hl
   have hp' := List.pairwise_cons.1 hp
   have h0 := h p (List.mem_cons_self ..)
   have hc : convT (p :: l') a = p.2 := by
    rw [← e]
    exact cv_eq fun q hq => by have := hp'.1 q hq; omega
   unfold tabFrom
   rw [hc, if_neg (fun e2 => h0.2.2 (by omega)), tab_congr (g := convT l') n (a + 1) fun c h1 _ => cv_ne (by omega)]
   rw [tab_unique n (a + 1) l' hp'.2 fun q hq => by
    have h1 := hp'.1 q hq
    have h2 := h q (List.mem_cons_of_mem _ hq)
    exact ⟨by omega, by omega, h2.2.2⟩]
   rw [← e]
  ·have hgt : ∀ p ∈ l, (a : Int) < p.1 := by
    cases l with
    | nil => intro p hp; cases hp
    | cons q l' =>
     have h0 := h q (List.mem_cons_self ..)
     have hq : (a : Int) < q.1 := by
      have : q.1 ≠ (a : Int) := fun e => hl ⟨q, l', rfl, e⟩
      omega
     intro p hp'
     rcases List.mem_cons.1 hp' with rfl | hp'
     ·exact hq
     ·have := (List.pairwise_cons.1 hp).1 p hp'
      omega
   unfold tabFrom
   rw [cv_miss fun p hp => by have := hgt p hp; omega, if_pos rfl]
   exact tab_unique n (a + 1) l hp fun p hp => by
    have h1 := hgt p hp
    have h2 := h p hp
    exact ⟨by omega, by omega, h2.2.2⟩
theorem tab_of {l : List (Int × Int)} (h : CvOk l) : tabOf (convT l) = l := tab_unique 256 0 l h.asc fun p hp => by
 have := h.ok p hp
 exact ⟨by omega, by omega, this.2.2.2.2⟩
theorem tab_len (f : Int → Int) : ∀ n a, (tabFrom f a n).length ≤ n
 | 0, _ => Nat.le_refl _
 | n + 1, a => by
  unfold tabFrom
  have := tab_len f n (a + 1)
  split
  ·omega
  ·simp only [List.length_cons]; omega
theorem cv_len {l : List (Int × Int)} (h : CvOk l) : l.length ≤ 256 := by
 have := tab_len (convT l) 256 0
 have e := tab_of h
 unfold tabOf at e
 rwa [e] at this
end Hb
namespace Hb
open Go Go.RowKit
theorem Pairs.take {w : World} {A : Option Addr} {l : List (Int × Int)} (h : Pairs w A l) (i : Nat) : Pairs w A (l.take i) := fun j hj => by
 rw [List.length_take] at hj
 obtain ⟨b, off, e, hb, c1, c2⟩ := h j (by omega)
 exact ⟨b, off, e, hb, by rw [List.getElem_take]; exact c1, by rw [List.getElem_take]; exact c2⟩
end Hb
namespace Go.Proofs.YtfkhcpeahdkafaaGreat
open Go.RowKit Hb
set_option maxRecDepth 100000
end Go.Proofs.YtfkhcpeahdkafaaGreat
