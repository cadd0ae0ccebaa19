/- Plain laws: what Next reads at a text between quotes. -/
import Derived.Test.YtmjeajfakhmakaaDoorQuoS
import Derived.Test.YtmjeajfakhmakaaDoorLayS
import Derived.Test.YtmjeajfakhmakaaDoorNext
namespace Hb
theorem btw_len (q : Int) (b : UInt8) : (btw q b).length ≤ 6 := by
  unfold btw
  have : (esc (b.toNat : Int)).length ≤ 5 := by
    unfold esc; repeat' split
    all_goals simp
  rw [List.length_append]
  split <;> simp <;> omega
theorem btws_len (q : Int) : ∀ s : List UInt8, (btws q s).length ≤ 6 * s.length
  | [] => by simp [btws]
  | b :: s => by
    have h1 := btw_len q b
    have h2 := btws_len q s
    rw [btws_cons, List.length_append, List.length_cons]; omega
theorem skip_head (b : UInt8) (l : List UInt8) (h1 : ¬cls (b.toNat : Int) = 1) (h2 : ¬(b.toNat : Int) = 37) (h3 : ¬(b.toNat : Int) = 47) : skipN (b :: l) = 0 := by
  rw [skipN_eq, rawAt_cons]
  simp only [List.isEmpty_cons, Bool.false_eq_true, if_false]
  rw [if_neg h1, if_neg h2, if_neg (fun h => h3 h.1)]
theorem tok_dq (s : List UInt8) (L : List UInt8) (hL : L = 34 :: (btws 34 s ++ [34])) : tokR L L 0 = ⟨5, s, 0, 0, (btws 34 s).length + 2, 0⟩ := by
  subst hL
  unfold tokR
  rw [rawAt_cons]
  rw [if_neg (fun h => absurd h.1 (by decide)), if_neg (by decide +kernel), if_neg (by decide +kernel), if_neg (by decide +kernel), if_neg (by decide +kernel), if_pos (by decide +kernel)]
  unfold quoteR
  rw [rawAt_cons, if_pos (by decide)]
  simp only [Nat.zero_add, List.drop_succ_cons, List.drop_zero]
  rw [item_btws 34 (.inr rfl) 34 rfl]
  unfold strRes
  simp; omega
theorem tok_sq (s : List UInt8) (L : List UInt8) (hL : L = 39 :: (btws 39 s ++ [39])) : tokR L L 0 = namedR 2 s 0 ((btws 39 s).length + 2) := by
  subst hL
  unfold tokR
  rw [rawAt_cons]
  rw [if_neg (fun h => absurd h.1 (by decide)), if_neg (by decide +kernel), if_neg (by decide +kernel), if_neg (by decide +kernel), if_neg (by decide +kernel), if_pos (by decide +kernel)]
  unfold quoteR
  rw [rawAt_cons, if_neg (by decide), if_pos (by decide)]
  simp only [Nat.zero_add, List.drop_succ_cons, List.drop_zero]
  rw [item_btws 39 (.inl rfl) 39 rfl]
  show namedR 2 s ((0 : Nat) : Int) (((0 : Nat) : Int) + 1 + ((btws 39 s).length : Int) + 1) = _
  rw [show (((0 : Nat) : Int) + 1 + ((btws 39 s).length : Int) + 1) = ((btws 39 s).length : Int) + 2 by omega]; rfl
end Hb
namespace Go.Proofs.YtmjeajfakhmakaaDoor
open Hb
theorem top_quote (q : UInt8) (t : List UInt8) (L : List UInt8) (hL : L = q :: t) (hlen : L.length ≤ 16384) (h1 : ¬cls (q.toNat : Int) = 1) (h2 : ¬(q.toNat : Int) = 37) (h3 : ¬(q.toNat : Int) = 47) :
    nextTop L 0 [] = if (tokR L L 0).err = 0 then ⟨tokR L L 0, false, 0⟩ else ⟨errR (tokR L L 0).err, false, 0⟩ := by
  have hok : okArgs L 0 [] = true := by unfold okArgs; simp; exact ⟨hlen, rfl⟩
  unfold nextTop
  rw [if_pos hok, cvt_id]
  have hs : skipN L = 0 := by rw [hL]; exact skip_head q t h1 h2 h3
  unfold nextR
  simp only [Int.toNat_zero, List.drop_zero, hs, Nat.zero_add]
  rw [if_neg (by rw [hL]; simp)]
  simp
theorem next_dq (s : List UInt8) (h : s.length ≤ 1000) (L : List UInt8) (hL : L = 34 :: (btws 34 s ++ [34])) : nextTop L 0 [] = ⟨⟨5, s, 0, 0, L.length, 0⟩, false, 0⟩ := by
  have hb := btws_len 34 s
  have hl : L.length = (btws 34 s).length + 2 := by rw [hL]; simp
  rw [top_quote 34 _ L hL (by omega) (by decide +kernel) (by decide) (by decide), tok_dq s L hL, if_pos rfl, hl]; simp
theorem next_sq (s : List UInt8) (h : s.length ≤ 1000) (L : List UInt8) (hL : L = 39 :: (btws 39 s ++ [39])) : nextTop L 0 [] = if 100 < s.length then ⟨errR 2, false, 0⟩ else ⟨⟨2, s, 0, 0, L.length, 0⟩, false, 0⟩ := by
  have hb := btws_len 39 s
  have hl : L.length = (btws 39 s).length + 2 := by rw [hL]; simp
  rw [top_quote 39 _ L hL (by omega) (by decide +kernel) (by decide) (by decide), tok_sq s L hL]
  unfold namedR
  by_cases hx : 100 < s.length
  · rw [if_pos hx, if_pos hx]; rfl
  · rw [if_neg hx, if_neg hx, if_pos rfl, hl]; simp
end Go.Proofs.YtmjeajfakhmakaaDoor
