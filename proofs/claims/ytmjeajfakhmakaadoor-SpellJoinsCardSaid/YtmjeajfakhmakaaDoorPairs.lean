/- Contracts of layer 1: conversion tables. -/
import Derived.Test.YtmjeajfakhmakaaDoorChars
namespace Go.Proofs.YtmjeajfakhmakaaDoor
open Go.RowKit Hb
set_option maxRecDepth 100000

theorem chars_is_of (c : Int) (b : Bool) (h : isCh c = b) (w : World) :
    Calls Tryd.prog 51 #[.int .i64 c] w fun e w' => e = .returned (.bool b) ∧ w = w' := by subst h; exact chars_is c w
theorem ref_is_of (c : Int) (b : Bool) (h : isCh c = b) (w : World) :
    Calls Tryd.prog 47 #[.int .i64 c] w fun e w' => e = .returned (.bool b) ∧ w = w' := by subst h; exact ref_is c w

set_option maxHeartbeats 2000000 in
theorem chars_valid (A : Option Addr) (n cap : Nat) (l : List (Int × Int)) (w : World) (hn : n = l.length) (hm : n ≤ maxLen) (hp : Pairs w A l) :
    Calls Tryd.prog 60 #[.slice A n cap] w fun e w' => e = .returned (.bool (pvalid l)) ∧ Below w.heap.size w w' := by
  unfold maxLen at hm
  have HN := Lib.hid hn
  clear hn
  have HP := Lib.hid hp
  clear hp
  go_enter Tryd.func60, Tryd.ntmps60
  go_wp2
  go_loopw [7] (fun i wr => ∃ k : Nat, k ≤ n ∧ i = .int .i64 k ∧ Below w.heap.size w wr ∧ Hid (∀ j, j < k → okAt l j = true)) (fun i _ => n - (intOf i).toNat)
  case atStart => exact ⟨0, Nat.zero_le _, rfl, Below.refl _ _, fun j hj => absurd hj (by omega)⟩
  case round =>
    obtain ⟨k, hk, rfl, hB, HA⟩ := hrel
    by_cases hlt : k < n
    · have hs := hB.size
      have hkl : k < l.length := by have := HN.out; omega
      obtain ⟨b, off, rfl, hb, c1, c2⟩ := (HP.out.below hB) k hkl
      rw [prF_get _ _ hkl] at c1
      rw [prT_get _ _ hkl] at c2
      have Hno := Lib.hid (pvalid_no l k hkl)
      cases q1 : isCh (prF l k)
      · have Q1 := Lib.hid q1
        have Hf := Lib.hid (okAt_1 l k q1)
        clear q1
        go_wp2
        go_quiet ((go_at_call 51; first | with_reducible exact quiet0 (chars_is_of _ _ Q1.out _) | with_reducible exact quiet0 (chars_is_of _ _ Q2.out _)))
        go_wp2
        go_ret
        exact ⟨ret_bool (Hno.out Hf.out).symm, bl_drewN (hB.alloc (by omega) _) _⟩
      have Q1 := Lib.hid q1
      clear q1
      cases q2 : isCh (prT l k)
      · have Q2 := Lib.hid q2
        have Hf := Lib.hid (okAt_2 l k Q1.out q2)
        clear q2
        go_wp2
        go_quiet ((go_at_call 51; first | with_reducible exact quiet0 (chars_is_of _ _ Q1.out _) | with_reducible exact quiet0 (chars_is_of _ _ Q2.out _)))
        go_wp2
        go_ret
        exact ⟨ret_bool (Hno.out Hf.out).symm, bl_drewN (hB.alloc (by omega) _) _⟩
      have Q2 := Lib.hid q2
      clear q2
      cases q3 : (prF l k == prT l k)
      · by_cases h0 : 0 < k
        · obtain ⟨b', off', e', _, c3, _⟩ := (HP.out.below hB) (k - 1) (by omega)
          injection e' with e'
          injection e' with e1 e2
          subst e1 e2
          rw [prF_get _ _ (by omega)] at c3
          by_cases q4 : prF l (k - 1) < prF l k
          · have Hf := Lib.hid (okAt_5 l k Q1.out Q2.out q3 q4)
            go_wp2
            go_quiet ((go_at_call 51; first | with_reducible exact quiet0 (chars_is_of _ _ Q1.out _) | with_reducible exact quiet0 (chars_is_of _ _ Q2.out _)))
            go_wp2
            go_roundw
            case rel => exact ⟨k + 1, by omega, by go_num, bl_drewN (hB.alloc (by omega) _) _, fun j hj => by
              rcases Nat.lt_or_ge j k with h | h
              · exact HA.out j h
              · have : j = k := by omega
                subst this; exact Hf.out⟩
            case measure => simp [intOf]; omega
          · have Hf := Lib.hid (okAt_6 l k Q1.out Q2.out q3 h0 q4)
            go_wp2
            go_quiet ((go_at_call 51; first | with_reducible exact quiet0 (chars_is_of _ _ Q1.out _) | with_reducible exact quiet0 (chars_is_of _ _ Q2.out _)))
            go_wp2
            go_ret
            exact ⟨ret_bool (Hno.out Hf.out).symm, bl_drewN (hB.alloc (by omega) _) _⟩
        · have Hf := Lib.hid (okAt_4 l k (by omega) Q1.out Q2.out q3)
          have hd : decide ((0 : Int) < (k : Int)) = false := by simp; omega
          go_wp2
          go_quiet ((go_at_call 51; first | with_reducible exact quiet0 (chars_is_of _ _ Q1.out _) | with_reducible exact quiet0 (chars_is_of _ _ Q2.out _)))
          go_wp2
          go_roundw
          case rel => exact ⟨k + 1, by omega, by go_num, bl_drewN (hB.alloc (by omega) _) _, fun j hj => by
            rcases Nat.lt_or_ge j k with h | h
            · exact HA.out j h
            · have : j = k := by omega
              subst this; exact Hf.out⟩
          case measure => simp [intOf]; omega
      · have Hf := Lib.hid (okAt_3 l k Q1.out Q2.out q3)
        go_wp2
        go_quiet ((go_at_call 51; first | with_reducible exact quiet0 (chars_is_of _ _ Q1.out _) | with_reducible exact quiet0 (chars_is_of _ _ Q2.out _)))
        go_wp2
        go_ret
        exact ⟨ret_bool (Hno.out Hf.out).symm, bl_drewN (hB.alloc (by omega) _) _⟩
    · have HE := Lib.hid (pvalid_all l (fun j hj => HA.out j (by have := HN.out; omega)))
      go_wp2
      go_ret
      exact ⟨ret_bool HE.out.symm, hB⟩
end Go.Proofs.YtmjeajfakhmakaaDoor
