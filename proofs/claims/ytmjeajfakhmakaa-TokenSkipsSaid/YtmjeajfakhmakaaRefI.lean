/- Plain laws for the reference of layer 9: items, numbers. -/
import Derived.Test.YtmjeajfakhmakaaRefS
namespace Hb
/-- What 'item' of the reference returns. -/
def itmT (l : List UInt8) (p : Nat) (q : Int) : List UInt8 := match item (l.drop (p + 1)) q with
  | none => []
  | some x => x.1
def itmE (l : List UInt8) (p : Nat) (q : Int) : Nat := match item (l.drop (p + 1)) q with
  | none => 0
  | some x => p + 1 + x.2 + 1
def itmK (l : List UInt8) (p : Nat) (q : Int) : Bool := (item (l.drop (p + 1)) q).isSome
theorem itemAt_start (l : List UInt8) (p : Nat) (q : Int) : itemAt l q [] (p + 1) = (item (l.drop (p + 1)) q).map fun x => (x.1, p + 1 + x.2) := by unfold itemAt; simp
structure ItmIs (l : List UInt8) (p : Nat) (q : Int) (t : List UInt8) (e : Nat) (k : Bool) : Prop where
  t : itmT l p q = t
  e : itmE l p q = e
  k : itmK l p q = k
theorem itm_none (l : List UInt8) (p : Nat) (q : Int) (h : itemAt l q [] (p + 1) = none) : ItmIs l p q [] 0 false := by
  rw [itemAt_start] at h
  cases hi : item (l.drop (p + 1)) q with
  | none => exact ⟨by unfold itmT; rw [hi], by unfold itmE; rw [hi], by unfold itmK; rw [hi]; rfl⟩
  | some x => rw [hi] at h; cases h
theorem itm_some (l : List UInt8) (p : Nat) (q : Int) (t : List UInt8) (j : Nat) (h : itemAt l q [] (p + 1) = some (t, j)) : ItmIs l p q t (j + 1) true := by
  rw [itemAt_start] at h
  cases hi : item (l.drop (p + 1)) q with
  | none => rw [hi] at h; cases h
  | some x =>
    rw [hi] at h
    injection h with h
    injection h with h1 h2
    exact ⟨by unfold itmT; rw [hi]; exact h1, by unfold itmE; rw [hi]; simp only []; omega, by unfold itmK; rw [hi]; rfl⟩
end Hb
namespace Hb
theorem numR_shape (m l : List UInt8) (p : Nat) : ((numR m l p).err = 0 ∧ (numR m l p).kind = 4 ∧ (numR m l p).text = [] ∧ (numR m l p).at_ = p) ∨ numR m l p = errR 7 := by
  unfold numR
  split
  · cases quotedS (l.drop (p + 2)) 39 with
    | none => right; rfl
    | some ck => left; exact ⟨rfl, rfl, rfl, rfl⟩
  split
  · unfold intR; split
    · left; exact ⟨rfl, rfl, rfl, rfl⟩
    · right; rfl
  · unfold intR; split
    · left; exact ⟨rfl, rfl, rfl, rfl⟩
    · right; rfl
/-- What 'integer' of the reference gives. -/
def IntGives (r : LexR) (n e : Int) : Prop := r.err = 0 → r.n = n ∧ r.end_ = e
theorem intR_ok (b : Int) (t : List UInt8) (p e : Int) (h : natOf b t ≤ 9223372036854775808) (S : Int) (hS : S = natOf b t) (n : Int) (hn : n = if S = 9223372036854775808 then -9223372036854775808 else S) : ((intR b t p e).err == 0) = true ∧ IntGives (intR b t p e) n e := by
  unfold IntGives intR
  rw [if_pos h]
  refine ⟨rfl, fun _ => ⟨?_, rfl⟩⟩
  simp only []
  rw [hn, hS]
  split
  · rw [if_pos (by omega)]
  · rw [if_neg (by omega)]
theorem intR_no (b : Int) (t : List UInt8) (p e : Int) (h : ¬natOf b t ≤ 9223372036854775808) (n k : Int) : ((intR b t p e).err == 0) = false ∧ IntGives (intR b t p e) n k := by
  unfold IntGives intR
  rw [if_neg h]
  exact ⟨rfl, fun h => absurd h (by decide)⟩
/-- One more digit. -/
theorem sum_step (b : Int) (h0 : 2 ≤ b) (h1 : b ≤ 36) (m : List UInt8) (c j : Nat) (hj : j < span (isDig b) (m.drop c)) :
    (natOf b ((m.drop c).take (j + 1)) : Int) = natOf b ((m.drop c).take j) * b + digV (rawAt m (c + j)) b ∧ 0 ≤ digV (rawAt m (c + j)) b ∧ digV (rawAt m (c + j)) b ≤ 36 := by
  have := natOf_step b h0 h1 (m.drop c) j hj
  rwa [rawAt_drop] at this
theorem sum_no (b : Int) (h0 : 2 ≤ b) (m : List UInt8) (j : Nat) (h : ¬natOf b (m.take j) ≤ 9223372036854775808) : ¬natOf b (m.take (j + 1)) ≤ 9223372036854775808 := by
  have := natOf_mono b (by omega) (m.take (j + 1)) j
  rw [List.take_take, Nat.min_eq_left (by omega)] at this
  omega
end Hb
