/- Quoted items: plain laws. -/
import Derived.Test.YtmjeajfakhmakaaDoorNumS
namespace Hb

theorem une_bd (c : Int) (h : uneOk c = true) : 0 ≤ uneV c ∧ uneV c ≤ 255 ∧ 0 ≤ c ∧ c ≤ 255 := by
  unfold uneOk uneV une at *
  grind (splits := 30)
theorem quotedS_ok (l : List UInt8) (q c : Int) (k : Nat) (hq : 0 ≤ q ∧ q ≤ 255) (h : quotedS l q = some (c, k)) : 1 ≤ k ∧ k ≤ l.length ∧ 0 ≤ c ∧ c ≤ 255 := by
  unfold quotedS at h
  have n0 := rawAt_neg l 0
  have n1 := rawAt_neg l 1
  by_cases h1 : rawAt l 0 < 0 ∨ rawAt l 0 = 10
  · rw [if_pos h1] at h; cases h
  rw [if_neg h1] at h
  by_cases h2 : rawAt l 0 = q
  · rw [if_pos h2] at h
    by_cases h3 : rawAt l 1 = q
    · rw [if_pos h3] at h; injection h with h; injection h with e1 e2; subst e1; subst e2; omega
    · rw [if_neg h3] at h; cases h
  rw [if_neg h2] at h
  by_cases h3 : rawAt l 0 ≠ 92
  · rw [if_pos h3] at h; injection h with h; injection h with e1 e2; subst e1; subst e2
    have := rawAt_hi l 0
    omega
  rw [if_neg h3] at h
  by_cases h4 : uneOk (rawAt l 1) = true
  · rw [if_pos h4] at h; injection h with h; injection h with e1 e2; subst e1; subst e2
    have := une_bd _ h4
    omega
  rw [if_neg h4] at h
  by_cases h5 : 0 < escLen l ∧ escNum l ≤ 255 ∧ rawAt l (escFrom l + escLen l) = 92
  · rw [if_pos h5] at h; injection h with h; injection h with e1 e2; subst e1; subst e2
    have n2 := rawAt_neg l (escFrom l + escLen l)
    omega
  · rw [if_neg h5] at h; cases h

theorem itemF_fuel (q : Int) (hq : 0 ≤ q ∧ q ≤ 255) : ∀ (f g : Nat) (l : List UInt8), l.length < f → l.length < g → itemF f l q = itemF g l q
  | 0, _, _, h, _ => absurd h (by omega)
  | _ + 1, 0, _, _, h => absurd h (by omega)
  | f + 1, g + 1, l, h1, h2 => by
    unfold itemF
    have n0 := rawAt_neg l 0
    by_cases a1 : rawAt l 0 = q ∧ ¬rawAt l 1 = q
    · rw [if_pos a1, if_pos a1]
    rw [if_neg a1, if_neg a1]
    by_cases a2 : rawAt l 0 = 92 ∧ rawAt l 1 = 10
    · have n1 := rawAt_neg l 1
      rw [if_pos a2, if_pos a2, itemF_fuel q hq f g (l.drop 2) (by simp; omega) (by simp; omega)]
    rw [if_neg a2, if_neg a2]
    cases hs : quotedS l q with
    | none => rfl
    | some ck =>
      obtain ⟨c, k⟩ := ck
      have := quotedS_ok l q c k hq hs
      simp only []
      rw [itemF_fuel q hq f g (l.drop k) (by simp; omega) (by simp; omega)]
theorem item_eq (l : List UInt8) (q : Int) (hq : 0 ≤ q ∧ q ≤ 255) : item l q =
    if rawAt l 0 = q ∧ ¬rawAt l 1 = q then some ([], 0)
    else if rawAt l 0 = 92 ∧ rawAt l 1 = 10 then (item (l.drop 2) q).map fun x => (x.1, x.2 + 2)
    else match quotedS l q with
      | none => none
      | some (c, k) => (item (l.drop k) q).map fun x => (c.toNat.toUInt8 :: x.1, x.2 + k) := by
  have n0 := rawAt_neg l 0
  unfold item
  rw [itemF]
  by_cases a1 : rawAt l 0 = q ∧ ¬rawAt l 1 = q
  · rw [if_pos a1, if_pos a1]
  rw [if_neg a1, if_neg a1]
  by_cases a2 : rawAt l 0 = 92 ∧ rawAt l 1 = 10
  · have n1 := rawAt_neg l 1
    rw [if_pos a2, if_pos a2, itemF_fuel q hq l.length ((l.drop 2).length + 1) (l.drop 2) (by simp; omega) (by omega)]
  rw [if_neg a2, if_neg a2]
  cases hs : quotedS l q with
  | none => rfl
  | some ck =>
    obtain ⟨c, k⟩ := ck
    have := quotedS_ok l q c k hq hs
    simp only []
    rw [itemF_fuel q hq l.length ((l.drop k).length + 1) (l.drop k) (by simp; omega) (by omega)]
/-- The item from a place on, behind what has been read. -/
def itemAt (l : List UInt8) (q : Int) (acc : List UInt8) (j : Nat) : Option (List UInt8 × Nat) := (item (l.drop j) q).map fun x => (acc ++ x.1, j + x.2)
theorem itemAt_end (l : List UInt8) (q : Int) (hq : 0 ≤ q ∧ q ≤ 255) (acc : List UInt8) (j : Nat) (h1 : rawAt l j = q) (h2 : ¬rawAt l (j + 1) = q) : itemAt l q acc j = some (acc, j) := by
  unfold itemAt; rw [item_eq _ _ hq, rawAt_drop, rawAt_drop, Nat.add_zero, if_pos ⟨h1, h2⟩]; simp
theorem itemAt_cont (l : List UInt8) (q : Int) (hq : 0 ≤ q ∧ q ≤ 255) (acc : List UInt8) (j : Nat) (h0 : ¬(rawAt l j = q ∧ ¬rawAt l (j + 1) = q)) (h1 : rawAt l j = 92) (h2 : rawAt l (j + 1) = 10) : itemAt l q acc j = itemAt l q acc (j + 2) := by
  unfold itemAt; rw [item_eq _ _ hq, rawAt_drop, rawAt_drop, Nat.add_zero, if_neg h0, if_pos ⟨h1, h2⟩, List.drop_drop, Option.map_map]
  congr 1; funext x; simp; omega
theorem itemAt_none (l : List UInt8) (q : Int) (hq : 0 ≤ q ∧ q ≤ 255) (acc : List UInt8) (j : Nat) (h0 : ¬(rawAt l j = q ∧ ¬rawAt l (j + 1) = q)) (h1 : ¬(rawAt l j = 92 ∧ rawAt l (j + 1) = 10)) (h2 : quotedS (l.drop j) q = none) : itemAt l q acc j = none := by
  unfold itemAt; rw [item_eq _ _ hq, rawAt_drop, rawAt_drop, Nat.add_zero, if_neg h0, if_neg h1, h2]; rfl
theorem itemAt_some (l : List UInt8) (q : Int) (hq : 0 ≤ q ∧ q ≤ 255) (acc : List UInt8) (j k : Nat) (c : Int) (h0 : ¬(rawAt l j = q ∧ ¬rawAt l (j + 1) = q)) (h1 : ¬(rawAt l j = 92 ∧ rawAt l (j + 1) = 10)) (h2 : quotedS (l.drop j) q = some (c, k)) : itemAt l q acc j = itemAt l q (acc ++ [c.toNat.toUInt8]) (j + k) := by
  unfold itemAt; rw [item_eq _ _ hq, rawAt_drop, rawAt_drop, Nat.add_zero, if_neg h0, if_neg h1, h2]
  simp only []
  rw [List.drop_drop, Option.map_map]
  congr 1; funext x; simp; omega
end Hb
