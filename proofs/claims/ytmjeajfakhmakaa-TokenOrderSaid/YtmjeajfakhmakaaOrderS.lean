/- The tokens of All stand in a chain: each is what Next gives at the end of the one before. -/
import Derived.Test.YtmjeajfakhmakaaAllS
namespace Hb
def endAt (a0 : Nat) (L : List NextR) : Nat → Nat
  | 0 => a0
  | k + 1 => match L[k]? with | some r => r.r.end_.toNat | none => 0
theorem endAt_app (a0 : Nat) (L : List NextR) (r : NextR) (k : Nat) (h : k ≤ L.length) : endAt a0 (L ++ [r]) k = endAt a0 L k := by
  cases k with
  | zero => rfl
  | succ k => simp only [endAt]; rw [List.getElem?_append_left (by omega)]
theorem endAt_last (a0 : Nat) (L : List NextR) (r : NextR) : endAt a0 (L ++ [r]) (L.length + 1) = r.r.end_.toNat := by
  simp [endAt]
/-- The chain from an offset on. -/
def Chain (m l : List UInt8) (a0 : Nat) (L : List NextR) (last : Prop) : Prop :=
  ∀ i r, L[i]? = some r → nextR m l (endAt a0 L i) = r ∧ r.r.err = 0 ∧ (r.r.kind = 7 ↔ (i + 1 = L.length ∧ last)) ∧ endAt a0 L i ≤ l.length
theorem Chain.snoc {m l : List UInt8} {a0 : Nat} {L : List NextR} (h : Chain m l a0 L False) (a : Nat) (ha : a = endAt a0 L L.length) (hl : a ≤ l.length) (he : (nextR m l a).r.err = 0) (p : Prop) (hk : (nextR m l a).r.kind = 7 ↔ p) :
    Chain m l a0 (L ++ [nextR m l a]) p := by
  intro i r hi
  rcases Nat.lt_trichotomy i L.length with h1 | h1 | h1
  · rw [List.getElem?_append_left h1] at hi
    obtain ⟨e1, e2, e3, e4⟩ := h i r hi
    rw [endAt_app _ _ _ _ (by omega)]
    refine ⟨e1, e2, ⟨fun h7 => ?_, fun h7 => ?_⟩, e4⟩
    · exact absurd (e3.1 h7).2 id
    · have := h7.1; simp at this; omega
  · subst h1
    simp at hi
    subst hi
    rw [endAt_app _ _ _ _ (by omega), ← ha]
    refine ⟨rfl, he, ?_, hl⟩
    rw [hk]; simp
  · rw [List.getElem?_eq_none (by simp; omega)] at hi; cases hi
theorem allF_chain (m l : List UInt8) (hml : m.length = l.length) (a0 : Nat) : ∀ (f : Nat) (a : Nat) (acc : List NextR), Chain m l a0 acc False → a = endAt a0 acc acc.length → a ≤ l.length →
    ((allF f m l a acc).err = 0 → (allF f m l a acc).where_ = 0 ∧ (allF f m l a acc).l ≠ [] ∧ Chain m l a0 (allF f m l a acc).l True) ∧ (¬(allF f m l a acc).err = 0 → (allF f m l a acc).l = [])
  | 0, a, acc, _, _, _ => ⟨fun h => absurd h (by show ¬(99 : Int) = 0; decide), fun _ => rfl⟩
  | f + 1, a, acc, hc, ha, hl => by
    rw [allF_succ]
    by_cases c1 : (nextR m l a).r.err = 14 ∧ acc ≠ []
    · rw [if_pos c1]; exact ⟨fun h => absurd h (by show ¬(7 : Int) = 0; decide), fun _ => rfl⟩
    rw [if_neg c1]
    by_cases c2 : (nextR m l a).r.err = 0
    · rw [if_neg (by simpa using c2)]
      obtain ⟨p, e, _, h2, h3, h4, h5, _, _⟩ := next_end m l hml a hl c2
      by_cases c3 : (nextR m l a).r.kind = 7
      · rw [if_pos c3]
        exact ⟨fun _ => ⟨rfl, by simp, hc.snoc a ha hl c2 True (by simp [c3])⟩, fun h => absurd rfl h⟩
      · rw [if_neg c3]
        refine allF_chain m l hml a0 f _ _ (hc.snoc a ha hl c2 False (by simp [c3])) ?_ ?_
        · rw [List.length_append]; exact (endAt_last _ _ _).symm
        · rw [h3]; simpa using h5
    · rw [if_pos (by simpa using c2)]
      exact ⟨fun h => absurd h c2, fun _ => rfl⟩
theorem allR_chain (m l : List UInt8) (hml : m.length = l.length) (a : Nat) (ha : a ≤ l.length) :
    ((allR m l a).err = 0 → (allR m l a).where_ = 0 ∧ (allR m l a).l ≠ [] ∧ Chain m l a (allR m l a).l True) ∧ (¬(allR m l a).err = 0 → (allR m l a).l = []) :=
  allF_chain m l hml a _ a [] (fun i r h => by simp at h) rfl ha
end Hb
