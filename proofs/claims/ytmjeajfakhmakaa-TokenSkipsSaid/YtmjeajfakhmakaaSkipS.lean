/- Where Skip ends: plain law. -/
import Derived.Test.YtmjeajfakhmakaaAllS
namespace Hb
theorem skipTokF_ok (m l : List UInt8) (hl : m.length = l.length) : ∀ (f a : Nat), a ≤ l.length → l.length - a < f → ∃ v : Nat, skipTokF f m l a = v ∧ v ≤ l.length ∧ (a < v ∨ v = l.length)
  | 0, _, _, h => absurd h (by omega)
  | f + 1, a, ha, hf => by
    rw [skipTokF_succ]
    by_cases c1 : (nextR m l a).r.err = 14
    · rw [if_pos c1]; exact ⟨l.length, rfl, Nat.le_refl _, .inr rfl⟩
    rw [if_neg c1]
    by_cases c2 : (nextR m l a).r.err = 0
    · obtain ⟨p, e, e1, e2, e3, e4, e5, _⟩ := next_end m l hl a ha c2
      rw [if_neg (by simpa using c2)]
      by_cases c3 : (nextR m l a).r.kind = 7
      · rw [if_pos c3]; exact ⟨e, e3, e5, .inl (by omega)⟩
      · rw [if_neg c3, e3, Int.toNat_natCast]
        obtain ⟨v, h1, h2, h3⟩ := skipTokF_ok m l hl f e e5 (by omega)
        exact ⟨v, h1, h2, by omega⟩
    · obtain ⟨p, e1, e2, e3, e4, e5, _⟩ := next_where m l hl a ha c2
      have := e5 c1
      rw [if_pos c2, e1, show ((p : Int) + 1).toNat = p + 1 by omega]
      obtain ⟨v, h1, h2, h3⟩ := skipTokF_ok m l hl f (p + 1) (by omega) (by omega)
      exact ⟨v, h1, h2, by omega⟩
theorem skipTok_ok (m l : List UInt8) (hl : m.length = l.length) (a : Nat) (ha : a ≤ l.length) : ∃ v : Nat, skipTok m l a = v ∧ v ≤ l.length ∧ (a < v ∨ v = l.length) := skipTokF_ok m l hl _ a ha (by omega)
end Hb
