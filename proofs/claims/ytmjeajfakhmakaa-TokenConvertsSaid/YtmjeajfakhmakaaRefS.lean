/- Plain laws for the reference of layer 9. -/
import Derived.Test.YtmjeajfakhmakaaAllS
namespace Hb

/-- Whether no comment is open at a place. -/
def gapOk (m : List UInt8) (p : Nat) : Bool := !(rawAt m p == 47 && rawAt m (p + 1) == 42)
theorem gapOk_no (m : List UInt8) (p : Nat) (h : ¬(rawAt m p = 47 ∧ rawAt m (p + 1) = 42)) : gapOk m p = true := by
  unfold gapOk
  by_cases h1 : rawAt m p = 47
  · by_cases h2 : rawAt m (p + 1) = 42
    · exact absurd ⟨h1, h2⟩ h
    · simp [h2]
  · simp [h1]
theorem gapOk_yes (m : List UInt8) (p : Nat) (h1 : rawAt m p = 47) (h2 : rawAt m (p + 1) = 42) : gapOk m p = false := by
  unfold gapOk; rw [h1, h2]; rfl
theorem gapOk_false (m : List UInt8) (p : Nat) (h : gapOk m p = false) : rawAt m p = 47 ∧ rawAt m (p + 1) = 42 := by
  unfold gapOk at h; simpa using h
theorem gapOk_true (m : List UInt8) (p : Nat) (h : gapOk m p = true) : ¬(rawAt m p = 47 ∧ rawAt m (p + 1) = 42) := fun h2 => by
  rw [gapOk_yes m p h2.1 h2.2] at h; cases h

/-- What 'quoted' of the reference returns: a character, where it ends, the kind. -/
def quotC (l : List UInt8) (k : Nat) (q : Int) : Int := if rawAt l k = 92 ∧ rawAt l (k + 1) = 10 then 0 else match quotedS (l.drop k) q with
  | none => 0
  | some x => x.1
def quotE (l : List UInt8) (k : Nat) (q : Int) : Nat := if rawAt l k = 92 ∧ rawAt l (k + 1) = 10 then k + 2 else match quotedS (l.drop k) q with
  | none => k
  | some x => k + x.2
def quotK (l : List UInt8) (k : Nat) (q : Int) : Int := if rawAt l k = 92 ∧ rawAt l (k + 1) = 10 then 2 else match quotedS (l.drop k) q with
  | none => 0
  | some _ => 1
structure QuotIs (l : List UInt8) (k : Nat) (q c : Int) (e : Nat) (kind : Int) : Prop where
  c : quotC l k q = c
  e : quotE l k q = e
  k : quotK l k q = kind
theorem quot_cont (l : List UInt8) (k : Nat) (q : Int) (h1 : rawAt l k = 92) (h2 : rawAt l (k + 1) = 10) : QuotIs l k q 0 (k + 2) 2 := by
  constructor
  · unfold quotC; rw [if_pos ⟨h1, h2⟩]
  · unfold quotE; rw [if_pos ⟨h1, h2⟩]
  · unfold quotK; rw [if_pos ⟨h1, h2⟩]
theorem quot_none (l : List UInt8) (k : Nat) (q : Int) (h : ¬(rawAt l k = 92 ∧ rawAt l (k + 1) = 10)) (hq : quotedS (l.drop k) q = none) : QuotIs l k q 0 k 0 := by
  constructor
  · unfold quotC; rw [if_neg h, hq]
  · unfold quotE; rw [if_neg h, hq]
  · unfold quotK; rw [if_neg h, hq]
theorem quot_some (l : List UInt8) (k : Nat) (q c : Int) (n : Nat) (h : ¬(rawAt l k = 92 ∧ rawAt l (k + 1) = 10)) (hq : quotedS (l.drop k) q = some (c, n)) : QuotIs l k q c (k + n) 1 := by
  constructor
  · unfold quotC; rw [if_neg h, hq]
  · unfold quotE; rw [if_neg h, hq]
  · unfold quotK; rw [if_neg h, hq]
theorem quot_end (l : List UInt8) (k : Nat) (q : Int) (h : rawAt l k < 0 ∨ rawAt l k = 10) : QuotIs l k q 0 k 0 :=
  quot_none l k q (by omega) (by unfold quotedS; rw [rawAt_drop, Nat.add_zero, if_pos h])
theorem quot_quote2 (l : List UInt8) (k : Nat) (q : Int) (hq : q = 39 ∨ q = 34) (h1 : rawAt l k = q) (h2 : rawAt l (k + 1) = q) : QuotIs l k q q (k + 2) 1 :=
  quot_some l k q q 2 (by omega) (by unfold quotedS; simp only [rawAt_drop, Nat.add_zero]; rw [if_neg (by omega), if_pos h1, if_pos h2])
theorem quot_quote1 (l : List UInt8) (k : Nat) (q : Int) (hq : q = 39 ∨ q = 34) (h1 : rawAt l k = q) (h2 : ¬rawAt l (k + 1) = q) : QuotIs l k q 0 k 0 :=
  quot_none l k q (by omega) (by unfold quotedS; simp only [rawAt_drop, Nat.add_zero]; rw [if_neg (by omega), if_pos h1, if_neg h2])
theorem quot_plain (l : List UInt8) (k : Nat) (q : Int) (h0 : ¬(rawAt l k < 0 ∨ rawAt l k = 10)) (h1 : ¬rawAt l k = q) (h2 : ¬rawAt l k = 92) : QuotIs l k q (rawAt l k) (k + 1) 1 :=
  quot_some l k q _ 1 (by omega) (by unfold quotedS; simp only [rawAt_drop, Nat.add_zero]; rw [if_neg h0, if_neg h1, if_pos h2])
theorem quot_une (l : List UInt8) (k : Nat) (q : Int) (hq : q = 39 ∨ q = 34) (h1 : rawAt l k = 92) (h2 : ¬rawAt l (k + 1) = 10) (hu : uneOk (rawAt l (k + 1)) = true) : QuotIs l k q (uneV (rawAt l (k + 1))) (k + 2) 1 :=
  quot_some l k q _ 2 (by omega) (by unfold quotedS; simp only [rawAt_drop, Nat.add_zero]; rw [if_neg (by omega), if_neg (by omega), if_neg (by omega), if_pos hu])
/-- The clamped number of the first digits. -/
def clampN (base : Int) (l : List UInt8) (j : Nat) : Nat := min (natOf base (l.take j)) 256
theorem clamp_step (base : Int) (h0 : 2 ≤ base) (h1 : base ≤ 36) (l : List UInt8) (j : Nat) (hj : j < span (isDig base) l) : (clampN base l (j + 1) : Int) = min ((clampN base l j : Int) * base + digV (rawAt l j) base) 256 ∧ 0 ≤ digV (rawAt l j) base ∧ digV (rawAt l j) base ≤ 36 := by
  obtain ⟨e, d0, d1⟩ := natOf_step base h0 h1 l j hj
  refine ⟨?_, d0, d1⟩
  unfold clampN
  generalize natOf base (l.take (j + 1)) = x at *
  generalize natOf base (l.take j) = y at *
  by_cases hy : y ≤ 256
  · rw [Nat.min_eq_left hy, ← e]; omega
  · have h2 : (256 : Int) * base ≤ y * base := Int.mul_le_mul_of_nonneg_right (by omega) (by omega)
    rw [Nat.min_eq_right (show 256 ≤ y by omega), Nat.min_eq_right (show 256 ≤ x by omega)]
    omega
/-- The sum of the digits so far, while it fits. -/
theorem fits_step (base : Int) (h0 : 2 ≤ base) (h1 : base ≤ 36) (sum v : Int) (hv0 : 0 ≤ v) (hv : v ≤ 36) : sum ≤ (9223372036854775808 - v).tdiv base ↔ sum * base + v ≤ 9223372036854775808 := by
  rw [Int.tdiv_eq_ediv_of_nonneg (by omega), Int.le_ediv_iff_mul_le (by omega)]; omega
theorem numR_quote (m l : List UInt8) (p : Nat) (h : rawAt m p = 48) (h2 : rawAt m (p + 1) = 39) : numR m l p = if quotK l (p + 2) 39 = 1 then ⟨4, [], quotC l (p + 2) 39, p, quotE l (p + 2) 39, 0⟩ else errR 7 := by
  unfold numR
  rw [if_pos ⟨h, h2⟩]
  by_cases hc : rawAt l (p + 2) = 92 ∧ rawAt l (p + 2 + 1) = 10
  · have Q := quot_cont l (p + 2) 39 hc.1 hc.2
    have hn : quotedS (l.drop (p + 2)) 39 = none := by
      have r1 : rawAt (l.drop (p + 2)) 1 = 10 := by rw [rawAt_drop]; exact hc.2
      have hx : escLen (l.drop (p + 2)) = 0 := by
        unfold escLen escBase escFrom
        rw [r1]
        simp only [show ¬(10 : Int) = 120 by decide, if_false, List.drop_drop]
        by_cases hl : p + 2 + 1 < l.length
        · have h10 := hc.2
          rw [rawAt_in _ _ hl] at h10
          exact span_no _ _ _ hl (by rw [h10]; decide +kernel)
        · exact span_end _ _ _ (by omega)
      unfold quotedS
      rw [r1, rawAt_drop, Nat.add_zero, hc.1, hx]
      rw [if_neg (by decide), if_neg (by decide), if_neg (by decide), if_neg (by decide +kernel), if_neg (by omega)]
    rw [hn, Q.k, if_neg (by decide)]
  · cases hq : quotedS (l.drop (p + 2)) 39 with
    | none => rw [(quot_none l (p + 2) 39 hc hq).k, if_neg (by decide)]
    | some ck =>
      obtain ⟨c, k⟩ := ck
      have Q := quot_some l (p + 2) 39 c k hc hq
      rw [Q.k, Q.c, Q.e, if_pos rfl]; simp
end Hb
namespace Hb
theorem quot_esc (l : List UInt8) (k : Nat) (q b : Int) (f : Nat) (hq : q = 39 ∨ q = 34) (h1 : rawAt l k = 92) (h2 : ¬rawAt l (k + 1) = 10) (hu : uneOk (rawAt l (k + 1)) = false)
    (hb : (if rawAt l (k + 1) = 120 then 16 else 8) = b) (hf : (if rawAt l (k + 1) = 120 then 2 else 1) = f) :
    (0 < span (isDig b) (l.drop (k + f)) → natOf b ((l.drop (k + f)).take (span (isDig b) (l.drop (k + f)))) ≤ 255 → rawAt l (k + f + span (isDig b) (l.drop (k + f))) = 92 → QuotIs l k q (natOf b ((l.drop (k + f)).take (span (isDig b) (l.drop (k + f))))) (k + f + span (isDig b) (l.drop (k + f)) + 1) 1) ∧
    (¬(0 < span (isDig b) (l.drop (k + f)) ∧ natOf b ((l.drop (k + f)).take (span (isDig b) (l.drop (k + f)))) ≤ 255 ∧ rawAt l (k + f + span (isDig b) (l.drop (k + f))) = 92) → QuotIs l k q 0 k 0) := by
  have r0 : rawAt (l.drop k) 0 = 92 := by rw [rawAt_drop, Nat.add_zero]; exact h1
  have r1 : rawAt (l.drop k) 1 = rawAt l (k + 1) := rawAt_drop _ _ _
  have eb : escBase (l.drop k) = b := by unfold escBase; rw [r1]; exact hb
  have ef : escFrom (l.drop k) = f := by unfold escFrom; rw [r1]; exact hf
  have el : escLen (l.drop k) = span (isDig b) (l.drop (k + f)) := by unfold escLen; rw [eb, ef, List.drop_drop]
  have en : escNum (l.drop k) = natOf b ((l.drop (k + f)).take (span (isDig b) (l.drop (k + f)))) := by unfold escNum; rw [eb, ef, el, List.drop_drop]
  have er : rawAt (l.drop k) (escFrom (l.drop k) + escLen (l.drop k)) = rawAt l (k + f + span (isDig b) (l.drop (k + f))) := by rw [ef, el, rawAt_drop, Nat.add_assoc]
  refine ⟨fun a1 a2 a3 => ?_, fun h => ?_⟩
  · have := quot_some l k q _ _ (fun hh => h2 hh.2) (esc_some1 (l.drop k) q r0 (by omega) (by rw [r1]; exact hu) ⟨by rw [el]; exact a1, by rw [en]; exact a2, by rw [er]; exact a3⟩)
    rw [en, ef, el] at this
    rw [show k + f + span (isDig b) (l.drop (k + f)) + 1 = k + (f + span (isDig b) (l.drop (k + f)) + 1) by omega]
    exact this
  · exact quot_none l k q (fun hh => h2 hh.2) (esc_none1 (l.drop k) q r0 (by omega) (by rw [r1]; exact hu) (by rw [er, el, en]; exact h))
theorem dig_step (b : Int) (l : List UInt8) (c j : Nat) (hj : j < span (isDig b) (l.drop c)) : digOk (rawAt l (c + j)) b = true ∧ c + j < l.length := by
  obtain ⟨h1, h2⟩ := span_rest _ _ _ hj
  rw [rawAt_drop] at h1
  rw [List.length_drop] at h2
  exact ⟨h1, by omega⟩
theorem dig_stop (b : Int) (l : List UInt8) (c : Nat) : digOk (rawAt l (c + span (isDig b) (l.drop c))) b = false := by
  have := span_stop (isDig b) (isDig_end b) (l.drop c)
  rw [rawAt_drop] at this
  exact this
end Hb
