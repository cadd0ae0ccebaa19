/- Flags: what Set keeps, in plain words. -/
import Derived.Test.YtfkhcpeahdkafaaGreatM19
namespace Hb
open Go Go.RowKit
theorem leaf_valid {t : Tm} (h : t.args = []) : validT t = nodeOk t := by
  obtain ⟨k, n, s, l⟩ := t
  have hl : l = [] := h
  subst hl
  unfold validT
  rw [ex_one _ rfl, ex_leaf]
  simp
theorem fVal_args (f : FlR) (k : Nat) (hk : k < 9) : (fVal f k).args = [] := by
  unfold fVal
  split
  · exact fFx_args k hk
  · rfl
/-- The flags that are valid. -/
theorem flOk_cases {f : FlR} (h : flOk f = true) : ∃ c d, f = ⟨1, 1, c, d⟩ ∨ f = ⟨2, 1, c, d⟩ ∨ f = ⟨3, 1, c, d⟩ ∨ f = ⟨1, 2, c, d⟩ ∨ f = ⟨2, 2, c, d⟩ ∨ f = ⟨3, 2, c, d⟩ := by
  obtain ⟨q, u, c, d⟩ := f
  unfold flOk at h
  simp at h
  obtain ⟨h1, h2, h3⟩ := h
  refine ⟨c, d, ?_⟩
  rcases (show q = 1 ∨ q = 2 ∨ q = 3 by omega) with rfl | rfl | rfl <;> rcases h3 with rfl | rfl <;> simp
theorem fVal_valid {f : FlR} (h : flOk f = true) (k : Nat) (hk : k < 9) : validT (fVal f k) = true := by
  rw [leaf_valid (fVal_args f k hk)]
  obtain ⟨c, d, h⟩ := flOk_cases h
  rcases h with rfl | rfl | rfl | rfl | rfl | rfl <;>
  rcases (show k = 0 ∨ k = 1 ∨ k = 2 ∨ k = 3 ∨ k = 4 ∨ k = 5 ∨ k = 6 ∨ k = 7 ∨ k = 8 by omega) with rfl | rfl | rfl | rfl | rfl | rfl | rfl | rfl | rfl <;>
  cases c <;> cases d <;> decide +kernel
theorem fSet_other (f : FlR) (k j : Nat) (i : Int) (hj : j < 9) (hne : j ≠ k) : fVal (fSet f k i) j = fVal f j := by
  by_cases h1 : k = 1
  · subst h1
    rcases (show j = 0 ∨ j = 2 ∨ j = 3 ∨ j = 4 ∨ j = 5 ∨ j = 6 ∨ j = 7 ∨ j = 8 by omega) with rfl | rfl | rfl | rfl | rfl | rfl | rfl | rfl <;> rfl
  · by_cases h2 : k = 2
    · subst h2
      rcases (show j = 0 ∨ j = 1 ∨ j = 3 ∨ j = 4 ∨ j = 5 ∨ j = 6 ∨ j = 7 ∨ j = 8 by omega) with rfl | rfl | rfl | rfl | rfl | rfl | rfl | rfl <;> rfl
    · by_cases h3 : k = 3
      · subst h3
        rcases (show j = 0 ∨ j = 1 ∨ j = 2 ∨ j = 4 ∨ j = 5 ∨ j = 6 ∨ j = 7 ∨ j = 8 by omega) with rfl | rfl | rfl | rfl | rfl | rfl | rfl | rfl <;> rfl
      · by_cases h8 : k = 8
        · subst h8
          rcases (show j = 0 ∨ j = 1 ∨ j = 2 ∨ j = 3 ∨ j = 4 ∨ j = 5 ∨ j = 6 ∨ j = 7 by omega) with rfl | rfl | rfl | rfl | rfl | rfl | rfl | rfl <;> rfl
        · unfold fSet
          rw [if_neg h1, if_neg h2, if_neg h3, if_neg h8]
theorem idxFromS_get (x : ByteArray) : ∀ (zs : List ByteArray) (i : Nat), 0 ≤ Lib.idxFromS zs x i → (i : Int) ≤ Lib.idxFromS zs x i ∧ Lib.idxFromS zs x i < i + zs.length ∧ zs.getD (Lib.idxFromS zs x i - i).toNat ⟨#[]⟩ = x
  | [], i, h => by simp [Lib.idxFromS] at h
  | z :: zs, i, h => by
    unfold Lib.idxFromS at h ⊢
    split
    · rename_i e
      subst e
      refine ⟨by omega, by simp; omega, ?_⟩
      simp
    · rename_i e
      rw [if_neg e] at h
      obtain ⟨h1, h2, h3⟩ := idxFromS_get x zs (i + 1) h
      refine ⟨by omega, by simp at h2 ⊢; omega, ?_⟩
      rw [show (Lib.idxFromS zs x (i + 1) - (i : Int)).toNat = (Lib.idxFromS zs x (i + 1) - ((i + 1 : Nat) : Int)).toNat + 1 by omega]
      simpa using h3
theorem setI_get {k : Nat} {s : ByteArray} (h : 0 ≤ setI k s) : setI k s < (fVL k).length ∧ (fVL k).getD (setI k s).toNat ⟨#[]⟩ = s := by
  obtain ⟨h1, h2, h3⟩ := idxFromS_get s (fVL k) 0 h
  refine ⟨by unfold setI Lib.idxOfS; omega, ?_⟩
  unfold setI Lib.idxOfS
  simpa using h3
/-- The value that was set. -/
theorem fSet_at (f : FlR) (k : Nat) (i : Int) (hk : k = 1 ∨ k = 2 ∨ k = 3 ∨ k = 8) (h0 : 0 ≤ i) (hi : i < (fVL k).length) : fVal (fSet f k i) k = atomT ((fVL k).getD i.toNat ⟨#[]⟩) := by
  rcases hk with rfl | rfl | rfl | rfl
  · have : i < 2 := hi
    rcases (show i = 0 ∨ i = 1 by omega) with rfl | rfl <;> rfl
  · have : i < 2 := hi
    rcases (show i = 0 ∨ i = 1 by omega) with rfl | rfl <;> rfl
  · have : i < 3 := hi
    rcases (show i = 0 ∨ i = 1 ∨ i = 2 by omega) with rfl | rfl | rfl <;> rfl
  · have : i < 2 := hi
    rcases (show i = 0 ∨ i = 1 by omega) with rfl | rfl <;> rfl
theorem fSet_ok {f : FlR} (hf : flOk f = true) (k : Nat) (i : Int) (hk : k = 1 ∨ k = 2 ∨ k = 3 ∨ k = 8) (h0 : 0 ≤ i) (hi : i < (fVL k).length) : flOk (fSet f k i) = true := by
  rcases hk with rfl | rfl | rfl | rfl
  · exact hf
  · exact hf
  · have : i < 3 := hi
    unfold flOk at hf ⊢
    simp [fSet] at hf ⊢
    exact ⟨by omega, by omega, hf.2.2⟩
  · have : i < 2 := hi
    unfold flOk at hf ⊢
    simp [fSet] at hf ⊢
    exact ⟨hf.1, hf.2.1, by omega⟩
/-- A flag's own value is one of its values. -/
theorem own_at {f : FlR} (hf : flOk f = true) (k : Nat) (hk : k = 1 ∨ k = 2 ∨ k = 3 ∨ k = 8) : setI k (fVal f k).name = fGet f k ∧ 0 ≤ fGet f k ∧ fSet f k (fGet f k) = f ∧ (fVal f k).kind = 2 := by
  obtain ⟨c, d, h⟩ := flOk_cases hf
  rcases h with rfl | rfl | rfl | rfl | rfl | rfl <;> rcases hk with rfl | rfl | rfl | rfl <;> cases c <;> cases d <;> exact ⟨by decide +kernel, by decide, rfl, rfl⟩
theorem atom_of {t : Tm} (hv : validT t = true) (hk : t.kind = 2) : t = atomT t.name := by
  have h := ((validT_iff t).1 hv).2
  rw [Tm.allOk_eq, Bool.and_eq_true] at h
  have h1 := h.1
  obtain ⟨k, n, s, l⟩ := t
  have hk' : k = 2 := hk
  subst hk'
  unfold nodeOk at h1
  simp [Tm.kind, Tm.num, Tm.args] at h1
  obtain ⟨⟨h1, _⟩, h3⟩ := h1
  subst h1; subst h3
  rfl
theorem sameT_refl {t : Tm} (h : validT t = true) : sameT t t = true := by
  unfold sameT
  rw [h, eqT_yes rfl]
  rfl
theorem getE_ok {f : FlR} (h : flOk f = true) (j : Nat) (hj : fIx (fN j) < 9) : getE f (fN j) = 0 := by
  unfold getE
  rw [if_pos h, if_pos hj]
theorem fIx_fN (j : Nat) (hj : j < 9) : fIx (fN j) = j := by
  rcases (show j = 0 ∨ j = 1 ∨ j = 2 ∨ j = 3 ∨ j = 4 ∨ j = 5 ∨ j = 6 ∨ j = 7 ∨ j = 8 by omega) with rfl | rfl | rfl | rfl | rfl | rfl | rfl | rfl | rfl <;> kernel_rfl
theorem fIx_lt {s : ByteArray} (h : fIx s < 9) : s.toList = (fN (fIx s)).toList := by
  unfold fIx at h ⊢
  split <;> try assumption
  split <;> try assumption
  split <;> try assumption
  split <;> try assumption
  split <;> try assumption
  split <;> try assumption
  split <;> try assumption
  split <;> try assumption
  split <;> try assumption
  simp_all
/-- After a Set that has succeeded. -/
structure Kept (f : FlR) (s : ByteArray) (t : Tm) : Prop where
  okf : flOk f = true
  okg : flOk (setF f s t) = true
  e : getE (setF f s t) s = 0
  v : sameT (getT (setF f s t) s) t = true
  ef : ∀ j, j < 9 → getE f (fN j) = 0
  eg : ∀ j, j < 9 → getE (setF f s t) (fN j) = 0
  vs : ∀ j, j < 9 → ¬ (fN j).toList = s.toList → sameT (getT f (fN j)) (getT (setF f s t) (fN j)) = true
theorem set_kept {f : FlR} {s : ByteArray} {t : Tm} (h : setE f s t = 0) : Kept f s t := by
  have hF : setF f s t = fSet f (fIx s) (setI (fIx s) t.name) := by unfold setF; rw [if_pos h]
  unfold setE at h
  split at h
  · rename_i hv
    obtain ⟨hf, hv⟩ := hv
    split at h
    · rename_i hx
      split at h
      · cases h
      · rename_i hL
        split at h
        · rename_i hk
          obtain ⟨hk, h0⟩ := hk
          have hks := fVL_ks _ hx hL
          obtain ⟨hl, hg⟩ := setI_get h0
          have hok : flOk (setF f s t) = true := by rw [hF]; exact fSet_ok hf _ _ hks h0 hl
          have hT : ∀ (g : FlR) (j : Nat), flOk g = true → j < 9 → getT g (fN j) = fVal g j := fun g j hg hj => by
            unfold getT
            rw [if_pos hg, fIx_fN j hj, if_pos hj]
          refine ⟨hf, hok, ?_, ?_, fun j hj => getE_ok hf j (by rw [fIx_fN j hj]; exact hj), fun j hj => getE_ok hok j (by rw [fIx_fN j hj]; exact hj), fun j hj hne => ?_⟩
          · unfold getE; rw [if_pos hok, if_pos hx]
          · have : getT (setF f s t) s = t := by
              unfold getT
              rw [if_pos hok, if_pos hx, hF, fSet_at f _ _ hks h0 hl, hg]
              exact (atom_of hv hk).symm
            rw [this]
            exact sameT_refl hv
          · rw [hT f j hf hj, hT _ j hok hj, hF, fSet_other f _ j _ hj (fun e => hne (by rw [e]; exact (fIx_lt hx).symm))]
            exact sameT_refl (fVal_valid hf j hj)
        · cases h
    · cases h
  · cases h
/-- A flag's own value is set, or it may not be. -/
theorem set_own {f : FlR} {s : ByteArray} (h : getE f s = 0) : setE f s (getT f s) = 5 ∨ (setE f s (getT f s) = 0 ∧ setF f s (getT f s) = f) := by
  unfold getE at h
  split at h
  · rename_i hf
    split at h
    · rename_i hx
      have hT : getT f s = fVal f (fIx s) := by unfold getT; rw [if_pos hf, if_pos hx]
      rw [hT]
      have hv := fVal_valid hf (fIx s) hx
      by_cases hL : fVL (fIx s) = []
      · left
        unfold setE
        rw [if_pos ⟨hf, hv⟩, if_pos hx, if_pos hL]
      · obtain ⟨h1, h2, h3, h4⟩ := own_at hf _ (fVL_ks _ hx hL)
        have hE : setE f s (fVal f (fIx s)) = 0 := by
          unfold setE
          rw [if_pos ⟨hf, hv⟩, if_pos hx, if_neg hL, if_pos ⟨h4, by rw [h1]; exact h2⟩]
        refine .inr ⟨hE, ?_⟩
        unfold setF
        rw [if_pos hE, h1, h3]
    · cases h
  · cases h
theorem getT_args (f : FlR) (s : ByteArray) : (getT f s).args = [] := by
  unfold getT
  split
  · split
    · rename_i h; exact fVal_args f _ h
    · rfl
  · rfl
end Hb
