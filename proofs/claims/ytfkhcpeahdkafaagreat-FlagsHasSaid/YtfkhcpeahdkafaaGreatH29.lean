/- Flags: Has is true of the six predicates alone, and Call refuses the others. -/
import Derived.Test.YtfkhcpeahdkafaaGreatH28
import Derived.Test.YtfkhcpeahdkafaaGreatH23
import Derived.Test.YtfkhcpeahdkafaaGreatH20
namespace Hb
open Go Go.RowKit
theorem defL_names : ∀ o ∈ defL, o.name.size ≤ 100 := by
  have h : (defL.all fun o => decide (o.name.size ≤ 100)) = true := by kernel_rfl
  intro o ho
  have := List.all_eq_true.1 h o ho
  exact of_decide_eq_true this
/-- The predicates' names and numbers of arguments. -/
theorem pIx_ar {s : ByteArray} {n : Int} (h : pIx s n < 6) : (n = 2 ∨ n = 3) ∧ s.size ≤ 100 := by
  obtain ⟨h1, h2⟩ := pIx_some h
  generalize pIx s n = k at *
  rcases (show k = 0 ∨ k = 1 ∨ k = 2 ∨ k = 3 ∨ k = 4 ∨ k = 5 by omega) with rfl | rfl | rfl | rfl | rfl | rfl <;> (rw [h1, h2]; exact ⟨by decide, by decide⟩)
theorem pIx_23 {s : ByteArray} {n : Nat} (h : pIx s n < 6) : (n = 3 ∧ (pIx s n = 0 ∨ pIx s n = 1)) ∨ (n = 2 ∧ (pIx s n = 2 ∨ pIx s n = 3 ∨ pIx s n = 4 ∨ pIx s n = 5)) := by
  obtain ⟨_, h2⟩ := pIx_some h
  generalize pIx s n = k at *
  rcases (show k = 0 ∨ k = 1 ∨ k = 2 ∨ k = 3 ∨ k = 4 ∨ k = 5 by omega) with rfl | rfl | rfl | rfl | rfl | rfl
  · have : (n : Int) = 3 := h2
    omega
  · have : (n : Int) = 3 := h2
    omega
  · have : (n : Int) = 2 := h2
    omega
  · have : (n : Int) = 2 := h2
    omega
  · have : (n : Int) = 2 := h2
    omega
  · have : (n : Int) = 2 := h2
    omega
def rsV (k : Nat) : List TR := (varL k).map fun t => (t, none, 0)
theorem rsV_len (k : Nat) : (rsV k).length = k := by simp [rsV, varL_len]
theorem rsV_snoc (k : Nat) : rsV (k + 1) = rsV k ++ [(.mk 0 (k : Int) ⟨#[]⟩ [], none, 0)] := by simp [rsV, varL_snoc]
theorem rsV_fst (k : Nat) : (rsV k).map (fun r : TR => r.1) = varL k := by simp [rsV, Function.comp_def]
theorem rsV_own {lo k : Nat} {e : TypeId} {w : World} {v : Value} (h : w.ownsRow lo e 4 v k (rowsC (rsV k))) : OwnR lo e w v (rsV k) where
  own := by rw [rsV_len]; exact h
  sub := fun r hr => by
    obtain ⟨t, ht, rfl⟩ := List.mem_map.1 hr
    obtain ⟨i, hi, rfl⟩ := List.mem_map.1 ht
    exact TmsK.nil
end Hb
namespace Go.Proofs.YtfkhcpeahdkafaaGreat
open Go.RowKit Hb Go.Shelf
set_option maxRecDepth 100000
theorem at_appMM {ops : Array Oper} {rest : List Oper} {a : Act} {Q : Exit → Act → World → Prop} {w : World} {d t p f x g} (h : wpList Tryz.prog ops Q (⟨d, .call { callee := .builtin .append, args := x, argTypes := #[24, 24] }, t, p, f, g⟩ :: rest) a w) : wpList Tryz.prog ops Q (⟨d, .call { callee := .builtin .append, args := x, argTypes := #[24, 24] }, t, p, f, g⟩ :: rest) a w := h
theorem law_variable (n : Int) (w : World) : Calls Tryz.prog 40 #[.int .i64 n] w fun e w' => e = .returned (.agg #[.int .i64 0, .int .i64 n, .string ⟨#[]⟩, .slice none 0 0]) ∧ Below w.heap.size w w' := by
  have hB := (Below.refl w.heap.size w).alloc (Nat.le_refl _) (.cells #[.int .i64 0, .int .i64 n, .string ⟨#[]⟩, .slice none 0 0] 26)
  go_enter Tryz.func40, Tryz.ntmps40
  go_wp2_with fail
  exact bodyPost_ret (v := .agg #[.int .i64 0, .int .i64 n, .string ⟨#[]⟩, .slice none 0 0]) (by simp [results, Tryz.results40, go_sem]) rfl ⟨rfl, hB⟩
/-- Call at a goal with variables. -/
theorem call_goalV (s : ByteArray) (n : Nat) (h1 : 1 ≤ n) (h8 : n ≤ 8) (hs : s.size ≤ 100) (g cap : Nat) (A : Option Addr) (ac : Nat) (w : World) (hTab : Tab w (some ⟨g, 0, none⟩) 41 cap defL) (hA : TmsAt w.heap.size w A (varL n)) :
    Calls Tryz.prog 30 #[.agg #[.slice (some ⟨g, 0, none⟩) 41 cap, .int .i64 1, .int .i64 1, .bool false, .bool false, .slice none 0 0], .agg #[.int .i64 3, .int .i64 0, .string s, .slice A n ac]] w fun e w' => ∃ r : RV, e = .returned r.val ∧ (r.er = 4 ↔ hasP s n = false) ∧ Below w.heap.size w w' := by
  have hp0 : Pairs w none [] := Pairs.nil _ _
  have hf : flOk ⟨1, 1, false, false⟩ = true := by decide
  have hv : validT (.mk 3 0 s (varL n)) = true := goalV_valid h1 h8 hs
  have hsm : sameT (.mk 3 0 s (varL n)) (canT (.mk 3 0 s (varL n))) = true := goalV_same h1 h8 hs
  by_cases hix : pIx s n < 6
  · have hhas : hasP s n = true := decide_eq_true hix
    refine (f_call_run (fun W w' r => r.er ≠ 4) (some ⟨g, 0, none⟩) 41 cap 1 1 false false none 0 0 0 s A n ac (varL n) defL [] w hTab (by decide) ex_opsV hf rfl rfl hp0 (fun _ => .inl rfl) (by decide) (varL_len n).symm h8 (by unfold maxLen; omega) hA hv hsm hix fun W OB oB CB cB hB hT hP hlt => ?_).mono fun e w' h => ?_
    · have hAW : TmsAt W.heap.size W A (varL n) := (hA.keep hB).mono hB.size
      rcases pIx_23 hix with ⟨rfl, h | h⟩ | ⟨rfl, h | h | h | h⟩ <;> rw [h]
      · refine (f_setOps_v OB 41 oB 1 1 false false CB 0 cB 3 0 s A ac (.mk 0 0 ⟨#[]⟩ []) (.mk 0 1 ⟨#[]⟩ []) (.mk 0 2 ⟨#[]⟩ []) W hAW (by rw [leaf_valid rfl]; kernel_rfl) rfl).mono fun e w' h => ?_
        obtain ⟨A', c', he, hb, _⟩ := h
        exact ⟨_, he, hb, show (8 : Int) ≠ 4 by decide⟩
      · refine (f_listOps_v OB 41 oB 1 1 false false CB 0 cB 3 0 s A ac (.mk 0 0 ⟨#[]⟩ []) (.mk 0 1 ⟨#[]⟩ []) (.mk 0 2 ⟨#[]⟩ []) defL W hT (by decide) defL_names hAW rfl rfl rfl).mono fun e w' h => ?_
        obtain ⟨A', c', he, hb, _⟩ := h
        exact ⟨_, he, hb, show (0 : Int) ≠ 4 by decide⟩
      · refine (f_setConv_v OB 41 oB 1 1 false false CB 0 cB 3 0 s A ac (varL 2) W hAW rfl).mono fun e w' h => ?_
        obtain ⟨A', c', he, hb, _⟩ := h
        exact ⟨_, he, hb, show (8 : Int) ≠ 4 by decide⟩
      · refine (f_listConv_v OB 41 oB 1 1 false false CB cB 3 0 s A ac (.mk 0 0 ⟨#[]⟩ []) (.mk 0 1 ⟨#[]⟩ []) W hAW rfl rfl).mono fun e w' h => ?_
        exact ⟨_, h.1, h.2, show (0 : Int) ≠ 4 by decide⟩
      · refine (f_setFlag_v OB 41 oB 1 1 false false CB 0 cB 3 0 s A ac (.mk 0 0 ⟨#[]⟩ []) (.mk 0 1 ⟨#[]⟩ []) W hAW rfl).mono fun e w' h => ?_
        obtain ⟨A', c', he, hb, _⟩ := h
        exact ⟨_, he, hb, show (8 : Int) ≠ 4 by decide⟩
      · refine (f_listFlags_v OB 41 oB 1 1 false false CB 0 cB 3 0 s A ac 0 [] (.mk 0 1 ⟨#[]⟩ []) W hf hAW).mono fun e w' h => ?_
        obtain ⟨A', c', he, hb, _⟩ := h
        exact ⟨_, he, hb, show (0 : Int) ≠ 4 by decide⟩
    · obtain ⟨r, W, w8, he, hB, _, hr⟩ := h
      refine ⟨_, he, ?_, hB⟩
      rw [hhas]
      constructor
      · intro h4
        split at h4
        · exact absurd (show (0 : Int) = 4 from h4) (by decide)
        · exact absurd h4 hr
      · intro h; cases h
  · have hhas : hasP s n = false := decide_eq_false hix
    refine (f_call_none (some ⟨g, 0, none⟩) 41 cap 1 1 false false none 0 0 3 0 s A n ac (varL n) defL [] w hTab rfl (by decide) hp0 (varL_len n).symm hA (by rw [ex_opsV, hf]; rfl) hv hsm (by unfold maxLen; omega) h8 hix).mono fun e w' h => ?_
    refine ⟨rvB 0 0 ⟨#[]⟩ none 0 0 4, h.1, ?_, h.2⟩
    rw [hhas]
    exact ⟨fun _ => rfl, fun _ => rfl⟩
set_option maxHeartbeats 6400000 in
theorem law_has (s : ByteArray) (n : Int) (hs : s.size ≤ maxLen) (hn : (Lit.int .i64 n).wf = true) (w : World) :
    Calls Tryz.prog 9 #[.string s, .int .i64 n] w fun e w' => e = .returned (.bool true) ∧ Below w.heap.size w w' := by
  have HR8 := Lib.hid (fun W => r8_has s n W)
  have HFH := Lib.hid (fun W => f_has s n hs hn W)
  have HAR : Hid (hasP s n = true → (n = 2 ∨ n = 3) ∧ s.size ≤ 100) := Lib.hid fun h => pIx_ar (of_decide_eq_true h)
  have HCG : Hid (∀ k : Nat, n = k → 1 ≤ k → k ≤ 8 → s.size ≤ 100 → ∀ (g cap : Nat) (A : Option Addr) (ac : Nat) (W : World), Tab W (some ⟨g, 0, none⟩) 41 cap defL → TmsAt W.heap.size W A (varL k) →
      Calls Tryz.prog 30 #[.agg #[.slice (some ⟨g, 0, none⟩) 41 cap, .int .i64 1, .int .i64 1, .bool false, .bool false, .slice none 0 0], .agg #[.int .i64 3, .int .i64 0, .string s, .slice A k ac]] W fun e w' => ∃ r : RV, e = .returned r.val ∧ (r.er = 4 ↔ hasP s n = false) ∧ Below W.heap.size W w') := Lib.hid fun k hk h1 h8 h100 g cap A ac W hT hA => by
    subst hk
    exact call_goalV s k h1 h8 h100 g cap A ac W hT hA
  generalize hasP s n = r at *
  obtain ⟨i, HIT⟩ : ∃ i, Hid (i = s.size) := ⟨_, Lib.hid rfl⟩
  clear hs hn
  go_enter Tryz.func9, Tryz.ntmps9
  go_wp2_with fail
  refine (HR8.out _).mono ?_; rintro e w1 ⟨rfl, hB1⟩
  have HB1 := Lib.hid hB1
  clear hB1
  go_wp2_with fail
  refine (HFH.out _).mono ?_; rintro e w2 ⟨rfl, hB2⟩
  have HB2 := Lib.hid (HB1.out.trans (hB2.mono HB1.out.size))
  clear hB2 HB1 HR8 HFH
  have trr : (!(r == r)) = false := by simp
  have trr2 : decide (r = r) = true := by simp
  go_wp2_with fail
  refine (law_example _).mono ?_; rintro e w3 ⟨rfl, hB3⟩
  have HB3 := Lib.hid (HB2.out.trans (hB3.mono HB2.out.size))
  clear hB3 HB2 trr trr2
  by_cases c1 : n < 1
  · have HRF : Hid (r = false) := Lib.hid (by
      cases r
      · rfl
      · have := (HAR.out rfl).1; omega)
    have t1 : decide (n < 1) = true := decide_eq_true c1
    clear HAR HCG c1
    go_wp2_with fail
    go_ret
    exact ⟨ret_bool (by rw [HRF.out]; rfl), HB3.out⟩
  have t1 : decide (n < 1) = false := decide_eq_false c1
  by_cases c2 : 8 < n
  · have HRF : Hid (r = false) := Lib.hid (by
      cases r
      · rfl
      · have := (HAR.out rfl).1; omega)
    have t2 : decide (8 < n) = true := decide_eq_true c2
    clear HAR HCG c1 c2
    go_wp2_with fail
    go_ret
    exact ⟨ret_bool (by rw [HRF.out]; rfl), HB3.out⟩
  have t2 : decide (8 < n) = false := decide_eq_false c2
  by_cases c3 : 100 < s.size
  · have HRF : Hid (r = false) := Lib.hid (by
      cases r
      · rfl
      · have := (HAR.out rfl).2; omega)
    have t3 : decide ((100 : Int) < (s.size : Int)) = true := decide_eq_true (by omega)
    clear HAR HCG c1 c2 c3
    go_wp2_with fail
    go_ret
    exact ⟨ret_bool (by rw [HRF.out]; rfl), HB3.out⟩
  have t3 : decide ((100 : Int) < (s.size : Int)) = false := decide_eq_false (by omega)
  obtain ⟨K, rfl⟩ : ∃ K : Nat, n = K := ⟨n.toNat, by omega⟩
  have HK1 : Hid (1 ≤ K) := Lib.hid (by omega)
  have hK8 : K ≤ 8 := by omega
  have HCK := Lib.hid (HCG.out K rfl HK1.out hK8 (by omega))
  clear HAR HCG c1 c2 c3
  go_wp2_with fail
  go_loopw [6, 7] (fun v i wr => ∃ k : Nat, k ≤ K ∧ i = .int .i64 k ∧ Hid (Below w3.heap.size w3 wr) ∧ Hid (wr.ownsRow w3.heap.size 26 4 v k (rowsC (rsV k)))) (fun _ i _ => K - (intOf i).toNat)
  case atStart => exact ⟨0, Nat.zero_le _, rfl, Lib.hid (Below.refl _ _), Lib.hid (World.ownsRow_nil _ _ _ _)⟩
  case round =>
    obtain ⟨k, hk, rfl, HB, HO⟩ := hrel
    by_cases hlt : k < K
    · have hk0 : (0 : Int) ≤ (k : Int) := by omega
      have hk1 : (k : Int) < (K : Int) := by omega
      have hk5 : (k : Int) + 1 ≤ 8 := by omega
      go_wp2_with fail
      refine (law_variable _ _).mono ?_; rintro e w4 ⟨rfl, hB4⟩
      have HO4 := Lib.hid (own_below HO.out hB4)
      have HB4 := Lib.hid (HB.out.trans (hB4.mono HB.out.size))
      clear hB4
      go_wp2_with ((with_reducible refine at_appMM ?_); go_must (refine wpList_append_one rfl _ _ 24 26 rfl Tryz.underlying24 _ 4 56 infoTm rfl (by decide) w3.heap.size _ _ _ rfl _ HO4.out #[.int .i64 0, .int .i64 k, .string ⟨#[]⟩, .slice none 0 0] rfl (by simp [Value.oneCell']) rfl rfl (by omega) (by omega) HB4.out.size ?_; intro v5 w5 ho5 hB5 hg5; have HO5 := Lib.hid ho5; have HB5 := Lib.hid hB5; clear ho5 hB5 hg5))
      go_roundw
      case rel =>
        refine ⟨k + 1, by omega, by go_num, Lib.hid (HB4.out.trans HB5.out), Lib.hid ?_⟩
        have h := HO5.out
        rw [show rowsC (rsV k) ++ #[Value.int .i64 0, .int .i64 k, .string ⟨#[]⟩, .slice none 0 0].toList = rowsC (rsV (k + 1)) by rw [rsV_snoc, rowsC_app]; rfl] at h
        exact h
      case measure => simp [intOf] <;> omega
    · have hkK : k = K := by omega
      subst hkK
      obtain ⟨A, ac, rfl, hTM⟩ := (rsV_own HO.out).tms
      rw [rsV_len]
      rw [rsV_fst] at hTM
      have HTM := Lib.hid (hTM.at (fun b hb => hb.2))
      have HBW := Lib.hid (HB3.out.trans (HB.out.mono HB3.out.size))
      clear hTM HO HB HB3
      go_wp2_with fail
      refine (f_start _).mono ?_; rintro e w6 ⟨g, cap, rfl, hB6, hT6⟩
      have HB6 := Lib.hid (HBW.out.trans (hB6.mono HBW.out.size))
      have HTM6 := Lib.hid ((HTM.out.keep hB6).mono hB6.size)
      have HT6 := Lib.hid hT6
      clear hB6 hT6 HTM HBW
      go_wp2_with fail
      refine (law_goal _ _ _ _ _).mono ?_; rintro e w7 ⟨rfl, hB7⟩
      have HB7 := Lib.hid (HB6.out.trans (hB7.mono HB6.out.size))
      have HCL := Lib.hid (HCK.out g cap A ac w7 (HT6.out.below hB7) ((HTM6.out.keep hB7).mono hB7.size))
      clear hB7 HB6 HTM6 HT6 HCK
      go_wp2_with fail
      refine HCL.out.mono ?_; rintro e w8 ⟨rv, rfl, hrv, hB8⟩
      have HB8 := Lib.hid (HB7.out.trans (hB8.mono HB7.out.size))
      have HRV := Lib.hid hrv
      clear hB8 hrv HB7 HCL
      obtain ⟨oa, on1, oc1, q1, u1, c1, d1, ca1, cn1, cc1, ra, rn, rc, bk, bn, bs, ba, bz, bc, er⟩ := rv
      unfold RV.val
      dsimp only at HRV ⊢
      go_wp2_with fail
      go_ret
      exact ⟨ret_bool (by
        have h := HRV.out
        cases r
        · have e4 : er = 4 := h.2 rfl
          subst e4; rfl
        · have e4 : (er == 4) = false := by
            rw [beq_eq_false_iff_ne]
            intro e
            exact absurd (h.1 e) (by decide)
          rw [e4]; rfl), (HB8.out.alloc HB8.out.size _).alloc (by have := HB8.out.size; simp; omega) _⟩
end Go.Proofs.YtfkhcpeahdkafaaGreat
