/- Plain laws: a token reads the same with more text behind it that does not glue to it; joined tokens are read back. -/
import Derived.Test.YtmjeajfakhmakaaDoorIntsS
import Derived.Test.YtmjeajfakhmakaaDoorLayS
namespace Hb
theorem raw_app1 (t R : List UInt8) (i : Nat) (h : i < t.length) : rawAt (t ++ R) i = rawAt t i := by
  rw [rawAt_in _ _ (by simp; omega), rawAt_in _ _ h, ← bAt_get _ _ (by simp; omega), ← bAt_get _ _ h, List.getElem_append_left h]
theorem raw_app2 (t R : List UInt8) : rawAt (t ++ R) t.length = rawAt R 0 := by
  have := rawAt_drop (t ++ R) t.length 0
  rw [List.drop_left, Nat.add_zero] at this; exact this.symm
theorem span_app (q : Int → Bool) (t R : List UInt8) (h : every q t = true) (hR : q (rawAt R 0) = false) : span q (t ++ R) = t.length := by
  induction t with
  | nil =>
    rw [List.nil_append]
    match R, hR with
    | [], _ => rfl
    | b :: R, hR => rw [rawAt_cons] at hR; rw [span, hR]; rfl
  | cons b t ih =>
    unfold every at h ih
    rw [List.all_cons, Bool.and_eq_true] at h
    rw [List.cons_append, span, if_pos h.1, ih h.2]; rfl
theorem span_app_lt (q : Int → Bool) (t R : List UInt8) (h : span q t < t.length) : span q (t ++ R) = span q t := by
  induction t with
  | nil => simp [span] at h
  | cons b t ih =>
    rw [List.cons_append, span, span]
    rw [span] at h
    by_cases hb : q (b.toNat : Int) = true
    · rw [if_pos hb] at h ⊢
      rw [if_pos hb, ih (by simpa using h)]
    · rw [if_neg hb, if_neg hb]
theorem span_full (q : Int → Bool) (t : List UInt8) (h : span q t = t.length) : every q t = true := (span_all q t).1 h
/-- No layout text is wanted between these. -/
structure NoGlue (t R : List UInt8) : Prop where
  a : alnum (rawAt t (t.length - 1)) = true → alnum (rawAt R 0) = false
  s : isSym (rawAt t (t.length - 1)) = true → isSym (rawAt R 0) = false
  q : cls (rawAt t (t.length - 1)) = 7 → ¬rawAt t (t.length - 1) = rawAt R 0
  z : t = [48] → ¬rawAt R 0 = 39
theorem alnum_neg : alnum (-1) = false := by decide +kernel
theorem isSym_neg : isSym (-1) = false := by decide +kernel
/-- Digits are alphanumeric. -/
theorem dig_alnum (b : Nat) (hb : okBase b) (c : Int) (h : isDig (b : Int) c = true) : alnum c = true := by
  have hb2 := base_lo b hb
  unfold isDig at h
  rw [digOk_dgt _ _ (by omega) (by omega)] at h
  have h : dgt c < (b : Int) := by simpa using h
  have hc : (48 ≤ c ∧ c ≤ 57) ∨ (97 ≤ c ∧ c ≤ 122) ∨ (65 ≤ c ∧ c ≤ 90) := by unfold dgt at h; grind
  unfold alnum cls
  grind
theorem last_every (q : Int → Bool) (t : List UInt8) (h : every q t = true) (h0 : 0 < t.length) : q (rawAt t (t.length - 1)) = true := every_at q t h _ (by omega)
theorem dig_stop (b : Nat) (hb : okBase b) (c : Int) (h : alnum c = false) : isDig (b : Int) c = false := by
  cases hd : isDig (b : Int) c with
  | false => rfl
  | true => rw [dig_alnum b hb c hd] at h; cases h
theorem raw_last_drop (t : List UInt8) (k : Nat) (h : k < t.length) : rawAt (t.drop k) ((t.drop k).length - 1) = rawAt t (t.length - 1) := by
  rw [rawAt_drop, List.length_drop]; congr 1; omega
theorem escBase_ok (l : List UInt8) : ∃ b : Nat, okBase b ∧ escBase l = (b : Int) := by
  unfold escBase; split
  · exact ⟨16, .inr (.inr (.inr rfl)), rfl⟩
  · exact ⟨8, .inr (.inl rfl), rfl⟩
/-- A quoted character reads the same with more text behind it. -/
theorem quotedS_app (l R : List UInt8) (q c : Int) (k : Nat) (hq : 0 ≤ q ∧ q ≤ 255) (h : quotedS l q = some (c, k)) : quotedS (l ++ R) q = some (c, k) := by
  have hok := quotedS_ok l q c k hq h
  have r0 : rawAt (l ++ R) 0 = rawAt l 0 := raw_app1 _ _ _ (by omega)
  have n0 := rawAt_neg l 0
  unfold quotedS at h ⊢
  rw [r0]
  by_cases h1 : rawAt l 0 < 0 ∨ rawAt l 0 = 10
  · rw [if_pos h1] at h; cases h
  rw [if_neg h1] at h ⊢
  by_cases h2 : rawAt l 0 = q
  · rw [if_pos h2] at h ⊢
    by_cases h3 : rawAt l 1 = q
    · have := rawAt_neg l 1
      rw [raw_app1 _ _ _ (by omega), if_pos h3]
      rw [if_pos h3] at h; exact h
    · rw [if_neg h3] at h; cases h
  rw [if_neg h2] at h ⊢
  by_cases h3 : rawAt l 0 ≠ 92
  · rw [if_pos h3] at h ⊢; exact h
  rw [if_neg h3] at h ⊢
  by_cases h4 : uneOk (rawAt l 1) = true
  · have := une_bd _ h4
    have := rawAt_neg l 1
    rw [if_pos h4] at h
    rw [raw_app1 _ _ _ (by omega), if_pos h4]; exact h
  rw [if_neg h4] at h
  by_cases h5 : 0 < escLen l ∧ escNum l ≤ 255 ∧ rawAt l (escFrom l + escLen l) = 92
  · have n2 := rawAt_neg l (escFrom l + escLen l)
    have hf1 : 1 ≤ escFrom l := by unfold escFrom; split <;> omega
    have r1 : rawAt (l ++ R) 1 = rawAt l 1 := raw_app1 _ _ _ (by omega)
    have eb : escBase (l ++ R) = escBase l := by unfold escBase; rw [r1]
    have ef : escFrom (l ++ R) = escFrom l := by unfold escFrom; rw [r1]
    have el : escLen (l ++ R) = escLen l := by
      unfold escLen; rw [eb, ef, List.drop_append_of_le_length (by omega)]
      refine span_app_lt _ _ _ ?_
      rw [List.length_drop]; show escLen l < _; omega
    have en : escNum (l ++ R) = escNum l := by
      unfold escNum; rw [eb, ef, el, List.drop_append_of_le_length (by omega), List.take_append_of_le_length (by rw [List.length_drop]; omega)]
    rw [if_pos h5] at h
    rw [r1, if_neg h4, el, en, ef, raw_app1 _ _ _ (by omega), if_pos h5]; exact h
  · rw [if_neg h5] at h; cases h
theorem item_last (q : Int) (hq : 0 ≤ q ∧ q ≤ 255) : ∀ (f : Nat) (l : List UInt8) (s : List UInt8) (k : Nat), itemF f l q = some (s, k) → rawAt l k = q
  | 0, _, _, _, h => by cases h
  | f + 1, l, s, k, h => by
    unfold itemF at h
    by_cases a1 : rawAt l 0 = q ∧ ¬rawAt l 1 = q
    · rw [if_pos a1] at h; injection h with h; injection h with e1 e2; subst e2; exact a1.1
    rw [if_neg a1] at h
    by_cases a2 : rawAt l 0 = 92 ∧ rawAt l 1 = 10
    · rw [if_pos a2] at h
      cases hi : itemF f (l.drop 2) q with
      | none => rw [hi] at h; cases h
      | some x =>
        obtain ⟨t', k'⟩ := x
        have := item_last q hq f (l.drop 2) t' k' hi
        rw [hi] at h; injection h with h; injection h with e1 e2; subst e2
        rw [rawAt_drop] at this; rw [← this]; congr 1; simp only []; omega
    rw [if_neg a2] at h
    cases hs : quotedS l q with
    | none => rw [hs] at h; cases h
    | some ck =>
      obtain ⟨c, j⟩ := ck
      rw [hs] at h
      simp only [] at h
      cases hi : itemF f (l.drop j) q with
      | none => rw [hi] at h; cases h
      | some x =>
        obtain ⟨t', k'⟩ := x
        have := item_last q hq f (l.drop j) t' k' hi
        rw [hi] at h; injection h with h; injection h with e1 e2; subst e2
        rw [rawAt_drop] at this; rw [← this]; congr 1; simp only []; omega
theorem item_app (q : Int) (hq : 0 ≤ q ∧ q ≤ 255) (R : List UInt8) (hR : ¬rawAt R 0 = q) : ∀ (n : Nat) (l : List UInt8), l.length = n → ∀ (s : List UInt8) (k : Nat), item l q = some (s, k) → k + 1 = l.length → item (l ++ R) q = some (s, k) := by
  intro n
  induction n using Nat.strongRecOn with
  | _ n ih =>
    intro l hn s k h hk
    have h0 : 0 < l.length := by omega
    rw [item_eq _ _ hq] at h ⊢
    have r0 : rawAt (l ++ R) 0 = rawAt l 0 := raw_app1 _ _ _ h0
    have n1 := rawAt_neg l 1
    have hr1 : 1 < l.length → rawAt (l ++ R) 1 = rawAt l 1 := fun hx => raw_app1 _ _ _ hx
    have hr2 : l.length = 1 → rawAt (l ++ R) 1 = rawAt R 0 := fun hx => by have := raw_app2 l R; rwa [hx] at this
    by_cases a1 : rawAt l 0 = q ∧ ¬rawAt l 1 = q
    · rw [if_pos a1] at h
      injection h with h; injection h with e1 e2; subst e1; subst e2
      rw [r0, if_pos ⟨a1.1, by rw [hr2 (by omega)]; exact hR⟩]
    rw [if_neg a1] at h
    by_cases a2 : rawAt l 0 = 92 ∧ rawAt l 1 = 10
    · have hl : 1 < l.length := by omega
      rw [r0, hr1 hl, if_neg a1, if_pos a2, List.drop_append_of_le_length (by omega)]
      rw [if_pos a2] at h
      cases hi : item (l.drop 2) q with
      | none => rw [hi] at h; cases h
      | some x =>
        obtain ⟨t', k'⟩ := x
        rw [hi] at h; injection h with h; injection h with e1 e2
        simp only [] at e1 e2
        rw [ih (l.drop 2).length (by rw [List.length_drop]; omega) (l.drop 2) rfl t' k' hi (by rw [List.length_drop]; omega)]
        simp only [Option.map_some, e1, e2]
    rw [if_neg a2] at h
    cases hs : quotedS l q with
    | none => rw [hs] at h; cases h
    | some ck =>
      obtain ⟨c, j⟩ := ck
      have hok := quotedS_ok l q c j hq hs
      rw [hs] at h
      simp only [] at h
      cases hi : item (l.drop j) q with
      | none => rw [hi] at h; cases h
      | some x =>
        obtain ⟨t', k'⟩ := x
        have hlen := item_len q hq _ _ _ _ hi
        rw [List.length_drop] at hlen
        have hl : 1 < l.length := by omega
        rw [hi] at h; injection h with h; injection h with e1 e2
        simp only [] at e1 e2
        rw [r0, hr1 hl, if_neg a1, if_neg a2, quotedS_app l R q c j hq hs]
        simp only []
        rw [List.drop_append_of_le_length (by omega), ih (l.drop j).length (by rw [List.length_drop]; omega) (l.drop j) rfl t' k' hi (by rw [List.length_drop]; omega)]
        simp only [Option.map_some, e1, e2]
theorem named_app (kind : Int) (t R : List UInt8) (a e : Int) : namedR kind ((t ++ R).take t.length) a e = namedR kind t a e := by rw [List.take_left]
theorem numBase_app (t R : List UInt8) (h : 1 < t.length) : numBase (t ++ R) 0 = numBase t 0 := by
  unfold numBase; rw [raw_app1 _ _ _ (by omega), raw_app1 _ _ _ h]
theorem numBase_ok (t : List UInt8) (h : 0 < numBase t 0) : ∃ b : Nat, okBase b ∧ numBase t 0 = (b : Int) := by
  unfold numBase at h ⊢
  split
  · split
    · exact ⟨16, .inr (.inr (.inr rfl)), rfl⟩
    split
    · exact ⟨8, .inr (.inl rfl), rfl⟩
    split
    · exact ⟨2, .inl rfl, rfl⟩
    · rename_i a b c d; rw [if_pos a, if_neg b, if_neg c, if_neg d] at h; exact absurd h (by decide)
  · rename_i a; rw [if_neg a] at h; exact absurd h (by decide)
theorem numR_app (t R : List UInt8) (h0 : 0 < t.length) (he : (numR t t 0).err = 0) (hE : (numR t t 0).end_ = t.length) (hG : NoGlue t R) : numR (t ++ R) (t ++ R) 0 = numR t t 0 := by
  have r0 : rawAt (t ++ R) 0 = rawAt t 0 := raw_app1 _ _ _ h0
  by_cases c1 : rawAt t 0 = 48 ∧ rawAt t (0 + 1) = 39
  · have n1 := rawAt_neg t (0 + 1)
    have hl : 1 < t.length := by omega
    unfold numR at he hE ⊢
    rw [if_pos c1] at he hE ⊢
    rw [r0, raw_app1 _ _ _ (by omega), if_pos c1, List.drop_append_of_le_length (by omega)]
    cases hq : quotedS (t.drop (0 + 2)) 39 with
    | none => rw [hq] at he; exact absurd he (by show ¬(7 : Int) = 0; decide)
    | some ck => rw [quotedS_app _ _ _ _ _ (by decide) hq]
  by_cases c2 : 0 < numBase t 0 ∧ 0 < span (isDig (numBase t 0)) (t.drop (0 + 2))
  · have hl : 2 < t.length := by have := span_le (isDig (numBase t 0)) (t.drop (0 + 2)); rw [List.length_drop] at this; omega
    obtain ⟨b, hb, hbb⟩ := numBase_ok t c2.1
    have e1 : (intR (numBase t 0) ((t.drop (0 + 2)).take (span (isDig (numBase t 0)) (t.drop (0 + 2)))) ((0 : Nat) : Int) ((0 : Nat) + 2 + span (isDig (numBase t 0)) (t.drop (0 + 2)))) = numR t t 0 := by
      unfold numR; rw [if_neg c1, if_pos c2]
    rw [← e1] at he hE
    have hspan : span (isDig (numBase t 0)) (t.drop (0 + 2)) = (t.drop (0 + 2)).length := by
      rw [(int_end _ _ _ _ he).2] at hE; rw [List.length_drop]; omega
    have hev := span_full _ _ hspan
    have hpos : 0 < (t.drop (0 + 2)).length := by rw [List.length_drop]; omega
    have hlast := last_every _ _ hev hpos
    rw [raw_last_drop t (0 + 2) (by omega), hbb] at hlast
    have hstop := dig_stop b hb _ (hG.a (dig_alnum b hb _ hlast))
    rw [← hbb] at hstop
    have hspan2 := span_app _ _ R hev hstop
    rw [← e1]
    unfold numR
    rw [r0, raw_app1 _ _ _ (show 0 + 1 < t.length by omega), if_neg c1, numBase_app t R (by omega), List.drop_append_of_le_length (by omega), hspan2, if_pos ⟨c2.1, hpos⟩, List.take_left, hspan, List.take_length]
  · have e1 : intR 10 ((t.drop 0).take (span (isDig 10) (t.drop 0))) ((0 : Nat) : Int) ((0 : Nat) + span (isDig 10) (t.drop 0)) = numR t t 0 := by
      unfold numR; rw [if_neg c1, if_neg c2]
    rw [← e1] at he hE
    simp only [List.drop_zero] at he hE e1
    have hspan : span (isDig 10) t = t.length := by
      rw [(int_end _ _ _ _ he).2] at hE; omega
    have hev := span_full _ _ hspan
    have hlast := last_every _ _ hev h0
    have hb10 : okBase 10 := .inr (.inr (.inl rfl))
    have hal := dig_alnum 10 hb10 _ hlast
    have hR := hG.a hal
    have hstop := dig_stop 10 hb10 _ hR
    have hspan2 : span (isDig 10) (t ++ R) = t.length := span_app _ _ R hev hstop
    have hdec := fun k hk => dec_head t hev k hk
    have x1 : ¬(rawAt (t ++ R) 0 = 48 ∧ rawAt (t ++ R) (0 + 1) = 39) := by
      rintro ⟨y1, y2⟩
      by_cases hl : 1 < t.length
      · have := hdec 1 hl
        rw [raw_app1 _ _ _ (by omega)] at y2
        rw [Nat.zero_add] at y2; omega
      · have hl1 : t.length = 1 := by omega
        have := raw_app2 t R
        rw [hl1] at this
        rw [Nat.zero_add, this] at y2
        rw [r0] at y1
        exact hG.z (raw_take1 t hl1 48 y1) y2
    have x2 : numBase (t ++ R) 0 = 0 := by
      unfold numBase
      by_cases y1 : rawAt (t ++ R) 0 = 48
      · rw [if_pos y1]
        have y2 : ¬(rawAt (t ++ R) (0 + 1) = 120) ∧ ¬(rawAt (t ++ R) (0 + 1) = 111) ∧ ¬(rawAt (t ++ R) (0 + 1) = 98) := by
          by_cases hl : 1 < t.length
          · have := hdec 1 hl
            rw [raw_app1 _ _ _ (by omega)]
            rw [Nat.zero_add]; omega
          · have hl1 : t.length = 1 := by omega
            have h2 := raw_app2 t R
            rw [hl1] at h2
            rw [Nat.zero_add, h2]
            refine ⟨fun h => ?_, fun h => ?_, fun h => ?_⟩ <;> (rw [h] at hR; exact absurd hR (by decide +kernel))
        rw [if_neg y2.1, if_neg y2.2.1, if_neg y2.2.2]
      · rw [if_neg y1]
    rw [← e1]
    unfold numR
    rw [if_neg x1, x2, if_neg (fun h => absurd h.1 (by decide))]
    simp only [List.drop_zero, hspan2, hspan, List.take_left, List.take_length]
/-- A token reads the same with more text behind it. -/
theorem tok_more (t R : List UInt8) (h0 : 0 < t.length) (he : (tokR t t 0).err = 0) (hk : ¬(tokR t t 0).kind = 7) (hE : (tokR t t 0).end_ = t.length) (hG : NoGlue t R) : tokR (t ++ R) (t ++ R) 0 = tokR t t 0 := by
  have r0 : rawAt (t ++ R) 0 = rawAt t 0 := raw_app1 _ _ _ h0
  unfold tokR at he hk hE ⊢
  by_cases a0 : rawAt t 0 = 47 ∧ rawAt t (0 + 1) = 42
  · rw [if_pos a0] at he; exact absurd he (by decide)
  rw [if_neg a0] at he hk hE ⊢
  have b0 : ¬(rawAt (t ++ R) 0 = 47 ∧ rawAt (t ++ R) (0 + 1) = 42) := by
    rintro ⟨y1, y2⟩
    rw [r0] at y1
    by_cases hl : 1 < t.length
    · rw [raw_app1 _ _ _ (by omega)] at y2; exact a0 ⟨y1, y2⟩
    · have hl1 : t.length = 1 := by omega
      have h2 := raw_app2 t R
      rw [hl1] at h2
      rw [Nat.zero_add, h2] at y2
      have h3 := hG.s
      rw [hl1, y1, y2] at h3
      exact absurd (h3 (by decide +kernel)) (by decide +kernel)
  rw [if_neg b0, r0]
  by_cases a1 : cls (rawAt t 0) = 2 ∨ cls (rawAt t 0) = 3
  · rw [if_pos a1] at he hk hE ⊢
    rw [if_pos a1]
    unfold wordR at he hE ⊢
    simp only [List.drop_zero] at he hE ⊢
    have hspan : span alnum t = t.length := by rw [(named_end _ _ _ _ he).2.1] at hE; omega
    have hev := span_full _ _ hspan
    have hspan2 := span_app _ _ R hev (hG.a (last_every _ _ hev h0))
    rw [r0, hspan2, hspan, List.take_left, List.take_length]
  rw [if_neg a1] at he hk hE ⊢
  rw [if_neg a1]
  by_cases a2 : cls (rawAt t 0) = 4
  · rw [if_pos a2] at he hk hE ⊢
    rw [if_pos a2]
    exact numR_app t R h0 he hE hG
  rw [if_neg a2] at he hk hE ⊢
  rw [if_neg a2]
  by_cases a3 : cls (rawAt t 0) = 5
  · rw [if_pos a3] at he hk hE ⊢
    rw [if_pos a3]
    by_cases b1 : rawAt t 0 = 46 ∧ endNext (rawAt t (0 + 1)) = true
    · unfold symR at hk; rw [if_pos b1] at hk; exact absurd rfl hk
    have e1 : namedR 1 (t.take (span isSym t)) ((0 : Nat) : Int) ((0 : Nat) + span isSym t) = symR t 0 := by unfold symR; rw [if_neg b1]; simp only [List.drop_zero]
    rw [← e1] at he hE ⊢
    have hspan : span isSym t = t.length := by rw [(named_end _ _ _ _ he).2.1] at hE; omega
    have hev := span_full _ _ hspan
    have hspan2 := span_app _ _ R hev (hG.s (last_every _ _ hev h0))
    have b2 : ¬(rawAt (t ++ R) 0 = 46 ∧ endNext (rawAt (t ++ R) (0 + 1)) = true) := by
      rintro ⟨y1, y2⟩
      rw [r0] at y1
      by_cases hl : 1 < t.length
      · rw [raw_app1 _ _ _ (by omega)] at y2; exact b1 ⟨y1, y2⟩
      · exact b1 ⟨y1, by rw [rawAt_out _ _ (by omega)]; decide +kernel⟩
    unfold symR
    rw [if_neg b2]
    simp only [List.drop_zero]
    rw [hspan2, hspan, List.take_left, List.take_length]
  rw [if_neg a3] at he hk hE ⊢
  rw [if_neg a3]
  by_cases a4 : cls (rawAt t 0) = 6
  · rw [if_pos a4] at he hk hE ⊢
    rw [if_pos a4]
    unfold soloR at he hE ⊢
    simp only [List.drop_zero] at he hE ⊢
    have hl : 1 = t.length := by rw [(named_end _ _ _ _ he).2.1] at hE; omega
    rw [r0, hl, List.take_left, List.take_length]
  rw [if_neg a4] at he hk hE ⊢
  rw [if_neg a4]
  by_cases a5 : cls (rawAt t 0) = 7
  · rw [if_pos a5] at he hk hE ⊢
    rw [if_pos a5]
    have hdrop : (t ++ R).drop (0 + 1) = t.drop (0 + 1) ++ R := List.drop_append_of_le_length (by omega)
    have key : ∀ q : Int, (q = 34 ∨ q = 39) → rawAt t 0 = q → ∀ s k, item (t.drop (0 + 1)) q = some (s, k) → k + 1 + 1 = t.length → item ((t ++ R).drop (0 + 1)) q = some (s, k) := by
      intro q hq hh s k hi hl
      have hq2 : 0 ≤ q ∧ q ≤ 255 := by omega
      have h3 := item_last q hq2 _ _ _ _ hi
      rw [rawAt_drop] at h3
      have h4 : rawAt t (t.length - 1) = q := by rw [← h3]; congr 1; omega
      have h5 : ¬rawAt R 0 = q := fun h => hG.q (by rw [h4]; rcases hq with rfl | rfl <;> decide +kernel) (by rw [h4, h])
      rw [hdrop]
      exact item_app q hq2 R h5 _ _ rfl s k hi (by rw [List.length_drop]; omega)
    unfold quoteR at he hE ⊢
    rw [r0]
    by_cases c1 : rawAt t 0 = 34
    · rw [if_pos c1] at he hE ⊢
      rw [if_pos c1]
      cases hi : item (t.drop (0 + 1)) 34 with
      | none => rw [hi] at he; exact absurd he (by show ¬(7 : Int) = 0; decide)
      | some x =>
        obtain ⟨s, k⟩ := x
        rw [hi] at hE
        rw [key 34 (.inl rfl) c1 s k hi (by have : ((0 : Nat) : Int) + 1 + (k : Int) + 1 = t.length := hE; omega)]
    rw [if_neg c1] at he hE ⊢
    rw [if_neg c1]
    by_cases c2 : rawAt t 0 = 39
    · rw [if_pos c2] at he hE ⊢
      rw [if_pos c2]
      cases hi : item (t.drop (0 + 1)) 39 with
      | none => rw [hi] at he; exact absurd he (by show ¬(7 : Int) = 0; decide)
      | some x =>
        obtain ⟨s, k⟩ := x
        rw [hi] at he hE
        have : ((0 : Nat) : Int) + 1 + (k : Int) + 1 = t.length := by rw [← hE]; exact (named_end _ _ _ _ he).2.1.symm
        rw [key 39 (.inr rfl) c2 s k hi (by omega)]
    · rw [if_neg c2] at he; exact absurd he (by decide)
  · rw [if_neg a5] at he; exact absurd he (by decide)
theorem skip_more (t R : List UInt8) (h0 : 0 < t.length) (hs : skipN t = 0) (he : (tokR t t 0).err = 0) (hG : NoGlue t R) : skipN (t ++ R) = 0 := by
  have r0 : rawAt (t ++ R) 0 = rawAt t 0 := raw_app1 _ _ _ h0
  have n1 : t.isEmpty = false := by cases t with | nil => simp at h0 | cons => rfl
  have n2 : (t ++ R).isEmpty = false := by cases t with | nil => simp at h0 | cons => rfl
  rw [skipN_eq, n2, if_neg (by decide), r0]
  rw [skipN_eq, n1, if_neg (by decide)] at hs
  by_cases a1 : cls (rawAt t 0) = 1
  · rw [if_pos a1] at hs; omega
  rw [if_neg a1] at hs ⊢
  by_cases a2 : rawAt t 0 = 37
  · rw [if_pos a2] at hs
    have := span_pos notNl t h0 (by rw [a2]; rfl)
    omega
  rw [if_neg a2] at hs ⊢
  by_cases a3 : rawAt t 0 = 47 ∧ rawAt (t ++ R) 1 = 42
  · by_cases hl : 1 < t.length
    · have a4 : rawAt t 0 = 47 ∧ rawAt t 1 = 42 := ⟨a3.1, by rw [← raw_app1 t R 1 hl]; exact a3.2⟩
      unfold tokR at he
      rw [if_pos a4] at he; exact absurd he (by decide)
    · have hl1 : t.length = 1 := by omega
      have h2 := raw_app2 t R
      rw [hl1] at h2
      have h3 := hG.s
      rw [hl1, a3.1, ← h2, a3.2] at h3
      exact absurd (h3 (by decide +kernel)) (by decide +kernel)
  · rw [if_neg a3]
/-- A token text: it reads, at 0, to its end, as a token that is no end token. -/
structure TokText (t : List UInt8) : Prop where
  pos : 0 < t.length
  skip : skipN t = 0
  err : (tokR t t 0).err = 0
  kind : ¬(tokR t t 0).kind = 7
  fin : (tokR t t 0).end_ = t.length
end Hb
