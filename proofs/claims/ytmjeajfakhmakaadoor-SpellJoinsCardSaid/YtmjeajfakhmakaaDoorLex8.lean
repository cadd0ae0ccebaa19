/- Contracts of the lexer: numbers. -/
import Derived.Test.YtmjeajfakhmakaaDoorLex7
namespace Go.Proofs.YtmjeajfakhmakaaDoor
open Go.RowKit Hb
set_option maxRecDepth 100000

theorem base_cs (c n : Int) (h : n = (if c = 120 then 16 else if c = 111 then 8 else if c = 98 then 2 else 0)) : ((c == 120) = true ∧ n = 16) ∨ ((c == 120) = false ∧ (c == 111) = true ∧ n = 8) ∨ ((c == 120) = false ∧ (c == 111) = false ∧ (c == 98) = true ∧ n = 2) ∨ ((c == 120) = false ∧ (c == 111) = false ∧ (c == 98) = false ∧ n = 0) := by
  by_cases h1 : c = 120
  · left; simp [h1] at h ⊢; exact h
  by_cases h2 : c = 111
  · right; left; simp [h2] at h ⊢; exact h
  by_cases h3 : c = 98
  · right; right; left; simp [h3] at h ⊢; exact h
  · right; right; right; simp [h1, h2, h3] at h ⊢; exact h
theorem bAt_take (l : List UInt8) (n k : Nat) (h : k < n) : bAt (l.take n) k = bAt l k := by
  unfold bAt; simp only [List.getD_eq_getElem?_getD, List.getElem?_take_of_lt h]
theorem digits_ok (base : Int) (h0 : 2 ≤ base) (h1 : base ≤ 36) (l : List UInt8) (k : Nat) (hk : k < (l.take (span (isDig base) l)).length) : dgt (bAt (l.take (span (isDig base) l)) k) < base := by
  have hk' : k < span (isDig base) l := by simp at hk; omega
  obtain ⟨hq, hl⟩ := span_rest _ _ _ hk'
  rw [rawAt_in _ _ hl] at hq
  unfold isDig at hq
  rw [digOk_dgt _ _ h0 h1] at hq
  rw [bAt_take _ _ _ hk']
  simpa using hq
theorem digits_len (base : Int) (l : List UInt8) : (l.take (span (isDig base) l)).length = span (isDig base) l := by
  have := span_le (isDig base) l
  rw [List.length_take, Nat.min_eq_left this]

set_option maxHeartbeats 1600000 in
theorem lex_number (b : Nat) (s : ByteArray) (tab : Int → Int) (p : Nat) (w : World) (h : Lex w b s tab p) (hp : p < s.size) (hdig : isDig 10 (rawAt (cvt tab s.data.toList) p) = true) :
    Calls Tryd.prog 64 #[.pointer (some ⟨b, 0, none⟩)] w fun e w' => Gives (numR (cvt tab s.data.toList) s.data.toList p) e ∧ Below w.heap.size w w' := by
  have H0 := Held.start h
  have hlt := h.lt
  have ca := h.ca
  have hsz := h.sz
  clear h
  have hlen : Hid ((cvt tab s.data.toList).length = s.size) := by show _ = _; rw [cvt_len]; simp
  generalize hM : cvt tab s.data.toList = M at *
  have HM := Lib.hid hM
  clear hM
  have hsd : 1 ≤ span (isDig 10) (M.drop p) := span_pos _ _ (by simp; have := hlen.out; omega) (by rw [rawAt_drop, Nat.add_zero]; exact hdig)
  clear hdig
  by_cases a1 : rawAt M p = 48
  · have b1 : (rawAt M p == 48) = true := by simp [a1]
    by_cases a2 : rawAt M (p + 1) = 39
    · have b2 : (rawAt M (p + 1) == 39) = true := by simp [a2]
      cases hq : quotedS (s.data.toList.drop (p + 2)) 39 with
      | none =>
        have HK := Lib.hid (show numR M s.data.toList p = errR 7 by unfold numR; rw [if_pos ⟨a1, a2⟩, hq])
        have HQ := Lib.hid hq
        clear a1 a2 hq
        go_enter Tryd.func64, Tryd.ntmps64
        go_wp2_with fail
        refine (lex_char _ _ _ _ _ _ H0.lex (by omega)).mono ?_; rintro e w1 ⟨rfl, hB1⟩; rw [Int.toNat_natCast, HM.out]
        have H1 := Held.call hB1 H0
        have c1 := H1.lex.ca
        go_wp2_with fail
        refine (lex_char _ _ _ _ _ _ H1.lex (by omega)).mono ?_; rintro e w2 ⟨rfl, hB2⟩; rw [show ((p : Int) + 1).toNat = p + 1 by omega, HM.out]
        have H2 := Held.call hB2 H1
        have c2 := H2.lex.ca
        clear hB1 hB2 H1 c1 H0
        go_wp2_with fail
        refine (lex_quoted _ _ _ _ _ _ _ H2.lex (by omega) (by omega)).mono ?_; rintro e w3 ⟨he, rfl⟩; rw [show ((p : Int) + 2).toNat = p + 2 by omega, HQ.out] at he
        obtain ⟨x, y, rfl⟩ := he
        obtain ⟨t6, v0, v1, v2, v3, v4, v5, t0, t1, t2, t3, t4, t5⟩ := H2.tok
        have hltc := H2.lt
        go_wp2_with fail
        refine bodyPost_ret (v := tokTup (errR 7)) (by simp [tokTup, errR, results, Tryd.results64, go_sem, t0, t1, t2, t3, t4, t5]) rfl ⟨?_, (H2.sets _ _ _ _ _ _).bel⟩
        rw [HK.out]; rfl
      | some ck =>
        obtain ⟨c, k⟩ := ck
        have HK := Lib.hid (show numR M s.data.toList p = ⟨4, [], c, p, p + 2 + k, 0⟩ by unfold numR; rw [if_pos ⟨a1, a2⟩, hq])
        have HQ := Lib.hid hq
        clear a1 a2 hq
        go_enter Tryd.func64, Tryd.ntmps64
        go_wp2_with fail
        refine (lex_char _ _ _ _ _ _ H0.lex (by omega)).mono ?_; rintro e w1 ⟨rfl, hB1⟩; rw [Int.toNat_natCast, HM.out]
        have H1 := Held.call hB1 H0
        have c1 := H1.lex.ca
        go_wp2_with fail
        refine (lex_char _ _ _ _ _ _ H1.lex (by omega)).mono ?_; rintro e w2 ⟨rfl, hB2⟩; rw [show ((p : Int) + 1).toNat = p + 1 by omega, HM.out]
        have H2 := Held.call hB2 H1
        have c2 := H2.lex.ca
        clear hB1 hB2 H1 c1 H0
        go_wp2_with fail
        refine (lex_quoted _ _ _ _ _ _ _ H2.lex (by omega) (by omega)).mono ?_; rintro e w3 ⟨he, rfl⟩; rw [show ((p : Int) + 2).toNat = p + 2 by omega, HQ.out] at he
        unfold QRes at he
        simp only [] at he
        subst he
        obtain ⟨t6, v0, v1, v2, v3, v4, v5, t0, t1, t2, t3, t4, t5⟩ := H2.tok
        have hltc := H2.lt
        go_wp2_with fail
        refine bodyPost_ret (v := tokTup ⟨4, [], c, p, p + 2 + k, 0⟩) (by simp [tokTup, results, Tryd.results64, go_sem, t0, t1, t2, t3, t4, t5]) rfl ⟨?_, (H2.sets _ _ _ _ _ _).bel⟩
        rw [HK.out]; rfl
    · have b2 : (rawAt M (p + 1) == 39) = false := by simp [a2]
      by_cases a3 : 0 < numBase M p ∧ 0 < span (isDig (numBase M p)) (M.drop (p + 2))
      · have HK := Lib.hid (show numR M s.data.toList p = intR (numBase M p) ((M.drop (p + 2)).take (span (isDig (numBase M p)) (M.drop (p + 2)))) p (p + 2 + span (isDig (numBase M p)) (M.drop (p + 2))) by unfold numR; rw [if_neg (fun h => a2 h.2), if_pos a3])
        have HN := Lib.hid (show numBase M p = (if rawAt M (p + 1) = 120 then 16 else if rawAt M (p + 1) = 111 then 8 else if rawAt M (p + 1) = 98 then 2 else 0) by unfold numBase; rw [if_pos a1])
        have hcs : ((rawAt M (p + 1) == 120) = true ∧ numBase M p = 16) ∨ ((rawAt M (p + 1) == 120) = false ∧ (rawAt M (p + 1) == 111) = true ∧ numBase M p = 8) ∨ ((rawAt M (p + 1) == 120) = false ∧ (rawAt M (p + 1) == 111) = false ∧ (rawAt M (p + 1) == 98) = true ∧ numBase M p = 2) := by
          have h2 := a3.1
          rcases base_cs _ _ HN.out with h | h | h | h
          · exact .inl h
          · exact .inr (.inl h)
          · exact .inr (.inr h)
          · exact absurd h.2.2.2 (by omega)
        have h3 := a3.2
        clear a1 a2 a3 HN
        have hb2 : 2 ≤ numBase M p ∧ numBase M p ≤ 36 := by omega
        generalize hbs : numBase M p = bs at *
        have HBS := Lib.hid hbs
        clear hbs
        have hspd := span_le (isDig bs) (M.drop (p + 2))
        rw [List.length_drop, hlen.out] at hspd
        have HDl := Lib.hid (digits_len bs (M.drop (p + 2)))
        have HOKd := Lib.hid (digits_ok bs hb2.1 hb2.2 (M.drop (p + 2)))
        generalize hDD : span (isDig bs) (M.drop (p + 2)) = D at *
        have HDD := Lib.hid hDD
        clear hDD
        rcases hcs with ⟨x1, rfl⟩ | ⟨x1, x2, rfl⟩ | ⟨x1, x2, x3, rfl⟩
        all_goals
          go_enter Tryd.func64, Tryd.ntmps64
          go_wp2_with fail
          refine (lex_char _ _ _ _ _ _ H0.lex (by omega)).mono ?_; rintro e w1 ⟨rfl, hB1⟩; rw [Int.toNat_natCast, HM.out]
          have H1 := Held.call hB1 H0
          have c1 := H1.lex.ca
          go_wp2_with fail
          refine (lex_char _ _ _ _ _ _ H1.lex (by omega)).mono ?_; rintro e w2 ⟨rfl, hB2⟩; rw [show ((p : Int) + 1).toNat = p + 1 by omega, HM.out]
          have H2 := Held.call hB2 H1
          have c2 := H2.lex.ca
          clear hB1 hB2 H1 c1 H0
          go_wp2_with fail
          refine (lex_digits _ _ _ _ _ _ _ H2.lex (by omega)).mono ?_; rintro e wA ⟨rfl, hBA⟩; rw [show ((p : Int) + 2).toNat = p + 2 by omega, HM.out, HDD.out]
          have HA := Held.call hBA H2
          have cA := HA.lex.ca
          go_wp2_with fail
          refine (lex_part _ _ _ _ _ _ _ HA.lex (by omega) (by omega) (by omega)).mono ?_; rintro e wB ⟨rfl, hBB⟩; rw [show ((p : Int) + 2).toNat = p + 2 by omega, HM.out, show ((p : Int) + 2 + D - (p + 2)).toNat = D by omega]
          have HB := Held.call hBB HA
          go_wp2_with fail
          refine (lex_integer _ _ _ _ _ _ _ _ HB.lex (by rw [HDl.out]; omega) (by rw [HDl.out]; omega) (by decide) (by decide) HOKd.out).mono ?_; rintro e wC ⟨he, hBC⟩
          have HC := Held.call hBC HB
          generalize hr : intR _ _ _ _ = r at he
          have HR := Lib.hid hr
          clear hr hBA hBB hBC HA HB H2 c2 cA
          unfold Gives tokTup at he; subst he
          obtain ⟨t6, v0, v1, v2, v3, v4, v5, t0, t1, t2, t3, t4, t5⟩ := HC.tok
          have hltc := HC.lt
          go_wp2_with fail
          refine bodyPost_ret (v := tokTup r) (by simp [tokTup, results, Tryd.results64, go_sem, t0, t1, t2, t3, t4, t5]) rfl ⟨?_, (HC.sets _ _ _ _ _ _).bel⟩
          rw [HK.out, HR.out]; rfl
      · have HK := Lib.hid (show numR M s.data.toList p = intR 10 ((M.drop p).take (span (isDig 10) (M.drop p))) p (p + span (isDig 10) (M.drop p)) by unfold numR; rw [if_neg (fun h => a2 h.2), if_neg a3])
        have HN := Lib.hid (show numBase M p = (if rawAt M (p + 1) = 120 then 16 else if rawAt M (p + 1) = 111 then 8 else if rawAt M (p + 1) = 98 then 2 else 0) by unfold numBase; rw [if_pos a1])
        have hcs : ((rawAt M (p + 1) == 120) = true ∧ numBase M p = 16) ∨ ((rawAt M (p + 1) == 120) = false ∧ (rawAt M (p + 1) == 111) = true ∧ numBase M p = 8) ∨ ((rawAt M (p + 1) == 120) = false ∧ (rawAt M (p + 1) == 111) = false ∧ (rawAt M (p + 1) == 98) = true ∧ numBase M p = 2) ∨ ((rawAt M (p + 1) == 120) = false ∧ (rawAt M (p + 1) == 111) = false ∧ (rawAt M (p + 1) == 98) = false ∧ numBase M p = 0) := base_cs _ _ HN.out
        have A3 := Lib.hid a3
        clear a1 a2 a3 HN
        generalize hbs : numBase M p = bs at *
        have HBS := Lib.hid hbs
        clear hbs
        rcases hcs with ⟨x1, rfl⟩ | ⟨x1, x2, rfl⟩ | ⟨x1, x2, x3, rfl⟩ | ⟨x1, x2, x3, rfl⟩
        · have HD0 := Lib.hid (show span (isDig 16) (M.drop (p + 2)) = 0 by have := A3.out; omega)
          go_enter Tryd.func64, Tryd.ntmps64
          go_wp2_with fail
          refine (lex_char _ _ _ _ _ _ H0.lex (by omega)).mono ?_; rintro e w1 ⟨rfl, hB1⟩; rw [Int.toNat_natCast, HM.out]
          have H1 := Held.call hB1 H0
          have c1 := H1.lex.ca
          go_wp2_with fail
          refine (lex_char _ _ _ _ _ _ H1.lex (by omega)).mono ?_; rintro e w2 ⟨rfl, hB2⟩; rw [show ((p : Int) + 1).toNat = p + 1 by omega, HM.out]
          have H2 := Held.call hB2 H1
          have c2 := H2.lex.ca
          clear hB1 hB2 H1 c1 H0
          go_wp2_with fail
          refine (lex_digits _ _ _ _ _ _ _ H2.lex (by omega)).mono ?_; rintro e wA ⟨rfl, hBA⟩; rw [show ((p : Int) + 2).toNat = p + 2 by omega, HM.out, show span (isDig 16) (M.drop (p + 2)) = 0 from HD0.out]
          have Hn := Held.call hBA H2
          clear hBA H2 c2
          have cm := Hn.lex.ca
          go_wp2_with fail
          have hspd := span_le (isDig 10) (M.drop p)
          rw [List.length_drop, hlen.out] at hspd
          have HDl := Lib.hid (digits_len 10 (M.drop p))
          have HOKd := Lib.hid (digits_ok 10 (by decide) (by decide) (M.drop p))
          have cN := Hn.lex.ca
          generalize hDD : span (isDig 10) (M.drop p) = D at *
          have HDD := Lib.hid hDD
          clear hDD
          go_wp2_with fail
          refine (lex_digits _ _ _ _ _ _ _ Hn.lex (by omega)).mono ?_; rintro e wA ⟨rfl, hBA⟩; rw [Int.toNat_natCast, HM.out, HDD.out]
          have HA := Held.call hBA Hn
          have cA := HA.lex.ca
          go_wp2_with fail
          refine (lex_part _ _ _ _ _ _ _ HA.lex (by omega) (by omega) (by omega)).mono ?_; rintro e wB ⟨rfl, hBB⟩; rw [Int.toNat_natCast, HM.out, show ((p : Int) + D - p).toNat = D by omega]
          have HB := Held.call hBB HA
          go_wp2_with fail
          refine (lex_integer _ _ _ _ _ _ _ _ HB.lex (by rw [HDl.out]; omega) (by rw [HDl.out]; omega) (by decide) (by decide) HOKd.out).mono ?_; rintro e wC ⟨he, hBC⟩
          have HC := Held.call hBC HB
          generalize hr : intR _ _ _ _ = r at he
          have HR := Lib.hid hr
          clear hr hBA hBB hBC HA HB Hn cN cA
          unfold Gives tokTup at he; subst he
          obtain ⟨t6, v0, v1, v2, v3, v4, v5, t0, t1, t2, t3, t4, t5⟩ := HC.tok
          have hltc := HC.lt
          go_wp2_with fail
          refine bodyPost_ret (v := tokTup r) (by simp [tokTup, results, Tryd.results64, go_sem, t0, t1, t2, t3, t4, t5]) rfl ⟨?_, (HC.sets _ _ _ _ _ _).bel⟩
          rw [HK.out, HR.out]; rfl
        · have HD0 := Lib.hid (show span (isDig 8) (M.drop (p + 2)) = 0 by have := A3.out; omega)
          go_enter Tryd.func64, Tryd.ntmps64
          go_wp2_with fail
          refine (lex_char _ _ _ _ _ _ H0.lex (by omega)).mono ?_; rintro e w1 ⟨rfl, hB1⟩; rw [Int.toNat_natCast, HM.out]
          have H1 := Held.call hB1 H0
          have c1 := H1.lex.ca
          go_wp2_with fail
          refine (lex_char _ _ _ _ _ _ H1.lex (by omega)).mono ?_; rintro e w2 ⟨rfl, hB2⟩; rw [show ((p : Int) + 1).toNat = p + 1 by omega, HM.out]
          have H2 := Held.call hB2 H1
          have c2 := H2.lex.ca
          clear hB1 hB2 H1 c1 H0
          go_wp2_with fail
          refine (lex_digits _ _ _ _ _ _ _ H2.lex (by omega)).mono ?_; rintro e wA ⟨rfl, hBA⟩; rw [show ((p : Int) + 2).toNat = p + 2 by omega, HM.out, show span (isDig 8) (M.drop (p + 2)) = 0 from HD0.out]
          have Hn := Held.call hBA H2
          clear hBA H2 c2
          have cm := Hn.lex.ca
          go_wp2_with fail
          have hspd := span_le (isDig 10) (M.drop p)
          rw [List.length_drop, hlen.out] at hspd
          have HDl := Lib.hid (digits_len 10 (M.drop p))
          have HOKd := Lib.hid (digits_ok 10 (by decide) (by decide) (M.drop p))
          have cN := Hn.lex.ca
          generalize hDD : span (isDig 10) (M.drop p) = D at *
          have HDD := Lib.hid hDD
          clear hDD
          go_wp2_with fail
          refine (lex_digits _ _ _ _ _ _ _ Hn.lex (by omega)).mono ?_; rintro e wA ⟨rfl, hBA⟩; rw [Int.toNat_natCast, HM.out, HDD.out]
          have HA := Held.call hBA Hn
          have cA := HA.lex.ca
          go_wp2_with fail
          refine (lex_part _ _ _ _ _ _ _ HA.lex (by omega) (by omega) (by omega)).mono ?_; rintro e wB ⟨rfl, hBB⟩; rw [Int.toNat_natCast, HM.out, show ((p : Int) + D - p).toNat = D by omega]
          have HB := Held.call hBB HA
          go_wp2_with fail
          refine (lex_integer _ _ _ _ _ _ _ _ HB.lex (by rw [HDl.out]; omega) (by rw [HDl.out]; omega) (by decide) (by decide) HOKd.out).mono ?_; rintro e wC ⟨he, hBC⟩
          have HC := Held.call hBC HB
          generalize hr : intR _ _ _ _ = r at he
          have HR := Lib.hid hr
          clear hr hBA hBB hBC HA HB Hn cN cA
          unfold Gives tokTup at he; subst he
          obtain ⟨t6, v0, v1, v2, v3, v4, v5, t0, t1, t2, t3, t4, t5⟩ := HC.tok
          have hltc := HC.lt
          go_wp2_with fail
          refine bodyPost_ret (v := tokTup r) (by simp [tokTup, results, Tryd.results64, go_sem, t0, t1, t2, t3, t4, t5]) rfl ⟨?_, (HC.sets _ _ _ _ _ _).bel⟩
          rw [HK.out, HR.out]; rfl
        · have HD0 := Lib.hid (show span (isDig 2) (M.drop (p + 2)) = 0 by have := A3.out; omega)
          go_enter Tryd.func64, Tryd.ntmps64
          go_wp2_with fail
          refine (lex_char _ _ _ _ _ _ H0.lex (by omega)).mono ?_; rintro e w1 ⟨rfl, hB1⟩; rw [Int.toNat_natCast, HM.out]
          have H1 := Held.call hB1 H0
          have c1 := H1.lex.ca
          go_wp2_with fail
          refine (lex_char _ _ _ _ _ _ H1.lex (by omega)).mono ?_; rintro e w2 ⟨rfl, hB2⟩; rw [show ((p : Int) + 1).toNat = p + 1 by omega, HM.out]
          have H2 := Held.call hB2 H1
          have c2 := H2.lex.ca
          clear hB1 hB2 H1 c1 H0
          go_wp2_with fail
          refine (lex_digits _ _ _ _ _ _ _ H2.lex (by omega)).mono ?_; rintro e wA ⟨rfl, hBA⟩; rw [show ((p : Int) + 2).toNat = p + 2 by omega, HM.out, show span (isDig 2) (M.drop (p + 2)) = 0 from HD0.out]
          have Hn := Held.call hBA H2
          clear hBA H2 c2
          have cm := Hn.lex.ca
          go_wp2_with fail
          have hspd := span_le (isDig 10) (M.drop p)
          rw [List.length_drop, hlen.out] at hspd
          have HDl := Lib.hid (digits_len 10 (M.drop p))
          have HOKd := Lib.hid (digits_ok 10 (by decide) (by decide) (M.drop p))
          have cN := Hn.lex.ca
          generalize hDD : span (isDig 10) (M.drop p) = D at *
          have HDD := Lib.hid hDD
          clear hDD
          go_wp2_with fail
          refine (lex_digits _ _ _ _ _ _ _ Hn.lex (by omega)).mono ?_; rintro e wA ⟨rfl, hBA⟩; rw [Int.toNat_natCast, HM.out, HDD.out]
          have HA := Held.call hBA Hn
          have cA := HA.lex.ca
          go_wp2_with fail
          refine (lex_part _ _ _ _ _ _ _ HA.lex (by omega) (by omega) (by omega)).mono ?_; rintro e wB ⟨rfl, hBB⟩; rw [Int.toNat_natCast, HM.out, show ((p : Int) + D - p).toNat = D by omega]
          have HB := Held.call hBB HA
          go_wp2_with fail
          refine (lex_integer _ _ _ _ _ _ _ _ HB.lex (by rw [HDl.out]; omega) (by rw [HDl.out]; omega) (by decide) (by decide) HOKd.out).mono ?_; rintro e wC ⟨he, hBC⟩
          have HC := Held.call hBC HB
          generalize hr : intR _ _ _ _ = r at he
          have HR := Lib.hid hr
          clear hr hBA hBB hBC HA HB Hn cN cA
          unfold Gives tokTup at he; subst he
          obtain ⟨t6, v0, v1, v2, v3, v4, v5, t0, t1, t2, t3, t4, t5⟩ := HC.tok
          have hltc := HC.lt
          go_wp2_with fail
          refine bodyPost_ret (v := tokTup r) (by simp [tokTup, results, Tryd.results64, go_sem, t0, t1, t2, t3, t4, t5]) rfl ⟨?_, (HC.sets _ _ _ _ _ _).bel⟩
          rw [HK.out, HR.out]; rfl
        · have Hq : True := trivial
          go_enter Tryd.func64, Tryd.ntmps64
          go_wp2_with fail
          refine (lex_char _ _ _ _ _ _ H0.lex (by omega)).mono ?_; rintro e w1 ⟨rfl, hB1⟩; rw [Int.toNat_natCast, HM.out]
          have H1 := Held.call hB1 H0
          have c1 := H1.lex.ca
          go_wp2_with fail
          refine (lex_char _ _ _ _ _ _ H1.lex (by omega)).mono ?_; rintro e w2 ⟨rfl, hB2⟩; rw [show ((p : Int) + 1).toNat = p + 1 by omega, HM.out]
          have H2 := Held.call hB2 H1
          have c2 := H2.lex.ca
          clear hB1 hB2 H1 c1 H0
          go_wp2_with fail
          have Hn := H2
          clear H2
          have hspd := span_le (isDig 10) (M.drop p)
          rw [List.length_drop, hlen.out] at hspd
          have HDl := Lib.hid (digits_len 10 (M.drop p))
          have HOKd := Lib.hid (digits_ok 10 (by decide) (by decide) (M.drop p))
          have cN := Hn.lex.ca
          generalize hDD : span (isDig 10) (M.drop p) = D at *
          have HDD := Lib.hid hDD
          clear hDD
          refine (lex_digits _ _ _ _ _ _ _ Hn.lex (by omega)).mono ?_; rintro e wA ⟨rfl, hBA⟩; rw [Int.toNat_natCast, HM.out, HDD.out]
          have HA := Held.call hBA Hn
          have cA := HA.lex.ca
          go_wp2_with fail
          refine (lex_part _ _ _ _ _ _ _ HA.lex (by omega) (by omega) (by omega)).mono ?_; rintro e wB ⟨rfl, hBB⟩; rw [Int.toNat_natCast, HM.out, show ((p : Int) + D - p).toNat = D by omega]
          have HB := Held.call hBB HA
          go_wp2_with fail
          refine (lex_integer _ _ _ _ _ _ _ _ HB.lex (by rw [HDl.out]; omega) (by rw [HDl.out]; omega) (by decide) (by decide) HOKd.out).mono ?_; rintro e wC ⟨he, hBC⟩
          have HC := Held.call hBC HB
          generalize hr : intR _ _ _ _ = r at he
          have HR := Lib.hid hr
          clear hr hBA hBB hBC HA HB Hn cN cA
          unfold Gives tokTup at he; subst he
          obtain ⟨t6, v0, v1, v2, v3, v4, v5, t0, t1, t2, t3, t4, t5⟩ := HC.tok
          have hltc := HC.lt
          go_wp2_with fail
          refine bodyPost_ret (v := tokTup r) (by simp [tokTup, results, Tryd.results64, go_sem, t0, t1, t2, t3, t4, t5]) rfl ⟨?_, (HC.sets _ _ _ _ _ _).bel⟩
          rw [HK.out, HR.out]; rfl
  · have b1 : (rawAt M p == 48) = false := by simp [a1]
    have HK := Lib.hid (show numR M s.data.toList p = intR 10 ((M.drop p).take (span (isDig 10) (M.drop p))) p (p + span (isDig 10) (M.drop p)) by unfold numR; rw [if_neg (fun h => a1 h.1), if_neg (fun h => absurd h.1 (by unfold numBase; rw [if_neg a1]; decide))])
    clear a1
    go_enter Tryd.func64, Tryd.ntmps64
    go_wp2_with fail
    refine (lex_char _ _ _ _ _ _ H0.lex (by omega)).mono ?_; rintro e w1 ⟨rfl, hB1⟩; rw [Int.toNat_natCast, HM.out]
    have H1 := Held.call hB1 H0
    have c1 := H1.lex.ca
    go_wp2_with fail
    have Hn := H1
    clear H1
    have hspd := span_le (isDig 10) (M.drop p)
    rw [List.length_drop, hlen.out] at hspd
    have HDl := Lib.hid (digits_len 10 (M.drop p))
    have HOKd := Lib.hid (digits_ok 10 (by decide) (by decide) (M.drop p))
    have cN := Hn.lex.ca
    generalize hDD : span (isDig 10) (M.drop p) = D at *
    have HDD := Lib.hid hDD
    clear hDD
    refine (lex_digits _ _ _ _ _ _ _ Hn.lex (by omega)).mono ?_; rintro e wA ⟨rfl, hBA⟩; rw [Int.toNat_natCast, HM.out, HDD.out]
    have HA := Held.call hBA Hn
    have cA := HA.lex.ca
    go_wp2_with fail
    refine (lex_part _ _ _ _ _ _ _ HA.lex (by omega) (by omega) (by omega)).mono ?_; rintro e wB ⟨rfl, hBB⟩; rw [Int.toNat_natCast, HM.out, show ((p : Int) + D - p).toNat = D by omega]
    have HB := Held.call hBB HA
    go_wp2_with fail
    refine (lex_integer _ _ _ _ _ _ _ _ HB.lex (by rw [HDl.out]; omega) (by rw [HDl.out]; omega) (by decide) (by decide) HOKd.out).mono ?_; rintro e wC ⟨he, hBC⟩
    have HC := Held.call hBC HB
    generalize hr : intR _ _ _ _ = r at he
    have HR := Lib.hid hr
    clear hr hBA hBB hBC HA HB Hn cN cA
    unfold Gives tokTup at he; subst he
    obtain ⟨t6, v0, v1, v2, v3, v4, v5, t0, t1, t2, t3, t4, t5⟩ := HC.tok
    have hltc := HC.lt
    go_wp2_with fail
    refine bodyPost_ret (v := tokTup r) (by simp [tokTup, results, Tryd.results64, go_sem, t0, t1, t2, t3, t4, t5]) rfl ⟨?_, (HC.sets _ _ _ _ _ _).bel⟩
    rw [HK.out, HR.out]; rfl
end Go.Proofs.YtmjeajfakhmakaaDoor
