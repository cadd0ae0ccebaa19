/- Contracts of the lexer: the next token, by the class of its first character. -/
import Derived.Test.YtmjeajfakhmakaaDoorLexA
namespace Go.Proofs.YtmjeajfakhmakaaDoor
open Go.RowKit Hb
set_option maxRecDepth 100000

set_option maxHeartbeats 800000 in
theorem lex_next_0 (b : Nat) (s : ByteArray) (tab : Int → Int) (a : Nat) (at0 : Int) (w : World) (h : Lex w b s tab at0) (ha : a ≤ s.size) (e1 : ¬(a + skipN ((cvt tab s.data.toList).drop a)) = s.size) (e3 : ¬rawAt (cvt tab s.data.toList) (a + skipN ((cvt tab s.data.toList).drop a)) = 47) (hc : cls (rawAt (cvt tab s.data.toList) (a + skipN ((cvt tab s.data.toList).drop a))) = 0) :
    Calls Tryd.prog 50 #[.pointer (some ⟨b, 0, none⟩), .int .i64 a] w fun e w' => GivesN (nextR (cvt tab s.data.toList) s.data.toList a) e ∧ Only b w w' ∧ ∃ q, Lex w' b s tab q := by
  have H0 := NHeld.start h
  have hlt := h.lt
  have hsz := h.sz
  clear h
  have hlen : Hid ((cvt tab s.data.toList).length = s.size) := by show _ = _; rw [cvt_len]; simp
  have HRl : Hid (s.data.toList.length = s.size) := size_data s
  have hsk := skipN_le ((cvt tab s.data.toList).drop a)
  rw [List.length_drop, hlen.out] at hsk
  generalize hM : cvt tab s.data.toList = M at *
  have HM := Lib.hid hM
  clear hM
  generalize hS : skipN (M.drop a) = S at *
  have HS := Lib.hid hS
  clear hS
  have b1 : ((a : Int) + S == (s.size : Int)) = false := by simp; omega
  have HKN : Hid (∀ e, ¬e = 0 → (tokR M s.data.toList (a + S)).err = e → Hid (nextR M s.data.toList a = ⟨errR e, false, a + S⟩)) := fun e he h => by
    show nextR M s.data.toList a = _
    unfold nextR; simp only [HS.out]; rw [if_neg (by rw [HRl.out]; exact e1), if_neg (by rw [h]; exact he), h]; simp
  have HKY : Hid ((tokR M s.data.toList (a + S)).err = 0 → Hid (nextR M s.data.toList a = ⟨tokR M s.data.toList (a + S), decide (a < a + S), 0⟩)) := fun h => by
    show nextR M s.data.toList a = _
    unfold nextR; simp only [HS.out]; rw [if_neg (by rw [HRl.out]; exact e1), if_pos h]
  have hp : a + S < s.size := by omega
  have he1 := Lib.hid e1
  clear e1
  have b2 : (rawAt M (a + S) == 47) = false := by simp [e3]
  have HC := Lib.hid hc
  have HT := Lib.hid (show tokR M s.data.toList (a + S) = errR 7 by unfold tokR; rw [if_neg (fun h => e3 h.1), hc]; rfl)
  clear e3 hc
  go_enter Tryd.func50, Tryd.ntmps50
  go_wp2_with fail
  refine (lex_skip _ _ _ _ _ _ H0.lex (by omega)).mono ?_; rintro e w1 ⟨rfl, hB1⟩; rw [Int.toNat_natCast, HM.out, HS.out]
  have H1 := NHeld.call hB1 H0.lt H0
  have c1 := H1.lex.ca
  have f1 := H1.lex.fr 257
  have hl1 := H1.lex.lt
  have H2 := H1.setAt (a + S)
  clear hB1 H0 H1
  go_wp2_with fail
  generalize hw2 : w1.setCell ⟨b, 257, none⟩ (.int .i64 ((a : Int) + S)) = w2 at *
  clear hw2 c1 f1 hl1
  have c2 := H2.lex.ca
  have d2 := H2.lex.c0
  go_quiet (fail)
  have H3 := NHeld.call (bl_drewN (Below.refl w2.heap.size w2) nq) H2.lt H2
  clear H2 c2 d2
  generalize hw3 : w2.drewN nq = w3 at *
  clear hw3
  have c3 := H3.lex.ca
  obtain ⟨t6, v0, v1, v2, v3, v4, v5, t0, t1, t2, t3, t4, t5⟩ := H3.tok
  have hl3 := H3.lt
  have hb3 := H3.lex.lt
  have H4 := fun o => NHeld.call ((Below.refl w3.heap.size w3).alloc (Nat.le_refl _) o) H3.lt H3
  go_wp2_with fail
  refine (lex_char _ _ _ _ _ _ (H4 _).lex (by omega)).mono ?_; rintro e w6 ⟨rfl, hB6⟩; rw [show ((a : Int) + S).toNat = a + S by omega, HM.out]
  have H6 := NHeld.call hB6 (H4 _).lt (H4 _)
  have c6 := H6.lex.ca
  have r6 := hB6
  go_wp2_with fail
  refine (lex_char _ _ _ _ _ _ H6.lex (by omega)).mono ?_; rintro e w7 ⟨rfl, hB7⟩; rw [show ((a : Int) + S).toNat = a + S by omega, HM.out]
  have H7 := NHeld.call hB7 H6.lt H6
  have r7 := r6.trans (hB7.mono r6.size)
  go_wp2_with fail
  refine (chars_class _ _).mono ?_; rintro e w8 ⟨rfl, hB8⟩; rw [HC.out]
  have H8 := NHeld.call hB8 H7.lt H7
  have r8 := r7.trans (hB8.mono r7.size)
  have fk := (r8.cell (p := ⟨w3.heap.size, 0, none⟩) (by simp)).trans (reader_cell0 w3)
  clear hB7 hB8 H7 r7 r6 H6 c6 H3 H4 c3 hb3 t0 t1 t2 t3 t4 t5 t6 r8
  go_wp2_with fail
  refine (lex_none b _).mono ?_; rintro e w9 ⟨he, hB9⟩
  have H9 := NHeld.call hB9 H8.lt H8
  rw [← HT.out] at he
  generalize hr : tokR M s.data.toList (a + S) = r at *
  have HR := Lib.hid hr
  clear hr
  unfold Gives tokTup at he; subst he
  have c9 := H9.lex.ca
  have hl9 := H9.lt
  have hb9 := H9.lex.lt
  obtain ⟨u6, x0, x1, x2, x3, x4, x5, u0, u1, u2, u3, u4, u5⟩ := H9.tok
  clear H8 hB9 fk
  by_cases he0 : r.err = 0
  · have z1 : (r.err != 0) = false := by simp [he0]
    have HK := HKY.out he0
    have HE0 := Lib.hid he0
    clear he0
    go_wp2_with fail
    have hdec : Hid (decide ((a : Int) < (a : Int) + S) = decide (a < a + S)) := by show _ = _; rw [decide_eq_decide]; omega
    refine bodyPost_ret (v := nxtTup ⟨r, decide ((a : Int) < (a : Int) + S), 0⟩) ?_ rfl ⟨?_, only_sets_alloc H9.only (Nat.le_refl _) _ _ _ _ _ _ _, _, lex_sets_alloc H9.lex (by have := H9.blt; omega) _ _ _ _ _ _ _⟩
    · simp [nxtTup, results, Tryd.results50, go_sem, u0, u1, u2, u3, u4, u5, HE0.out, hl9]
    · rw [HK.out, ← hdec.out]; rfl
  · have z1 : (r.err != 0) = true := by simp [he0]
    have HK := HKN.out r.err he0 rfl
    clear he0
    go_wp2_with fail
    go_region
    go_wp2_with fail
    refine bodyPost_ret (v := nxtTup ⟨errR r.err, false, (a : Int) + S⟩) ?_ rfl ⟨?_, (only_sets_alloc H9.only (Nat.le_refl _) _ _ _ _ _ _ _).drew, _, (lex_sets_alloc H9.lex (by have := H9.blt; omega) _ _ _ _ _ _ _).drewN 1⟩
    · simp [nxtTup, errR, results, Tryd.results50, go_sem, u0, u1, u2, u3, u4, u5, hl9]
    · rw [HK.out]; rfl

set_option maxHeartbeats 800000 in
theorem lex_next_1 (b : Nat) (s : ByteArray) (tab : Int → Int) (a : Nat) (at0 : Int) (w : World) (h : Lex w b s tab at0) (ha : a ≤ s.size) (e1 : ¬(a + skipN ((cvt tab s.data.toList).drop a)) = s.size) (e3 : ¬rawAt (cvt tab s.data.toList) (a + skipN ((cvt tab s.data.toList).drop a)) = 47) (hc : cls (rawAt (cvt tab s.data.toList) (a + skipN ((cvt tab s.data.toList).drop a))) = 1) :
    Calls Tryd.prog 50 #[.pointer (some ⟨b, 0, none⟩), .int .i64 a] w fun e w' => GivesN (nextR (cvt tab s.data.toList) s.data.toList a) e ∧ Only b w w' ∧ ∃ q, Lex w' b s tab q := by
  have H0 := NHeld.start h
  have hlt := h.lt
  have hsz := h.sz
  clear h
  have hlen : Hid ((cvt tab s.data.toList).length = s.size) := by show _ = _; rw [cvt_len]; simp
  have HRl : Hid (s.data.toList.length = s.size) := size_data s
  have hsk := skipN_le ((cvt tab s.data.toList).drop a)
  rw [List.length_drop, hlen.out] at hsk
  generalize hM : cvt tab s.data.toList = M at *
  have HM := Lib.hid hM
  clear hM
  generalize hS : skipN (M.drop a) = S at *
  have HS := Lib.hid hS
  clear hS
  have b1 : ((a : Int) + S == (s.size : Int)) = false := by simp; omega
  have HKN : Hid (∀ e, ¬e = 0 → (tokR M s.data.toList (a + S)).err = e → Hid (nextR M s.data.toList a = ⟨errR e, false, a + S⟩)) := fun e he h => by
    show nextR M s.data.toList a = _
    unfold nextR; simp only [HS.out]; rw [if_neg (by rw [HRl.out]; exact e1), if_neg (by rw [h]; exact he), h]; simp
  have HKY : Hid ((tokR M s.data.toList (a + S)).err = 0 → Hid (nextR M s.data.toList a = ⟨tokR M s.data.toList (a + S), decide (a < a + S), 0⟩)) := fun h => by
    show nextR M s.data.toList a = _
    unfold nextR; simp only [HS.out]; rw [if_neg (by rw [HRl.out]; exact e1), if_pos h]
  have hp : a + S < s.size := by omega
  have he1 := Lib.hid e1
  clear e1
  have b2 : (rawAt M (a + S) == 47) = false := by simp [e3]
  have HC := Lib.hid hc
  have HT := Lib.hid (show tokR M s.data.toList (a + S) = errR 7 by unfold tokR; rw [if_neg (fun h => e3 h.1), hc]; rfl)
  clear e3 hc
  go_enter Tryd.func50, Tryd.ntmps50
  go_wp2_with fail
  refine (lex_skip _ _ _ _ _ _ H0.lex (by omega)).mono ?_; rintro e w1 ⟨rfl, hB1⟩; rw [Int.toNat_natCast, HM.out, HS.out]
  have H1 := NHeld.call hB1 H0.lt H0
  have c1 := H1.lex.ca
  have f1 := H1.lex.fr 257
  have hl1 := H1.lex.lt
  have H2 := H1.setAt (a + S)
  clear hB1 H0 H1
  go_wp2_with fail
  generalize hw2 : w1.setCell ⟨b, 257, none⟩ (.int .i64 ((a : Int) + S)) = w2 at *
  clear hw2 c1 f1 hl1
  have c2 := H2.lex.ca
  have d2 := H2.lex.c0
  go_quiet (fail)
  have H3 := NHeld.call (bl_drewN (Below.refl w2.heap.size w2) nq) H2.lt H2
  clear H2 c2 d2
  generalize hw3 : w2.drewN nq = w3 at *
  clear hw3
  have c3 := H3.lex.ca
  obtain ⟨t6, v0, v1, v2, v3, v4, v5, t0, t1, t2, t3, t4, t5⟩ := H3.tok
  have hl3 := H3.lt
  have hb3 := H3.lex.lt
  have H4 := fun o => NHeld.call ((Below.refl w3.heap.size w3).alloc (Nat.le_refl _) o) H3.lt H3
  go_wp2_with fail
  refine (lex_char _ _ _ _ _ _ (H4 _).lex (by omega)).mono ?_; rintro e w6 ⟨rfl, hB6⟩; rw [show ((a : Int) + S).toNat = a + S by omega, HM.out]
  have H6 := NHeld.call hB6 (H4 _).lt (H4 _)
  have c6 := H6.lex.ca
  have r6 := hB6
  go_wp2_with fail
  refine (lex_char _ _ _ _ _ _ H6.lex (by omega)).mono ?_; rintro e w7 ⟨rfl, hB7⟩; rw [show ((a : Int) + S).toNat = a + S by omega, HM.out]
  have H7 := NHeld.call hB7 H6.lt H6
  have r7 := r6.trans (hB7.mono r6.size)
  go_wp2_with fail
  refine (chars_class _ _).mono ?_; rintro e w8 ⟨rfl, hB8⟩; rw [HC.out]
  have H8 := NHeld.call hB8 H7.lt H7
  have r8 := r7.trans (hB8.mono r7.size)
  have fk := (r8.cell (p := ⟨w3.heap.size, 1, none⟩) (by simp)).trans (reader_cell1 w3)
  clear hB7 hB8 H7 r7 r6 H6 c6 H3 H4 c3 hb3 t0 t1 t2 t3 t4 t5 t6 r8
  go_wp2_with fail
  refine (lex_none b _).mono ?_; rintro e w9 ⟨he, hB9⟩
  have H9 := NHeld.call hB9 H8.lt H8
  rw [← HT.out] at he
  generalize hr : tokR M s.data.toList (a + S) = r at *
  have HR := Lib.hid hr
  clear hr
  unfold Gives tokTup at he; subst he
  have c9 := H9.lex.ca
  have hl9 := H9.lt
  have hb9 := H9.lex.lt
  obtain ⟨u6, x0, x1, x2, x3, x4, x5, u0, u1, u2, u3, u4, u5⟩ := H9.tok
  clear H8 hB9 fk
  by_cases he0 : r.err = 0
  · have z1 : (r.err != 0) = false := by simp [he0]
    have HK := HKY.out he0
    have HE0 := Lib.hid he0
    clear he0
    go_wp2_with fail
    have hdec : Hid (decide ((a : Int) < (a : Int) + S) = decide (a < a + S)) := by show _ = _; rw [decide_eq_decide]; omega
    refine bodyPost_ret (v := nxtTup ⟨r, decide ((a : Int) < (a : Int) + S), 0⟩) ?_ rfl ⟨?_, only_sets_alloc H9.only (Nat.le_refl _) _ _ _ _ _ _ _, _, lex_sets_alloc H9.lex (by have := H9.blt; omega) _ _ _ _ _ _ _⟩
    · simp [nxtTup, results, Tryd.results50, go_sem, u0, u1, u2, u3, u4, u5, HE0.out, hl9]
    · rw [HK.out, ← hdec.out]; rfl
  · have z1 : (r.err != 0) = true := by simp [he0]
    have HK := HKN.out r.err he0 rfl
    clear he0
    go_wp2_with fail
    go_region
    go_wp2_with fail
    refine bodyPost_ret (v := nxtTup ⟨errR r.err, false, (a : Int) + S⟩) ?_ rfl ⟨?_, (only_sets_alloc H9.only (Nat.le_refl _) _ _ _ _ _ _ _).drew, _, (lex_sets_alloc H9.lex (by have := H9.blt; omega) _ _ _ _ _ _ _).drewN 1⟩
    · simp [nxtTup, errR, results, Tryd.results50, go_sem, u0, u1, u2, u3, u4, u5, hl9]
    · rw [HK.out]; rfl

set_option maxHeartbeats 800000 in
theorem lex_next_8 (b : Nat) (s : ByteArray) (tab : Int → Int) (a : Nat) (at0 : Int) (w : World) (h : Lex w b s tab at0) (ha : a ≤ s.size) (e1 : ¬(a + skipN ((cvt tab s.data.toList).drop a)) = s.size) (e3 : ¬rawAt (cvt tab s.data.toList) (a + skipN ((cvt tab s.data.toList).drop a)) = 47) (hc : cls (rawAt (cvt tab s.data.toList) (a + skipN ((cvt tab s.data.toList).drop a))) = 8) :
    Calls Tryd.prog 50 #[.pointer (some ⟨b, 0, none⟩), .int .i64 a] w fun e w' => GivesN (nextR (cvt tab s.data.toList) s.data.toList a) e ∧ Only b w w' ∧ ∃ q, Lex w' b s tab q := by
  have H0 := NHeld.start h
  have hlt := h.lt
  have hsz := h.sz
  clear h
  have hlen : Hid ((cvt tab s.data.toList).length = s.size) := by show _ = _; rw [cvt_len]; simp
  have HRl : Hid (s.data.toList.length = s.size) := size_data s
  have hsk := skipN_le ((cvt tab s.data.toList).drop a)
  rw [List.length_drop, hlen.out] at hsk
  generalize hM : cvt tab s.data.toList = M at *
  have HM := Lib.hid hM
  clear hM
  generalize hS : skipN (M.drop a) = S at *
  have HS := Lib.hid hS
  clear hS
  have b1 : ((a : Int) + S == (s.size : Int)) = false := by simp; omega
  have HKN : Hid (∀ e, ¬e = 0 → (tokR M s.data.toList (a + S)).err = e → Hid (nextR M s.data.toList a = ⟨errR e, false, a + S⟩)) := fun e he h => by
    show nextR M s.data.toList a = _
    unfold nextR; simp only [HS.out]; rw [if_neg (by rw [HRl.out]; exact e1), if_neg (by rw [h]; exact he), h]; simp
  have HKY : Hid ((tokR M s.data.toList (a + S)).err = 0 → Hid (nextR M s.data.toList a = ⟨tokR M s.data.toList (a + S), decide (a < a + S), 0⟩)) := fun h => by
    show nextR M s.data.toList a = _
    unfold nextR; simp only [HS.out]; rw [if_neg (by rw [HRl.out]; exact e1), if_pos h]
  have hp : a + S < s.size := by omega
  have he1 := Lib.hid e1
  clear e1
  have b2 : (rawAt M (a + S) == 47) = false := by simp [e3]
  have HC := Lib.hid hc
  have HT := Lib.hid (show tokR M s.data.toList (a + S) = errR 7 by unfold tokR; rw [if_neg (fun h => e3 h.1), hc]; rfl)
  clear e3 hc
  go_enter Tryd.func50, Tryd.ntmps50
  go_wp2_with fail
  refine (lex_skip _ _ _ _ _ _ H0.lex (by omega)).mono ?_; rintro e w1 ⟨rfl, hB1⟩; rw [Int.toNat_natCast, HM.out, HS.out]
  have H1 := NHeld.call hB1 H0.lt H0
  have c1 := H1.lex.ca
  have f1 := H1.lex.fr 257
  have hl1 := H1.lex.lt
  have H2 := H1.setAt (a + S)
  clear hB1 H0 H1
  go_wp2_with fail
  generalize hw2 : w1.setCell ⟨b, 257, none⟩ (.int .i64 ((a : Int) + S)) = w2 at *
  clear hw2 c1 f1 hl1
  have c2 := H2.lex.ca
  have d2 := H2.lex.c0
  go_quiet (fail)
  have H3 := NHeld.call (bl_drewN (Below.refl w2.heap.size w2) nq) H2.lt H2
  clear H2 c2 d2
  generalize hw3 : w2.drewN nq = w3 at *
  clear hw3
  have c3 := H3.lex.ca
  obtain ⟨t6, v0, v1, v2, v3, v4, v5, t0, t1, t2, t3, t4, t5⟩ := H3.tok
  have hl3 := H3.lt
  have hb3 := H3.lex.lt
  have H4 := fun o => NHeld.call ((Below.refl w3.heap.size w3).alloc (Nat.le_refl _) o) H3.lt H3
  go_wp2_with fail
  refine (lex_char _ _ _ _ _ _ (H4 _).lex (by omega)).mono ?_; rintro e w6 ⟨rfl, hB6⟩; rw [show ((a : Int) + S).toNat = a + S by omega, HM.out]
  have H6 := NHeld.call hB6 (H4 _).lt (H4 _)
  have c6 := H6.lex.ca
  have r6 := hB6
  go_wp2_with fail
  refine (lex_char _ _ _ _ _ _ H6.lex (by omega)).mono ?_; rintro e w7 ⟨rfl, hB7⟩; rw [show ((a : Int) + S).toNat = a + S by omega, HM.out]
  have H7 := NHeld.call hB7 H6.lt H6
  have r7 := r6.trans (hB7.mono r6.size)
  go_wp2_with fail
  refine (chars_class _ _).mono ?_; rintro e w8 ⟨rfl, hB8⟩; rw [HC.out]
  have H8 := NHeld.call hB8 H7.lt H7
  have r8 := r7.trans (hB8.mono r7.size)
  have fk := (r8.cell (p := ⟨w3.heap.size, 8, none⟩) (by simp)).trans (reader_cell8 w3)
  clear hB7 hB8 H7 r7 r6 H6 c6 H3 H4 c3 hb3 t0 t1 t2 t3 t4 t5 t6 r8
  go_wp2_with fail
  refine (lex_none b _).mono ?_; rintro e w9 ⟨he, hB9⟩
  have H9 := NHeld.call hB9 H8.lt H8
  rw [← HT.out] at he
  generalize hr : tokR M s.data.toList (a + S) = r at *
  have HR := Lib.hid hr
  clear hr
  unfold Gives tokTup at he; subst he
  have c9 := H9.lex.ca
  have hl9 := H9.lt
  have hb9 := H9.lex.lt
  obtain ⟨u6, x0, x1, x2, x3, x4, x5, u0, u1, u2, u3, u4, u5⟩ := H9.tok
  clear H8 hB9 fk
  by_cases he0 : r.err = 0
  · have z1 : (r.err != 0) = false := by simp [he0]
    have HK := HKY.out he0
    have HE0 := Lib.hid he0
    clear he0
    go_wp2_with fail
    have hdec : Hid (decide ((a : Int) < (a : Int) + S) = decide (a < a + S)) := by show _ = _; rw [decide_eq_decide]; omega
    refine bodyPost_ret (v := nxtTup ⟨r, decide ((a : Int) < (a : Int) + S), 0⟩) ?_ rfl ⟨?_, only_sets_alloc H9.only (Nat.le_refl _) _ _ _ _ _ _ _, _, lex_sets_alloc H9.lex (by have := H9.blt; omega) _ _ _ _ _ _ _⟩
    · simp [nxtTup, results, Tryd.results50, go_sem, u0, u1, u2, u3, u4, u5, HE0.out, hl9]
    · rw [HK.out, ← hdec.out]; rfl
  · have z1 : (r.err != 0) = true := by simp [he0]
    have HK := HKN.out r.err he0 rfl
    clear he0
    go_wp2_with fail
    go_region
    go_wp2_with fail
    refine bodyPost_ret (v := nxtTup ⟨errR r.err, false, (a : Int) + S⟩) ?_ rfl ⟨?_, (only_sets_alloc H9.only (Nat.le_refl _) _ _ _ _ _ _ _).drew, _, (lex_sets_alloc H9.lex (by have := H9.blt; omega) _ _ _ _ _ _ _).drewN 1⟩
    · simp [nxtTup, errR, results, Tryd.results50, go_sem, u0, u1, u2, u3, u4, u5, hl9]
    · rw [HK.out]; rfl

set_option maxHeartbeats 800000 in
theorem lex_next_2 (b : Nat) (s : ByteArray) (tab : Int → Int) (a : Nat) (at0 : Int) (w : World) (h : Lex w b s tab at0) (ha : a ≤ s.size) (e1 : ¬(a + skipN ((cvt tab s.data.toList).drop a)) = s.size) (e3 : ¬rawAt (cvt tab s.data.toList) (a + skipN ((cvt tab s.data.toList).drop a)) = 47) (hc : cls (rawAt (cvt tab s.data.toList) (a + skipN ((cvt tab s.data.toList).drop a))) = 2) :
    Calls Tryd.prog 50 #[.pointer (some ⟨b, 0, none⟩), .int .i64 a] w fun e w' => GivesN (nextR (cvt tab s.data.toList) s.data.toList a) e ∧ Only b w w' ∧ ∃ q, Lex w' b s tab q := by
  have H0 := NHeld.start h
  have hlt := h.lt
  have hsz := h.sz
  clear h
  have hlen : Hid ((cvt tab s.data.toList).length = s.size) := by show _ = _; rw [cvt_len]; simp
  have HRl : Hid (s.data.toList.length = s.size) := size_data s
  have hsk := skipN_le ((cvt tab s.data.toList).drop a)
  rw [List.length_drop, hlen.out] at hsk
  generalize hM : cvt tab s.data.toList = M at *
  have HM := Lib.hid hM
  clear hM
  generalize hS : skipN (M.drop a) = S at *
  have HS := Lib.hid hS
  clear hS
  have b1 : ((a : Int) + S == (s.size : Int)) = false := by simp; omega
  have HKN : Hid (∀ e, ¬e = 0 → (tokR M s.data.toList (a + S)).err = e → Hid (nextR M s.data.toList a = ⟨errR e, false, a + S⟩)) := fun e he h => by
    show nextR M s.data.toList a = _
    unfold nextR; simp only [HS.out]; rw [if_neg (by rw [HRl.out]; exact e1), if_neg (by rw [h]; exact he), h]; simp
  have HKY : Hid ((tokR M s.data.toList (a + S)).err = 0 → Hid (nextR M s.data.toList a = ⟨tokR M s.data.toList (a + S), decide (a < a + S), 0⟩)) := fun h => by
    show nextR M s.data.toList a = _
    unfold nextR; simp only [HS.out]; rw [if_neg (by rw [HRl.out]; exact e1), if_pos h]
  have hp : a + S < s.size := by omega
  have he1 := Lib.hid e1
  clear e1
  have b2 : (rawAt M (a + S) == 47) = false := by simp [e3]
  have HC := Lib.hid hc
  have HT := Lib.hid (show tokR M s.data.toList (a + S) = wordR M (a + S) by unfold tokR; rw [if_neg (fun h => e3 h.1), hc]; rfl)
  clear e3 hc
  go_enter Tryd.func50, Tryd.ntmps50
  go_wp2_with fail
  refine (lex_skip _ _ _ _ _ _ H0.lex (by omega)).mono ?_; rintro e w1 ⟨rfl, hB1⟩; rw [Int.toNat_natCast, HM.out, HS.out]
  have H1 := NHeld.call hB1 H0.lt H0
  have c1 := H1.lex.ca
  have f1 := H1.lex.fr 257
  have hl1 := H1.lex.lt
  have H2 := H1.setAt (a + S)
  clear hB1 H0 H1
  go_wp2_with fail
  generalize hw2 : w1.setCell ⟨b, 257, none⟩ (.int .i64 ((a : Int) + S)) = w2 at *
  clear hw2 c1 f1 hl1
  have c2 := H2.lex.ca
  have d2 := H2.lex.c0
  go_quiet (fail)
  have H3 := NHeld.call (bl_drewN (Below.refl w2.heap.size w2) nq) H2.lt H2
  clear H2 c2 d2
  generalize hw3 : w2.drewN nq = w3 at *
  clear hw3
  have c3 := H3.lex.ca
  obtain ⟨t6, v0, v1, v2, v3, v4, v5, t0, t1, t2, t3, t4, t5⟩ := H3.tok
  have hl3 := H3.lt
  have hb3 := H3.lex.lt
  have H4 := fun o => NHeld.call ((Below.refl w3.heap.size w3).alloc (Nat.le_refl _) o) H3.lt H3
  go_wp2_with fail
  refine (lex_char _ _ _ _ _ _ (H4 _).lex (by omega)).mono ?_; rintro e w6 ⟨rfl, hB6⟩; rw [show ((a : Int) + S).toNat = a + S by omega, HM.out]
  have H6 := NHeld.call hB6 (H4 _).lt (H4 _)
  have c6 := H6.lex.ca
  have r6 := hB6
  go_wp2_with fail
  refine (lex_char _ _ _ _ _ _ H6.lex (by omega)).mono ?_; rintro e w7 ⟨rfl, hB7⟩; rw [show ((a : Int) + S).toNat = a + S by omega, HM.out]
  have H7 := NHeld.call hB7 H6.lt H6
  have r7 := r6.trans (hB7.mono r6.size)
  go_wp2_with fail
  refine (chars_class _ _).mono ?_; rintro e w8 ⟨rfl, hB8⟩; rw [HC.out]
  have H8 := NHeld.call hB8 H7.lt H7
  have r8 := r7.trans (hB8.mono r7.size)
  have fk := (r8.cell (p := ⟨w3.heap.size, 2, none⟩) (by simp)).trans (reader_cell2 w3)
  clear hB7 hB8 H7 r7 r6 H6 c6 H3 H4 c3 hb3 t0 t1 t2 t3 t4 t5 t6 r8
  go_wp2_with fail
  refine (lex_word b s tab (a + S) _ H8.lex (by omega)).mono ?_; rintro e w9 ⟨he, hB9⟩
  have H9 := NHeld.call hB9 H8.lt H8
  rw [HM.out] at he
  rw [← HT.out] at he
  generalize hr : tokR M s.data.toList (a + S) = r at *
  have HR := Lib.hid hr
  clear hr
  unfold Gives tokTup at he; subst he
  have c9 := H9.lex.ca
  have hl9 := H9.lt
  have hb9 := H9.lex.lt
  obtain ⟨u6, x0, x1, x2, x3, x4, x5, u0, u1, u2, u3, u4, u5⟩ := H9.tok
  clear H8 hB9 fk
  by_cases he0 : r.err = 0
  · have z1 : (r.err != 0) = false := by simp [he0]
    have HK := HKY.out he0
    have HE0 := Lib.hid he0
    clear he0
    go_wp2_with fail
    have hdec : Hid (decide ((a : Int) < (a : Int) + S) = decide (a < a + S)) := by show _ = _; rw [decide_eq_decide]; omega
    refine bodyPost_ret (v := nxtTup ⟨r, decide ((a : Int) < (a : Int) + S), 0⟩) ?_ rfl ⟨?_, only_sets_alloc H9.only (Nat.le_refl _) _ _ _ _ _ _ _, _, lex_sets_alloc H9.lex (by have := H9.blt; omega) _ _ _ _ _ _ _⟩
    · simp [nxtTup, results, Tryd.results50, go_sem, u0, u1, u2, u3, u4, u5, HE0.out, hl9]
    · rw [HK.out, ← hdec.out]; rfl
  · have z1 : (r.err != 0) = true := by simp [he0]
    have HK := HKN.out r.err he0 rfl
    clear he0
    go_wp2_with fail
    go_region
    go_wp2_with fail
    refine bodyPost_ret (v := nxtTup ⟨errR r.err, false, (a : Int) + S⟩) ?_ rfl ⟨?_, (only_sets_alloc H9.only (Nat.le_refl _) _ _ _ _ _ _ _).drew, _, (lex_sets_alloc H9.lex (by have := H9.blt; omega) _ _ _ _ _ _ _).drewN 1⟩
    · simp [nxtTup, errR, results, Tryd.results50, go_sem, u0, u1, u2, u3, u4, u5, hl9]
    · rw [HK.out]; rfl
end Go.Proofs.YtmjeajfakhmakaaDoor
