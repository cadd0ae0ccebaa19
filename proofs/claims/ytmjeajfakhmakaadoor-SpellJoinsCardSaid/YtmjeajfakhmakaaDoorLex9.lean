/- Contracts of the lexer: quoted items. -/
import Derived.Test.YtmjeajfakhmakaaDoorLex8
import Derived.Test.YtmjeajfakhmakaaDoorItemS
import Derived.WalkMore
import Derived.Deep.LoopGhost
namespace Go.Proofs.YtmjeajfakhmakaaDoor
open Go.RowKit Hb
set_option maxRecDepth 100000

theorem hown1_len {w : World} {base : Nat} {v : Value} {acc : List UInt8} {x : UInt8} (h : w.ownsRow base 5 1 v (acc.length + 1) (byteCells (acc ++ [x]))) : w.ownsRow base 5 1 v (acc ++ [x]).length (byteCells (acc ++ [x])) := by
  rw [List.length_append]; exact h

set_option maxHeartbeats 3200000 in
theorem lex_quote_str (b : Nat) (s : ByteArray) (tab : Int → Int) (p : Nat) (w : World) (h : Lex w b s tab p) (hp : p < s.size) (hq : rawAt (cvt tab s.data.toList) p = 34) :
    Calls Tryd.prog 67 #[.pointer (some ⟨b, 0, none⟩)] w fun e w' => Gives (quoteR (cvt tab s.data.toList) s.data.toList p) e ∧ Below w.heap.size w w' := by
  have H0 := Held.start h
  have hlt := h.lt
  have ca := h.ca
  have hsz := h.sz
  clear h
  have hlen : Hid ((cvt tab s.data.toList).length = s.size) := by show _ = _; rw [cvt_len]; simp
  generalize hM : cvt tab s.data.toList = M at *
  have HM := Lib.hid hM
  clear hM
  have b1 : (rawAt M p == 34) = true := by simp [hq]
  have HK := Lib.hid (show quoteR M s.data.toList p = strRes p (itemAt (s.data.toList.drop (p + 1)) 34 [] 0) by unfold quoteR; rw [if_pos hq]; unfold itemAt; simp)
  have A1 := Lib.hid hq
  clear hq
  have hRl : (s.data.toList.drop (p + 1)).length = s.size - (p + 1) := by rw [List.length_drop, size_data]
  have HRl := Lib.hid hRl
  clear hRl
  go_enter Tryd.func67, Tryd.ntmps67
  go_wp2_with fail
  go_step3
  go_wp2_with fail
  refine (lex_char _ _ _ _ _ _ H0.lex (by omega)).mono ?_; rintro e w1 ⟨rfl, hB1⟩; rw [Int.toNat_natCast, HM.out]
  have H1 := Held.call hB1 H0
  have c1 := H1.lex.ca
  rw [A1.out]
  go_wp2_with fail
  go_step3
  go_wp2_with fail
  go_loopw [6, 7] (fun v i wr => ∃ j : Nat, ∃ acc : List UInt8, p + 1 + j ≤ s.size ∧ acc.length ≤ j ∧ i = .int .i64 (p + 1 + j : Nat) ∧ Held w wr b s tab p ∧ wr.ownsRow (w.heap.size + 1) 5 1 v acc.length (byteCells acc) ∧ Hid (itemAt (s.data.toList.drop (p + 1)) 34 acc j = itemAt (s.data.toList.drop (p + 1)) 34 [] 0)) (fun _ i _ => s.size - (intOf i).toNat)
  case atStart => exact ⟨0, [], by omega, Nat.le_refl _, by go_num, H1, ⟨by simp [byteCells], .inl ⟨rfl, rfl⟩⟩, rfl⟩
  case round =>
    obtain ⟨j, acc, hj, hal, rfl, HX, hown, HE⟩ := hrel
    have hlenX := HX.lt
    have cX := HX.lex.ca
    have E0 := Lib.hid (rawAt_drop s.data.toList (p + 1) j)
    have E1 : Hid (rawAt (s.data.toList.drop (p + 1)) (j + 1) = rawAt s.data.toList (p + 1 + j + 1)) := rawAt_drop s.data.toList (p + 1) (j + 1)
    by_cases d0 : rawAt s.data.toList (p + 1 + j) = 34
    · have b0 : (rawAt s.data.toList (p + 1 + j) == 34) = true := by simp [d0]
      have b2 : (rawAt s.data.toList (p + 1 + j) == 92) = false := by simp [d0]
      by_cases d1 : rawAt s.data.toList (p + 1 + j + 1) = 34
      · have b3 : (rawAt s.data.toList (p + 1 + j + 1) != 34) = false := by simp [d1]
        have hn1 : ¬(rawAt s.data.toList (p + 1 + j) = 34 ∧ ¬rawAt s.data.toList (p + 1 + j + 1) = 34) := fun h => h.2 d1
        have hn2 : ¬(rawAt s.data.toList (p + 1 + j) = 92 ∧ rawAt s.data.toList (p + 1 + j + 1) = 10) := fun h => absurd h.1 (by rw [d0]; decide)
        clear d0 d1
        cases hqs : quotedS (s.data.toList.drop (p + 1 + j)) 34 with
        | none =>
          have HI := Lib.hid (itemAt_none (s.data.toList.drop (p + 1)) 34 (by decide) acc j (by rw [E0.out, E1.out]; exact hn1) (by rw [E0.out, E1.out]; exact hn2) (by rw [List.drop_drop]; exact hqs))
          have HQ := Lib.hid hqs
          clear hqs hn1 hn2
          go_wp2_with fail
          refine (lex_raw _ _ _ _ _ _ HX.lex (by omega)).mono ?_; rintro e wz ⟨rfl, rfl⟩; rw [show ((p : Int) + 1 + j).toNat = p + 1 + j by omega]
          go_wp2_with fail
          refine (lex_raw _ _ _ _ _ _ HX.lex (by omega)).mono ?_; rintro e wz ⟨rfl, rfl⟩; rw [show ((p : Int) + 1 + j + 1).toNat = p + 1 + j + 1 by omega]
          go_wp2_with fail
          refine (lex_raw _ _ _ _ _ _ HX.lex (by omega)).mono ?_; rintro e wz ⟨rfl, rfl⟩; rw [show ((p : Int) + 1 + j).toNat = p + 1 + j by omega]
          go_wp2_with fail
          refine (lex_quoted _ _ _ _ _ _ _ HX.lex (by omega) (by omega)).mono ?_; rintro e wz ⟨he, rfl⟩; rw [show ((p : Int) + 1 + j).toNat = p + 1 + j by omega, HQ.out] at he
          obtain ⟨x, y, rfl⟩ := he
          obtain ⟨t6, v0, v1, v2, v3, v4, v5, t0, t1, t2, t3, t4, t5⟩ := HX.tok
          have hltc := HX.lt
          go_wp2_with fail
          try rw [Exit.noGoto_ret]
          refine bodyPost_ret (v := tokTup (errR 7)) (by simp [tokTup, errR, results, Tryd.results67, go_sem, t0, t1, t2, t3, t4, t5]) rfl ⟨?_, (HX.sets _ _ _ _ _ _).bel⟩
          rw [HK.out, ← HE.out, HI.out]; rfl
        | some ck =>
          obtain ⟨c, k⟩ := ck
          have hok := quotedS_ok _ _ _ _ (by decide) hqs
          rw [List.length_drop] at hok
          have HI := Lib.hid (itemAt_some (s.data.toList.drop (p + 1)) 34 (by decide) acc j k c (by rw [E0.out, E1.out]; exact hn1) (by rw [E0.out, E1.out]; exact hn2) (by rw [List.drop_drop]; exact hqs))
          have HQ := Lib.hid hqs
          have hk1 : 1 ≤ k := hok.1
          have hk2 : p + 1 + j + k ≤ s.size := by have := hok.2.1; have := hok.1; rw [size_data] at *; omega
          have hc0 : 0 ≤ c := hok.2.2.1
          have hc1 : c ≤ 255 := hok.2.2.2
          clear hqs hn1 hn2 hok
          go_wp2_with fail
          refine (lex_raw _ _ _ _ _ _ HX.lex (by omega)).mono ?_; rintro e wz ⟨rfl, rfl⟩; rw [show ((p : Int) + 1 + j).toNat = p + 1 + j by omega]
          go_wp2_with fail
          refine (lex_raw _ _ _ _ _ _ HX.lex (by omega)).mono ?_; rintro e wz ⟨rfl, rfl⟩; rw [show ((p : Int) + 1 + j + 1).toNat = p + 1 + j + 1 by omega]
          go_wp2_with fail
          refine (lex_raw _ _ _ _ _ _ HX.lex (by omega)).mono ?_; rintro e wz ⟨rfl, rfl⟩; rw [show ((p : Int) + 1 + j).toNat = p + 1 + j by omega]
          go_wp2_with fail
          refine (lex_quoted _ _ _ _ _ _ _ HX.lex (by omega) (by omega)).mono ?_; rintro e wz ⟨he, rfl⟩; rw [show ((p : Int) + 1 + j).toNat = p + 1 + j by omega, HQ.out] at he
          unfold QRes at he
          simp only [] at he
          subst he
          go_wp2_with (at_builtin; go_must (refine wpList_append_byte rfl _ _ 54 5 rfl Tryd.underlying54 infoU8 (w.heap.size + 1) _ _ _ rfl _ hown _ hc0 hc1 rfl rfl (by omega) (by have := HX.lt; omega) ?_; intro v1 w2 hown1 hB2))
          have HX2 := Held.callB hB2 (by omega) HX
          go_roundw
          case rel => exact ⟨j + k, acc ++ [c.toNat.toUInt8], by omega, by simp; omega, by go_num, HX2, hown1_len hown1, by rw [← HI.out]; exact HE.out⟩
          case measure => simp [intOf]; omega
      · have b3 : (rawAt s.data.toList (p + 1 + j + 1) != 34) = true := by simp [d1]
        have HI := Lib.hid (itemAt_end (s.data.toList.drop (p + 1)) 34 (by decide) acc j (by rw [E0.out]; exact d0) (by rw [E1.out]; exact d1))
        clear d0 d1
        have hc := conv_own (P := Tryd.prog) wr 54 9 5 Tryd.underlying54 Tryd.underlying5 Tryd.underlying9 _ _ _ _ hown
        obtain ⟨t6, v0, v1, v2, v3, v4, v5, t0, t1, t2, t3, t4, t5⟩ := HX.tok
        go_wp2_with fail
        refine (lex_raw _ _ _ _ _ _ HX.lex (by omega)).mono ?_; rintro e wz ⟨rfl, rfl⟩; rw [show ((p : Int) + 1 + j).toNat = p + 1 + j by omega]
        go_wp2_with fail
        refine (lex_raw _ _ _ _ _ _ HX.lex (by omega)).mono ?_; rintro e wz ⟨rfl, rfl⟩; rw [show ((p : Int) + 1 + j + 1).toNat = p + 1 + j + 1 by omega]
        go_wp2_with fail
        have hltc := HX.lt
        have hcd := conv_own (P := Tryd.prog) wr.drew 54 9 5 Tryd.underlying54 Tryd.underlying5 Tryd.underlying9 _ _ _ _ hown.drew
        go_region
        go_wp2_with fail
        try rw [Exit.noGoto_ret]
        refine bodyPost_ret (v := tokTup ⟨5, acc, 0, p, p + 1 + j + 1, 0⟩) (by simp [tokTup, results, Tryd.results67, go_sem, t0, t1, t2, t3, t4, t5]) rfl ⟨?_, (HX.sets _ _ _ _ _ _).drew.bel⟩
        rw [HK.out, ← HE.out, HI.out]; rfl
    · have b0 : (rawAt s.data.toList (p + 1 + j) == 34) = false := by simp [d0]
      have hn1 : ¬(rawAt s.data.toList (p + 1 + j) = 34 ∧ ¬rawAt s.data.toList (p + 1 + j + 1) = 34) := fun h => d0 h.1
      clear d0
      by_cases d2 : rawAt s.data.toList (p + 1 + j) = 92
      · have b2 : (rawAt s.data.toList (p + 1 + j) == 92) = true := by simp [d2]
        by_cases d3 : rawAt s.data.toList (p + 1 + j + 1) = 10
        · have b3 : (rawAt s.data.toList (p + 1 + j + 1) == 10) = true := by simp [d3]
          have HI := Lib.hid (itemAt_cont (s.data.toList.drop (p + 1)) 34 (by decide) acc j (by rw [E0.out, E1.out]; exact hn1) (by rw [E0.out]; exact d2) (by rw [E1.out]; exact d3))
          have hk2 : p + 1 + j + 2 ≤ s.size := by have := rawAt_neg s.data.toList (p + 1 + j + 1); rw [size_data] at this; omega
          clear d2 d3 hn1
          go_wp2_with fail
          refine (lex_raw _ _ _ _ _ _ HX.lex (by omega)).mono ?_; rintro e wz ⟨rfl, rfl⟩; rw [show ((p : Int) + 1 + j).toNat = p + 1 + j by omega]
          go_wp2_with fail
          refine (lex_raw _ _ _ _ _ _ HX.lex (by omega)).mono ?_; rintro e wz ⟨rfl, rfl⟩; rw [show ((p : Int) + 1 + j).toNat = p + 1 + j by omega]
          go_wp2_with fail
          refine (lex_raw _ _ _ _ _ _ HX.lex (by omega)).mono ?_; rintro e wz ⟨rfl, rfl⟩; rw [show ((p : Int) + 1 + j + 1).toNat = p + 1 + j + 1 by omega]
          go_wp2_with fail
          go_roundw
          case rel => exact ⟨j + 2, acc, by omega, by omega, by go_num, HX, hown, by rw [← HI.out]; exact HE.out⟩
          case measure => simp [intOf]; omega
        · have b3 : (rawAt s.data.toList (p + 1 + j + 1) == 10) = false := by simp [d3]
          have hn2 : ¬(rawAt s.data.toList (p + 1 + j) = 92 ∧ rawAt s.data.toList (p + 1 + j + 1) = 10) := fun h => d3 h.2
          clear d2 d3
          cases hqs : quotedS (s.data.toList.drop (p + 1 + j)) 34 with
          | none =>
            have HI := Lib.hid (itemAt_none (s.data.toList.drop (p + 1)) 34 (by decide) acc j (by rw [E0.out, E1.out]; exact hn1) (by rw [E0.out, E1.out]; exact hn2) (by rw [List.drop_drop]; exact hqs))
            have HQ := Lib.hid hqs
            clear hqs hn1 hn2
            go_wp2_with fail
            refine (lex_raw _ _ _ _ _ _ HX.lex (by omega)).mono ?_; rintro e wz ⟨rfl, rfl⟩; rw [show ((p : Int) + 1 + j).toNat = p + 1 + j by omega]
            go_wp2_with fail
            refine (lex_raw _ _ _ _ _ _ HX.lex (by omega)).mono ?_; rintro e wz ⟨rfl, rfl⟩; rw [show ((p : Int) + 1 + j).toNat = p + 1 + j by omega]
            go_wp2_with fail
            refine (lex_raw _ _ _ _ _ _ HX.lex (by omega)).mono ?_; rintro e wz ⟨rfl, rfl⟩; rw [show ((p : Int) + 1 + j + 1).toNat = p + 1 + j + 1 by omega]
            go_wp2_with fail
            refine (lex_quoted _ _ _ _ _ _ _ HX.lex (by omega) (by omega)).mono ?_; rintro e wz ⟨he, rfl⟩; rw [show ((p : Int) + 1 + j).toNat = p + 1 + j by omega, HQ.out] at he
            obtain ⟨x, y, rfl⟩ := he
            obtain ⟨t6, v0, v1, v2, v3, v4, v5, t0, t1, t2, t3, t4, t5⟩ := HX.tok
            have hltc := HX.lt
            go_wp2_with fail
            try rw [Exit.noGoto_ret]
            refine bodyPost_ret (v := tokTup (errR 7)) (by simp [tokTup, errR, results, Tryd.results67, go_sem, t0, t1, t2, t3, t4, t5]) rfl ⟨?_, (HX.sets _ _ _ _ _ _).bel⟩
            rw [HK.out, ← HE.out, HI.out]; rfl
          | some ck =>
            obtain ⟨c, k⟩ := ck
            have hok := quotedS_ok _ _ _ _ (by decide) hqs
            rw [List.length_drop] at hok
            have HI := Lib.hid (itemAt_some (s.data.toList.drop (p + 1)) 34 (by decide) acc j k c (by rw [E0.out, E1.out]; exact hn1) (by rw [E0.out, E1.out]; exact hn2) (by rw [List.drop_drop]; exact hqs))
            have HQ := Lib.hid hqs
            have hk1 : 1 ≤ k := hok.1
            have hk2 : p + 1 + j + k ≤ s.size := by have := hok.2.1; have := hok.1; rw [size_data] at *; omega
            have hc0 : 0 ≤ c := hok.2.2.1
            have hc1 : c ≤ 255 := hok.2.2.2
            clear hqs hn1 hn2 hok
            go_wp2_with fail
            refine (lex_raw _ _ _ _ _ _ HX.lex (by omega)).mono ?_; rintro e wz ⟨rfl, rfl⟩; rw [show ((p : Int) + 1 + j).toNat = p + 1 + j by omega]
            go_wp2_with fail
            refine (lex_raw _ _ _ _ _ _ HX.lex (by omega)).mono ?_; rintro e wz ⟨rfl, rfl⟩; rw [show ((p : Int) + 1 + j).toNat = p + 1 + j by omega]
            go_wp2_with fail
            refine (lex_raw _ _ _ _ _ _ HX.lex (by omega)).mono ?_; rintro e wz ⟨rfl, rfl⟩; rw [show ((p : Int) + 1 + j + 1).toNat = p + 1 + j + 1 by omega]
            go_wp2_with fail
            refine (lex_quoted _ _ _ _ _ _ _ HX.lex (by omega) (by omega)).mono ?_; rintro e wz ⟨he, rfl⟩; rw [show ((p : Int) + 1 + j).toNat = p + 1 + j by omega, HQ.out] at he
            unfold QRes at he
            simp only [] at he
            subst he
            go_wp2_with (at_builtin; go_must (refine wpList_append_byte rfl _ _ 54 5 rfl Tryd.underlying54 infoU8 (w.heap.size + 1) _ _ _ rfl _ hown _ hc0 hc1 rfl rfl (by omega) (by have := HX.lt; omega) ?_; intro v1 w2 hown1 hB2))
            have HX2 := Held.callB hB2 (by omega) HX
            go_roundw
            case rel => exact ⟨j + k, acc ++ [c.toNat.toUInt8], by omega, by simp; omega, by go_num, HX2, hown1_len hown1, by rw [← HI.out]; exact HE.out⟩
            case measure => simp [intOf]; omega
      · have b2 : (rawAt s.data.toList (p + 1 + j) == 92) = false := by simp [d2]
        have hn2 : ¬(rawAt s.data.toList (p + 1 + j) = 92 ∧ rawAt s.data.toList (p + 1 + j + 1) = 10) := fun h => d2 h.1
        clear d2
        cases hqs : quotedS (s.data.toList.drop (p + 1 + j)) 34 with
        | none =>
          have HI := Lib.hid (itemAt_none (s.data.toList.drop (p + 1)) 34 (by decide) acc j (by rw [E0.out, E1.out]; exact hn1) (by rw [E0.out, E1.out]; exact hn2) (by rw [List.drop_drop]; exact hqs))
          have HQ := Lib.hid hqs
          clear hqs hn1 hn2
          go_wp2_with fail
          refine (lex_raw _ _ _ _ _ _ HX.lex (by omega)).mono ?_; rintro e wz ⟨rfl, rfl⟩; rw [show ((p : Int) + 1 + j).toNat = p + 1 + j by omega]
          go_wp2_with fail
          refine (lex_raw _ _ _ _ _ _ HX.lex (by omega)).mono ?_; rintro e wz ⟨rfl, rfl⟩; rw [show ((p : Int) + 1 + j).toNat = p + 1 + j by omega]
          go_wp2_with fail
          refine (lex_quoted _ _ _ _ _ _ _ HX.lex (by omega) (by omega)).mono ?_; rintro e wz ⟨he, rfl⟩; rw [show ((p : Int) + 1 + j).toNat = p + 1 + j by omega, HQ.out] at he
          obtain ⟨x, y, rfl⟩ := he
          obtain ⟨t6, v0, v1, v2, v3, v4, v5, t0, t1, t2, t3, t4, t5⟩ := HX.tok
          have hltc := HX.lt
          go_wp2_with fail
          try rw [Exit.noGoto_ret]
          refine bodyPost_ret (v := tokTup (errR 7)) (by simp [tokTup, errR, results, Tryd.results67, go_sem, t0, t1, t2, t3, t4, t5]) rfl ⟨?_, (HX.sets _ _ _ _ _ _).bel⟩
          rw [HK.out, ← HE.out, HI.out]; rfl
        | some ck =>
          obtain ⟨c, k⟩ := ck
          have hok := quotedS_ok _ _ _ _ (by decide) hqs
          rw [List.length_drop] at hok
          have HI := Lib.hid (itemAt_some (s.data.toList.drop (p + 1)) 34 (by decide) acc j k c (by rw [E0.out, E1.out]; exact hn1) (by rw [E0.out, E1.out]; exact hn2) (by rw [List.drop_drop]; exact hqs))
          have HQ := Lib.hid hqs
          have hk1 : 1 ≤ k := hok.1
          have hk2 : p + 1 + j + k ≤ s.size := by have := hok.2.1; have := hok.1; rw [size_data] at *; omega
          have hc0 : 0 ≤ c := hok.2.2.1
          have hc1 : c ≤ 255 := hok.2.2.2
          clear hqs hn1 hn2 hok
          go_wp2_with fail
          refine (lex_raw _ _ _ _ _ _ HX.lex (by omega)).mono ?_; rintro e wz ⟨rfl, rfl⟩; rw [show ((p : Int) + 1 + j).toNat = p + 1 + j by omega]
          go_wp2_with fail
          refine (lex_raw _ _ _ _ _ _ HX.lex (by omega)).mono ?_; rintro e wz ⟨rfl, rfl⟩; rw [show ((p : Int) + 1 + j).toNat = p + 1 + j by omega]
          go_wp2_with fail
          refine (lex_quoted _ _ _ _ _ _ _ HX.lex (by omega) (by omega)).mono ?_; rintro e wz ⟨he, rfl⟩; rw [show ((p : Int) + 1 + j).toNat = p + 1 + j by omega, HQ.out] at he
          unfold QRes at he
          simp only [] at he
          subst he
          go_wp2_with (at_builtin; go_must (refine wpList_append_byte rfl _ _ 54 5 rfl Tryd.underlying54 infoU8 (w.heap.size + 1) _ _ _ rfl _ hown _ hc0 hc1 rfl rfl (by omega) (by have := HX.lt; omega) ?_; intro v1 w2 hown1 hB2))
          have HX2 := Held.callB hB2 (by omega) HX
          go_roundw
          case rel => exact ⟨j + k, acc ++ [c.toNat.toUInt8], by omega, by simp; omega, by go_num, HX2, hown1_len hown1, by rw [← HI.out]; exact HE.out⟩
          case measure => simp [intOf]; omega

set_option maxHeartbeats 3200000 in
theorem lex_quote_nm (b : Nat) (s : ByteArray) (tab : Int → Int) (p : Nat) (w : World) (h : Lex w b s tab p) (hp : p < s.size) (hq : rawAt (cvt tab s.data.toList) p = 39) :
    Calls Tryd.prog 67 #[.pointer (some ⟨b, 0, none⟩)] w fun e w' => Gives (quoteR (cvt tab s.data.toList) s.data.toList p) e ∧ Below w.heap.size w w' := by
  have H0 := Held.start h
  have hlt := h.lt
  have ca := h.ca
  have hsz := h.sz
  clear h
  have hlen : Hid ((cvt tab s.data.toList).length = s.size) := by show _ = _; rw [cvt_len]; simp
  generalize hM : cvt tab s.data.toList = M at *
  have HM := Lib.hid hM
  clear hM
  have b1 : (rawAt M p == 39) = true := by simp [hq]
  have HK := Lib.hid (show quoteR M s.data.toList p = nmRes p (itemAt (s.data.toList.drop (p + 1)) 39 [] 0) by unfold quoteR; rw [if_neg (by rw [hq]; decide), if_pos hq]; unfold itemAt; simp)
  have A1 := Lib.hid hq
  clear hq
  have hRl : (s.data.toList.drop (p + 1)).length = s.size - (p + 1) := by rw [List.length_drop, size_data]
  have HRl := Lib.hid hRl
  clear hRl
  go_enter Tryd.func67, Tryd.ntmps67
  go_wp2_with fail
  go_step3
  go_wp2_with fail
  refine (lex_char _ _ _ _ _ _ H0.lex (by omega)).mono ?_; rintro e w1 ⟨rfl, hB1⟩; rw [Int.toNat_natCast, HM.out]
  have H1 := Held.call hB1 H0
  have c1 := H1.lex.ca
  rw [A1.out]
  go_wp2_with fail
  go_step3
  go_wp2_with fail
  go_loopw [6, 7] (fun v i wr => ∃ j : Nat, ∃ acc : List UInt8, p + 1 + j ≤ s.size ∧ acc.length ≤ j ∧ i = .int .i64 (p + 1 + j : Nat) ∧ Held w wr b s tab p ∧ wr.ownsRow (w.heap.size + 1) 5 1 v acc.length (byteCells acc) ∧ Hid (itemAt (s.data.toList.drop (p + 1)) 39 acc j = itemAt (s.data.toList.drop (p + 1)) 39 [] 0)) (fun _ i _ => s.size - (intOf i).toNat)
  case atStart => exact ⟨0, [], by omega, Nat.le_refl _, by go_num, H1, ⟨by simp [byteCells], .inl ⟨rfl, rfl⟩⟩, rfl⟩
  case round =>
    obtain ⟨j, acc, hj, hal, rfl, HX, hown, HE⟩ := hrel
    have hlenX := HX.lt
    have cX := HX.lex.ca
    have E0 := Lib.hid (rawAt_drop s.data.toList (p + 1) j)
    have E1 : Hid (rawAt (s.data.toList.drop (p + 1)) (j + 1) = rawAt s.data.toList (p + 1 + j + 1)) := rawAt_drop s.data.toList (p + 1) (j + 1)
    by_cases d0 : rawAt s.data.toList (p + 1 + j) = 39
    · have b0 : (rawAt s.data.toList (p + 1 + j) == 39) = true := by simp [d0]
      have b2 : (rawAt s.data.toList (p + 1 + j) == 92) = false := by simp [d0]
      by_cases d1 : rawAt s.data.toList (p + 1 + j + 1) = 39
      · have b3 : (rawAt s.data.toList (p + 1 + j + 1) != 39) = false := by simp [d1]
        have hn1 : ¬(rawAt s.data.toList (p + 1 + j) = 39 ∧ ¬rawAt s.data.toList (p + 1 + j + 1) = 39) := fun h => h.2 d1
        have hn2 : ¬(rawAt s.data.toList (p + 1 + j) = 92 ∧ rawAt s.data.toList (p + 1 + j + 1) = 10) := fun h => absurd h.1 (by rw [d0]; decide)
        clear d0 d1
        cases hqs : quotedS (s.data.toList.drop (p + 1 + j)) 39 with
        | none =>
          have HI := Lib.hid (itemAt_none (s.data.toList.drop (p + 1)) 39 (by decide) acc j (by rw [E0.out, E1.out]; exact hn1) (by rw [E0.out, E1.out]; exact hn2) (by rw [List.drop_drop]; exact hqs))
          have HQ := Lib.hid hqs
          clear hqs hn1 hn2
          go_wp2_with fail
          refine (lex_raw _ _ _ _ _ _ HX.lex (by omega)).mono ?_; rintro e wz ⟨rfl, rfl⟩; rw [show ((p : Int) + 1 + j).toNat = p + 1 + j by omega]
          go_wp2_with fail
          refine (lex_raw _ _ _ _ _ _ HX.lex (by omega)).mono ?_; rintro e wz ⟨rfl, rfl⟩; rw [show ((p : Int) + 1 + j + 1).toNat = p + 1 + j + 1 by omega]
          go_wp2_with fail
          refine (lex_raw _ _ _ _ _ _ HX.lex (by omega)).mono ?_; rintro e wz ⟨rfl, rfl⟩; rw [show ((p : Int) + 1 + j).toNat = p + 1 + j by omega]
          go_wp2_with fail
          refine (lex_quoted _ _ _ _ _ _ _ HX.lex (by omega) (by omega)).mono ?_; rintro e wz ⟨he, rfl⟩; rw [show ((p : Int) + 1 + j).toNat = p + 1 + j by omega, HQ.out] at he
          obtain ⟨x, y, rfl⟩ := he
          obtain ⟨t6, v0, v1, v2, v3, v4, v5, t0, t1, t2, t3, t4, t5⟩ := HX.tok
          have hltc := HX.lt
          go_wp2_with fail
          try rw [Exit.noGoto_ret]
          refine bodyPost_ret (v := tokTup (errR 7)) (by simp [tokTup, errR, results, Tryd.results67, go_sem, t0, t1, t2, t3, t4, t5]) rfl ⟨?_, (HX.sets _ _ _ _ _ _).bel⟩
          rw [HK.out, ← HE.out, HI.out]; rfl
        | some ck =>
          obtain ⟨c, k⟩ := ck
          have hok := quotedS_ok _ _ _ _ (by decide) hqs
          rw [List.length_drop] at hok
          have HI := Lib.hid (itemAt_some (s.data.toList.drop (p + 1)) 39 (by decide) acc j k c (by rw [E0.out, E1.out]; exact hn1) (by rw [E0.out, E1.out]; exact hn2) (by rw [List.drop_drop]; exact hqs))
          have HQ := Lib.hid hqs
          have hk1 : 1 ≤ k := hok.1
          have hk2 : p + 1 + j + k ≤ s.size := by have := hok.2.1; have := hok.1; rw [size_data] at *; omega
          have hc0 : 0 ≤ c := hok.2.2.1
          have hc1 : c ≤ 255 := hok.2.2.2
          clear hqs hn1 hn2 hok
          go_wp2_with fail
          refine (lex_raw _ _ _ _ _ _ HX.lex (by omega)).mono ?_; rintro e wz ⟨rfl, rfl⟩; rw [show ((p : Int) + 1 + j).toNat = p + 1 + j by omega]
          go_wp2_with fail
          refine (lex_raw _ _ _ _ _ _ HX.lex (by omega)).mono ?_; rintro e wz ⟨rfl, rfl⟩; rw [show ((p : Int) + 1 + j + 1).toNat = p + 1 + j + 1 by omega]
          go_wp2_with fail
          refine (lex_raw _ _ _ _ _ _ HX.lex (by omega)).mono ?_; rintro e wz ⟨rfl, rfl⟩; rw [show ((p : Int) + 1 + j).toNat = p + 1 + j by omega]
          go_wp2_with fail
          refine (lex_quoted _ _ _ _ _ _ _ HX.lex (by omega) (by omega)).mono ?_; rintro e wz ⟨he, rfl⟩; rw [show ((p : Int) + 1 + j).toNat = p + 1 + j by omega, HQ.out] at he
          unfold QRes at he
          simp only [] at he
          subst he
          go_wp2_with (at_builtin; go_must (refine wpList_append_byte rfl _ _ 54 5 rfl Tryd.underlying54 infoU8 (w.heap.size + 1) _ _ _ rfl _ hown _ hc0 hc1 rfl rfl (by omega) (by have := HX.lt; omega) ?_; intro v1 w2 hown1 hB2))
          have HX2 := Held.callB hB2 (by omega) HX
          go_roundw
          case rel => exact ⟨j + k, acc ++ [c.toNat.toUInt8], by omega, by simp; omega, by go_num, HX2, hown1_len hown1, by rw [← HI.out]; exact HE.out⟩
          case measure => simp [intOf]; omega
      · have b3 : (rawAt s.data.toList (p + 1 + j + 1) != 39) = true := by simp [d1]
        have HI := Lib.hid (itemAt_end (s.data.toList.drop (p + 1)) 39 (by decide) acc j (by rw [E0.out]; exact d0) (by rw [E1.out]; exact d1))
        clear d0 d1
        have hc := conv_own (P := Tryd.prog) wr 54 9 5 Tryd.underlying54 Tryd.underlying5 Tryd.underlying9 _ _ _ _ hown
        obtain ⟨t6, v0, v1, v2, v3, v4, v5, t0, t1, t2, t3, t4, t5⟩ := HX.tok
        go_wp2_with fail
        refine (lex_raw _ _ _ _ _ _ HX.lex (by omega)).mono ?_; rintro e wz ⟨rfl, rfl⟩; rw [show ((p : Int) + 1 + j).toNat = p + 1 + j by omega]
        go_wp2_with fail
        refine (lex_raw _ _ _ _ _ _ HX.lex (by omega)).mono ?_; rintro e wz ⟨rfl, rfl⟩; rw [show ((p : Int) + 1 + j + 1).toNat = p + 1 + j + 1 by omega]
        go_wp2_with fail
        refine (lex_named _ _ _ _ _ _ _ _ HX.lex (by omega)).mono ?_; rintro e w2 ⟨he, hB2⟩
        have HC := Held.call hB2 HX
        generalize hr : namedR _ _ _ _ = r at he
        have HR := Lib.hid hr
        clear hr t0 t1 t2 t3 t4 t5 t6
        unfold Gives tokTup at he; subst he
        obtain ⟨t6, v0, v1, v2, v3, v4, v5, t0, t1, t2, t3, t4, t5⟩ := HC.tok
        have hltc := HC.lt
        go_wp2_with fail
        try rw [Exit.noGoto_ret]
        refine bodyPost_ret (v := tokTup r) (by simp [tokTup, results, Tryd.results67, go_sem, t0, t1, t2, t3, t4, t5]) rfl ⟨?_, (HC.sets _ _ _ _ _ _).bel⟩
        rw [HK.out, ← HE.out, HI.out, ← HR.out]; rfl
    · have b0 : (rawAt s.data.toList (p + 1 + j) == 39) = false := by simp [d0]
      have hn1 : ¬(rawAt s.data.toList (p + 1 + j) = 39 ∧ ¬rawAt s.data.toList (p + 1 + j + 1) = 39) := fun h => d0 h.1
      clear d0
      by_cases d2 : rawAt s.data.toList (p + 1 + j) = 92
      · have b2 : (rawAt s.data.toList (p + 1 + j) == 92) = true := by simp [d2]
        by_cases d3 : rawAt s.data.toList (p + 1 + j + 1) = 10
        · have b3 : (rawAt s.data.toList (p + 1 + j + 1) == 10) = true := by simp [d3]
          have HI := Lib.hid (itemAt_cont (s.data.toList.drop (p + 1)) 39 (by decide) acc j (by rw [E0.out, E1.out]; exact hn1) (by rw [E0.out]; exact d2) (by rw [E1.out]; exact d3))
          have hk2 : p + 1 + j + 2 ≤ s.size := by have := rawAt_neg s.data.toList (p + 1 + j + 1); rw [size_data] at this; omega
          clear d2 d3 hn1
          go_wp2_with fail
          refine (lex_raw _ _ _ _ _ _ HX.lex (by omega)).mono ?_; rintro e wz ⟨rfl, rfl⟩; rw [show ((p : Int) + 1 + j).toNat = p + 1 + j by omega]
          go_wp2_with fail
          refine (lex_raw _ _ _ _ _ _ HX.lex (by omega)).mono ?_; rintro e wz ⟨rfl, rfl⟩; rw [show ((p : Int) + 1 + j).toNat = p + 1 + j by omega]
          go_wp2_with fail
          refine (lex_raw _ _ _ _ _ _ HX.lex (by omega)).mono ?_; rintro e wz ⟨rfl, rfl⟩; rw [show ((p : Int) + 1 + j + 1).toNat = p + 1 + j + 1 by omega]
          go_wp2_with fail
          go_roundw
          case rel => exact ⟨j + 2, acc, by omega, by omega, by go_num, HX, hown, by rw [← HI.out]; exact HE.out⟩
          case measure => simp [intOf]; omega
        · have b3 : (rawAt s.data.toList (p + 1 + j + 1) == 10) = false := by simp [d3]
          have hn2 : ¬(rawAt s.data.toList (p + 1 + j) = 92 ∧ rawAt s.data.toList (p + 1 + j + 1) = 10) := fun h => d3 h.2
          clear d2 d3
          cases hqs : quotedS (s.data.toList.drop (p + 1 + j)) 39 with
          | none =>
            have HI := Lib.hid (itemAt_none (s.data.toList.drop (p + 1)) 39 (by decide) acc j (by rw [E0.out, E1.out]; exact hn1) (by rw [E0.out, E1.out]; exact hn2) (by rw [List.drop_drop]; exact hqs))
            have HQ := Lib.hid hqs
            clear hqs hn1 hn2
            go_wp2_with fail
            refine (lex_raw _ _ _ _ _ _ HX.lex (by omega)).mono ?_; rintro e wz ⟨rfl, rfl⟩; rw [show ((p : Int) + 1 + j).toNat = p + 1 + j by omega]
            go_wp2_with fail
            refine (lex_raw _ _ _ _ _ _ HX.lex (by omega)).mono ?_; rintro e wz ⟨rfl, rfl⟩; rw [show ((p : Int) + 1 + j).toNat = p + 1 + j by omega]
            go_wp2_with fail
            refine (lex_raw _ _ _ _ _ _ HX.lex (by omega)).mono ?_; rintro e wz ⟨rfl, rfl⟩; rw [show ((p : Int) + 1 + j + 1).toNat = p + 1 + j + 1 by omega]
            go_wp2_with fail
            refine (lex_quoted _ _ _ _ _ _ _ HX.lex (by omega) (by omega)).mono ?_; rintro e wz ⟨he, rfl⟩; rw [show ((p : Int) + 1 + j).toNat = p + 1 + j by omega, HQ.out] at he
            obtain ⟨x, y, rfl⟩ := he
            obtain ⟨t6, v0, v1, v2, v3, v4, v5, t0, t1, t2, t3, t4, t5⟩ := HX.tok
            have hltc := HX.lt
            go_wp2_with fail
            try rw [Exit.noGoto_ret]
            refine bodyPost_ret (v := tokTup (errR 7)) (by simp [tokTup, errR, results, Tryd.results67, go_sem, t0, t1, t2, t3, t4, t5]) rfl ⟨?_, (HX.sets _ _ _ _ _ _).bel⟩
            rw [HK.out, ← HE.out, HI.out]; rfl
          | some ck =>
            obtain ⟨c, k⟩ := ck
            have hok := quotedS_ok _ _ _ _ (by decide) hqs
            rw [List.length_drop] at hok
            have HI := Lib.hid (itemAt_some (s.data.toList.drop (p + 1)) 39 (by decide) acc j k c (by rw [E0.out, E1.out]; exact hn1) (by rw [E0.out, E1.out]; exact hn2) (by rw [List.drop_drop]; exact hqs))
            have HQ := Lib.hid hqs
            have hk1 : 1 ≤ k := hok.1
            have hk2 : p + 1 + j + k ≤ s.size := by have := hok.2.1; have := hok.1; rw [size_data] at *; omega
            have hc0 : 0 ≤ c := hok.2.2.1
            have hc1 : c ≤ 255 := hok.2.2.2
            clear hqs hn1 hn2 hok
            go_wp2_with fail
            refine (lex_raw _ _ _ _ _ _ HX.lex (by omega)).mono ?_; rintro e wz ⟨rfl, rfl⟩; rw [show ((p : Int) + 1 + j).toNat = p + 1 + j by omega]
            go_wp2_with fail
            refine (lex_raw _ _ _ _ _ _ HX.lex (by omega)).mono ?_; rintro e wz ⟨rfl, rfl⟩; rw [show ((p : Int) + 1 + j).toNat = p + 1 + j by omega]
            go_wp2_with fail
            refine (lex_raw _ _ _ _ _ _ HX.lex (by omega)).mono ?_; rintro e wz ⟨rfl, rfl⟩; rw [show ((p : Int) + 1 + j + 1).toNat = p + 1 + j + 1 by omega]
            go_wp2_with fail
            refine (lex_quoted _ _ _ _ _ _ _ HX.lex (by omega) (by omega)).mono ?_; rintro e wz ⟨he, rfl⟩; rw [show ((p : Int) + 1 + j).toNat = p + 1 + j by omega, HQ.out] at he
            unfold QRes at he
            simp only [] at he
            subst he
            go_wp2_with (at_builtin; go_must (refine wpList_append_byte rfl _ _ 54 5 rfl Tryd.underlying54 infoU8 (w.heap.size + 1) _ _ _ rfl _ hown _ hc0 hc1 rfl rfl (by omega) (by have := HX.lt; omega) ?_; intro v1 w2 hown1 hB2))
            have HX2 := Held.callB hB2 (by omega) HX
            go_roundw
            case rel => exact ⟨j + k, acc ++ [c.toNat.toUInt8], by omega, by simp; omega, by go_num, HX2, hown1_len hown1, by rw [← HI.out]; exact HE.out⟩
            case measure => simp [intOf]; omega
      · have b2 : (rawAt s.data.toList (p + 1 + j) == 92) = false := by simp [d2]
        have hn2 : ¬(rawAt s.data.toList (p + 1 + j) = 92 ∧ rawAt s.data.toList (p + 1 + j + 1) = 10) := fun h => d2 h.1
        clear d2
        cases hqs : quotedS (s.data.toList.drop (p + 1 + j)) 39 with
        | none =>
          have HI := Lib.hid (itemAt_none (s.data.toList.drop (p + 1)) 39 (by decide) acc j (by rw [E0.out, E1.out]; exact hn1) (by rw [E0.out, E1.out]; exact hn2) (by rw [List.drop_drop]; exact hqs))
          have HQ := Lib.hid hqs
          clear hqs hn1 hn2
          go_wp2_with fail
          refine (lex_raw _ _ _ _ _ _ HX.lex (by omega)).mono ?_; rintro e wz ⟨rfl, rfl⟩; rw [show ((p : Int) + 1 + j).toNat = p + 1 + j by omega]
          go_wp2_with fail
          refine (lex_raw _ _ _ _ _ _ HX.lex (by omega)).mono ?_; rintro e wz ⟨rfl, rfl⟩; rw [show ((p : Int) + 1 + j).toNat = p + 1 + j by omega]
          go_wp2_with fail
          refine (lex_quoted _ _ _ _ _ _ _ HX.lex (by omega) (by omega)).mono ?_; rintro e wz ⟨he, rfl⟩; rw [show ((p : Int) + 1 + j).toNat = p + 1 + j by omega, HQ.out] at he
          obtain ⟨x, y, rfl⟩ := he
          obtain ⟨t6, v0, v1, v2, v3, v4, v5, t0, t1, t2, t3, t4, t5⟩ := HX.tok
          have hltc := HX.lt
          go_wp2_with fail
          try rw [Exit.noGoto_ret]
          refine bodyPost_ret (v := tokTup (errR 7)) (by simp [tokTup, errR, results, Tryd.results67, go_sem, t0, t1, t2, t3, t4, t5]) rfl ⟨?_, (HX.sets _ _ _ _ _ _).bel⟩
          rw [HK.out, ← HE.out, HI.out]; rfl
        | some ck =>
          obtain ⟨c, k⟩ := ck
          have hok := quotedS_ok _ _ _ _ (by decide) hqs
          rw [List.length_drop] at hok
          have HI := Lib.hid (itemAt_some (s.data.toList.drop (p + 1)) 39 (by decide) acc j k c (by rw [E0.out, E1.out]; exact hn1) (by rw [E0.out, E1.out]; exact hn2) (by rw [List.drop_drop]; exact hqs))
          have HQ := Lib.hid hqs
          have hk1 : 1 ≤ k := hok.1
          have hk2 : p + 1 + j + k ≤ s.size := by have := hok.2.1; have := hok.1; rw [size_data] at *; omega
          have hc0 : 0 ≤ c := hok.2.2.1
          have hc1 : c ≤ 255 := hok.2.2.2
          clear hqs hn1 hn2 hok
          go_wp2_with fail
          refine (lex_raw _ _ _ _ _ _ HX.lex (by omega)).mono ?_; rintro e wz ⟨rfl, rfl⟩; rw [show ((p : Int) + 1 + j).toNat = p + 1 + j by omega]
          go_wp2_with fail
          refine (lex_raw _ _ _ _ _ _ HX.lex (by omega)).mono ?_; rintro e wz ⟨rfl, rfl⟩; rw [show ((p : Int) + 1 + j).toNat = p + 1 + j by omega]
          go_wp2_with fail
          refine (lex_quoted _ _ _ _ _ _ _ HX.lex (by omega) (by omega)).mono ?_; rintro e wz ⟨he, rfl⟩; rw [show ((p : Int) + 1 + j).toNat = p + 1 + j by omega, HQ.out] at he
          unfold QRes at he
          simp only [] at he
          subst he
          go_wp2_with (at_builtin; go_must (refine wpList_append_byte rfl _ _ 54 5 rfl Tryd.underlying54 infoU8 (w.heap.size + 1) _ _ _ rfl _ hown _ hc0 hc1 rfl rfl (by omega) (by have := HX.lt; omega) ?_; intro v1 w2 hown1 hB2))
          have HX2 := Held.callB hB2 (by omega) HX
          go_roundw
          case rel => exact ⟨j + k, acc ++ [c.toNat.toUInt8], by omega, by simp; omega, by go_num, HX2, hown1_len hown1, by rw [← HI.out]; exact HE.out⟩
          case measure => simp [intOf]; omega

set_option maxHeartbeats 800000 in
theorem lex_quote (b : Nat) (s : ByteArray) (tab : Int → Int) (p : Nat) (w : World) (h : Lex w b s tab p) (hp : p < s.size) :
    Calls Tryd.prog 67 #[.pointer (some ⟨b, 0, none⟩)] w fun e w' => Gives (quoteR (cvt tab s.data.toList) s.data.toList p) e ∧ Below w.heap.size w w' := by
  by_cases h1 : rawAt (cvt tab s.data.toList) p = 34
  · exact lex_quote_str b s tab p w h hp h1
  by_cases h2 : rawAt (cvt tab s.data.toList) p = 39
  · exact lex_quote_nm b s tab p w h hp h2
  have HK := Lib.hid (show quoteR (cvt tab s.data.toList) s.data.toList p = errR 7 by unfold quoteR; rw [if_neg h1, if_neg h2])
  have b1 : (rawAt (cvt tab s.data.toList) p == 34) = false := by simp [h1]
  have b2 : (rawAt (cvt tab s.data.toList) p == 39) = false := by simp [h2]
  have H0 := Held.start h
  have hlt := h.lt
  have ca := h.ca
  clear h h1 h2
  go_enter Tryd.func67, Tryd.ntmps67
  go_wp2_with fail
  go_step3
  go_wp2_with fail
  refine (lex_char _ _ _ _ _ _ H0.lex (by omega)).mono ?_; rintro e w1 ⟨rfl, hB1⟩; rw [Int.toNat_natCast]
  have H1 := Held.call hB1 H0
  obtain ⟨t6, v0, v1, v2, v3, v4, v5, t0, t1, t2, t3, t4, t5⟩ := H1.tok
  have hltc := H1.lt
  go_wp2_with fail
  try rw [Exit.noGoto_ret]
  refine bodyPost_ret (v := tokTup (errR 7)) (by simp [tokTup, errR, results, Tryd.results67, go_sem, t0, t1, t2, t3, t4, t5]) rfl ⟨?_, (H1.sets _ _ _ _ _ _).bel⟩
  rw [HK.out]; rfl

set_option maxHeartbeats 400000 in
theorem lex_none (b : Nat) (w : World) :
    Calls Tryd.prog 62 #[.pointer (some ⟨b, 0, none⟩)] w fun e w' => Gives (errR 7) e ∧ Below w.heap.size w w' := by
  go_enter Tryd.func62, Tryd.ntmps62
  go_wp2
  refine bodyPost_ret (v := tokTup (errR 7)) (by simp [tokTup, errR, results, Tryd.results62, go_sem]) rfl ⟨rfl, (Below.refl _ _).alloc (Nat.le_refl _) _⟩
end Go.Proofs.YtmjeajfakhmakaaDoor
