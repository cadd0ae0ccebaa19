/- Flags: the reference's Set. -/
import Derived.Test.YtfkhcpeahdkafaaGreatZFvB
namespace Go.Proofs.YtfkhcpeahdkafaaGreat
open Go.RowKit Hb
set_option maxRecDepth 100000
set_option maxHeartbeats 6400000 in
theorem r8_set (f : FlR) (s : ByteArray) (t : Tm) (TA : Option Addr) (cap : Nat) (w : World) (hT : TmsAt w.heap.size w TA t.args) : Calls Tryz.prog 21 #[.agg #[.int .i64 f.q, .int .i64 f.u, .bool f.c, .bool f.d], .string s, .agg #[.int .i64 t.kind, .int .i64 t.num, .string t.name, .slice TA t.args.length cap]] w fun e w' => e = .returned (.tuple #[flV (setF f s t), .int .i64 (setE f s t)]) ∧ Below w.heap.size w w' := by
  have HTA := Lib.hid hT
  have HB0 : Hid (Below w.heap.size w (((w.alloc (.cells #[.int .i64 f.q, .int .i64 f.u, .bool f.c, .bool f.d] 23)).alloc (.cells #[.int .i64 t.kind, .int .i64 t.num, .string t.name, .slice TA t.args.length cap] 26)).alloc (.cells #[.int .i64 0, .int .i64 0, .bool false, .bool false] 23))) := Lib.hid ((((Below.refl _ w).alloc (Nat.le_refl _) _).alloc (by simp) _).alloc (by simp; omega) _)
  have HK0 : Hid (Bks (((w.alloc (.cells #[.int .i64 f.q, .int .i64 f.u, .bool f.c, .bool f.d] 23)).alloc (.cells #[.int .i64 t.kind, .int .i64 t.num, .string t.name, .slice TA t.args.length cap] 26)).alloc (.cells #[.int .i64 0, .int .i64 0, .bool false, .bool false] 23)) [(w.heap.size + 1 + 1, [.int .i64 0, .int .i64 0, .bool false, .bool false]), (w.heap.size + 1, [.int .i64 t.kind, .int .i64 t.num, .string t.name, .slice TA t.args.length cap]), (w.heap.size, [.int .i64 f.q, .int .i64 f.u, .bool f.c, .bool f.d])]) := Lib.hid ((((Bks.nil w).new [.int .i64 f.q, .int .i64 f.u, .bool f.c, .bool f.d] 23 rfl).new [.int .i64 t.kind, .int .i64 t.num, .string t.name, .slice TA t.args.length cap] 26 (by simp)).new [.int .i64 0, .int .i64 0, .bool false, .bool false] 23 (by simp))
  have HV := Lib.hid (fun W => r8_valid f W)
  have HTV : Hid (∀ W, Below w.heap.size w W → Calls Tryz.prog 33 #[.agg #[.int .i64 t.kind, .int .i64 t.num, .string t.name, .slice TA t.args.length cap]] W fun e w' => e = .returned (.bool (validT t)) ∧ Below W.heap.size W w') := Lib.hid fun W hW => ref_tvalid t TA cap W ((HTA.out.keep hW).mono hW.size)
  have HKN := Lib.hid (fun W => r8_known s W)
  have HE : Hid (setE f s t = if flOk f = true ∧ validT t = true then (if fIx s < 9 then (if fVL (fIx s) = [] then 5 else if t.kind = 2 ∧ 0 ≤ setI (fIx s) t.name then 0 else 3) else 4) else 1) := Lib.hid rfl
  have HF : Hid (setF f s t = if setE f s t = 0 then fSet f (fIx s) (setI (fIx s) t.name) else fl0) := Lib.hid rfl
  clear hT
  by_cases hf : flOk f = true
  · by_cases hv : validT t = true
    · have HE1 : Hid (setE f s t = if fIx s < 9 then (if fVL (fIx s) = [] then 5 else if t.kind = 2 ∧ 0 ≤ setI (fIx s) t.name then 0 else 3) else 4) := Lib.hid (by rw [HE.out, if_pos ⟨hf, hv⟩])
      rw [hf] at HV
      rw [hv] at HTV
      clear hf hv HE
      go_enter Tryz.func21, Tryz.ntmps21
      go_wp2_with fail
      refine (HV.out _).mono ?_; rintro e w1 ⟨rfl, hB1⟩
      have HB1 := Lib.hid (HB0.out.trans (hB1.mono HB0.out.size))
      have HK1 := Lib.hid (HK0.out.call hB1)
      clear hB1 HB0 HK0
      have b0 := HK1.out.cell 1 0 (g := w.heap.size + 1) (v := .int .i64 t.kind) rfl rfl
      have b1 := HK1.out.cell 1 1 (g := w.heap.size + 1) (v := .int .i64 t.num) rfl rfl
      have b2 := HK1.out.cell 1 2 (g := w.heap.size + 1) (v := .string t.name) rfl rfl
      have b3 := HK1.out.cell 1 3 (g := w.heap.size + 1) (v := .slice TA t.args.length cap) rfl rfl
      go_wp2_with fail
      refine (HTV.out _ HB1.out).mono ?_; rintro e w2 ⟨rfl, hB2⟩
      have HB2 := Lib.hid (HB1.out.trans (hB2.mono HB1.out.size))
      have HK2 := Lib.hid (HK1.out.call hB2)
      clear hB2 HB1 HK1 b0 b1 b2 b3
      go_wp2_with fail
      refine (HKN.out _).mono ?_; rintro e w3 ⟨rfl, hB3⟩
      have HB3 := Lib.hid (HB2.out.trans (hB3.mono HB2.out.size))
      have HK3 := Lib.hid (HK2.out.call hB3)
      clear hB3 HB2 HK2 HKN
      rcases nm_cases s with ⟨k, hk, hi, hs⟩ | ⟨hi, hn⟩
      · rw [hi, decide_eq_true hk]
        have HS := Lib.hid hs
        have HI := Lib.hid hi
        clear hs hi
        rw [HI.out] at HE1 HF
        have HVA := Lib.hid (fun W => r8_values s W)
        rw [HI.out] at HVA
        go_wp2_with fail
        refine (HVA.out _).mono ?_; rintro e w4 ⟨lv, rfl, hB4, hV4⟩
        have HB4 := Lib.hid (HB3.out.trans (hB4.mono HB3.out.size))
        have HK4 := Lib.hid (HK3.out.call hB4)
        have HSZ3 := Lib.hid (HK3.out.lt 0 (g := w.heap.size + 1 + 1) rfl)
        clear hB4 HB3 HK3 HVA
        rcases hV4 with ⟨h0, rfl⟩ | ⟨b, hlo, rfl, hpos, hr⟩
        · have HE2 : Hid (setE f s t = 5) := Lib.hid (by rw [HE1.out, if_pos hk, if_pos h0])
          have HF2 : Hid (setF f s t = fl0) := Lib.hid (by rw [HF.out, HE2.out]; rfl)
          clear HE1 HF h0
          have z0 := HK4.out.cell 0 0 (g := w.heap.size + 1 + 1) (v := .int .i64 0) rfl rfl
          have z1 := HK4.out.cell 0 1 (g := w.heap.size + 1 + 1) (v := .int .i64 0) rfl rfl
          have z2 := HK4.out.cell 0 2 (g := w.heap.size + 1 + 1) (v := .bool false) rfl rfl
          have z3 := HK4.out.cell 0 3 (g := w.heap.size + 1 + 1) (v := .bool false) rfl rfl
          have fz0 := HK4.out.fz 0 0 (g := w.heap.size + 1 + 1) rfl
          have fz1 := HK4.out.fz 0 1 (g := w.heap.size + 1 + 1) rfl
          have fz2 := HK4.out.fz 0 2 (g := w.heap.size + 1 + 1) rfl
          have fz3 := HK4.out.fz 0 3 (g := w.heap.size + 1 + 1) rfl
          have hk1 : Bks ((((w4.setCell ⟨w.heap.size + 1 + 1, 0, none⟩ (.int .i64 0)).setCell ⟨w.heap.size + 1 + 1, 1, none⟩ (.int .i64 0)).setCell ⟨w.heap.size + 1 + 1, 2, none⟩ (.bool false)).setCell ⟨w.heap.size + 1 + 1, 3, none⟩ (.bool false)) [(w.heap.size + 1 + 1, [.int .i64 0, .int .i64 0, .bool false, .bool false]), (w.heap.size + 1, [.int .i64 t.kind, .int .i64 t.num, .string t.name, .slice TA t.args.length cap]), (w.heap.size, [.int .i64 f.q, .int .i64 f.u, .bool f.c, .bool f.d])] := HK4.out.set4 0 rfl (.int .i64 0) (.int .i64 0) (.bool false) (.bool false)
          have hb1 : Below w.heap.size w ((((w4.setCell ⟨w.heap.size + 1 + 1, 0, none⟩ (.int .i64 0)).setCell ⟨w.heap.size + 1 + 1, 1, none⟩ (.int .i64 0)).setCell ⟨w.heap.size + 1 + 1, 2, none⟩ (.bool false)).setCell ⟨w.heap.size + 1 + 1, 3, none⟩ (.bool false)) := ((((HB4.out.setCell (p := ⟨w.heap.size + 1 + 1, _, none⟩) (show w.heap.size ≤ w.heap.size + 1 + 1 by omega) _).setCell (p := ⟨w.heap.size + 1 + 1, _, none⟩) (show w.heap.size ≤ w.heap.size + 1 + 1 by omega) _).setCell (p := ⟨w.heap.size + 1 + 1, _, none⟩) (show w.heap.size ≤ w.heap.size + 1 + 1 by omega) _).setCell (p := ⟨w.heap.size + 1 + 1, _, none⟩) (show w.heap.size ≤ w.heap.size + 1 + 1 by omega) _)
          obtain ⟨wz, HWZ⟩ : ∃ wz, Hid (wz = ((((w4.setCell ⟨w.heap.size + 1 + 1, 0, none⟩ (.int .i64 0)).setCell ⟨w.heap.size + 1 + 1, 1, none⟩ (.int .i64 0)).setCell ⟨w.heap.size + 1 + 1, 2, none⟩ (.bool false)).setCell ⟨w.heap.size + 1 + 1, 3, none⟩ (.bool false))) := ⟨_, Lib.hid rfl⟩
          rw [← HWZ.out] at hk1 hb1
          have HK9 := Lib.hid hk1
          have HB9 := Lib.hid hb1
          clear hk1 hb1
          go_wp2_with fail
          rw [← HWZ.out]
          have m0 := HK9.out.cell 0 0 (g := w.heap.size + 1 + 1) (v := .int .i64 0) rfl rfl
          have m1 := HK9.out.cell 0 1 (g := w.heap.size + 1 + 1) (v := .int .i64 0) rfl rfl
          have m2 := HK9.out.cell 0 2 (g := w.heap.size + 1 + 1) (v := .bool false) rfl rfl
          have m3 := HK9.out.cell 0 3 (g := w.heap.size + 1 + 1) (v := .bool false) rfl rfl
          exact bodyPost_ret (v := .tuple #[.agg #[.int .i64 0, .int .i64 0, .bool false, .bool false], .int .i64 5]) (by simp [results, Tryz.results21, go_sem, m0, m1, m2, m3]) rfl ⟨by rw [HE2.out, HF2.out]; rfl, HB9.out⟩
        · have hL : fVL k ≠ [] := fun e => by rw [e] at hpos; cases hpos
          have HKS := Lib.hid (fVL_ks k hk hL)
          have HE2 : Hid (setE f s t = if t.kind = 2 ∧ 0 ≤ setI k t.name then 0 else 3) := Lib.hid (by rw [HE1.out, if_pos hk, if_neg hL])
          have HR := Lib.hid hr
          have HPOS := Lib.hid hpos
          have HLO : Hid (w.heap.size + 1 + 1 < b) := Lib.hid (Nat.lt_of_lt_of_le HSZ3.out hlo)
          obtain ⟨n, HNL⟩ : ∃ n, Hid (n = (fVL k).length) := ⟨_, Lib.hid rfl⟩
          have hn3 : n ≤ 3 := by rw [HNL.out]; exact fVL_len k
          rw [← HNL.out]
          have hn0 : 0 < n := by rw [HNL.out]; exact hpos
          clear HE1 hr hpos hlo hL
          go_wp2_with fail
          go_loopw [9] (fun i wr => ∃ j : Nat, j ≤ n ∧ i = .int .i64 j ∧ Hid (Below w.heap.size w wr) ∧ Hid (Bks wr [(w.heap.size + 1 + 1, [.int .i64 0, .int .i64 0, .bool false, .bool false]), (w.heap.size + 1, [.int .i64 t.kind, .int .i64 t.num, .string t.name, .slice TA t.args.length cap]), (w.heap.size, [.int .i64 f.q, .int .i64 f.u, .bool f.c, .bool f.d])]) ∧ Hid (RowS wr b (fVL k)) ∧ Hid (t.kind = 2 → ∀ x, x < j → (fVL k).getD x ByteArray.empty ≠ t.name)) (fun i _ => n - (intOf i).toNat)
          case atStart => exact ⟨0, by omega, rfl, HB4, HK4, HR, Lib.hid fun _ x hx => absurd hx (by omega)⟩
          case round =>
            obtain ⟨j, hj, rfl, HBR, HKR, HRR, HNO⟩ := hrel
            by_cases hlt : j < n
            · have hj0 : (0 : Int) ≤ (j : Int) := by omega
              have hj1 : (j : Int) < (n : Int) := by omega
              obtain ⟨nm, HNM⟩ : ∃ nm, Hid (nm = (fVL k).getD j ByteArray.empty) := ⟨_, Lib.hid rfl⟩
              have hjl : j < (fVL k).length := by rw [← HNL.out]; exact hlt
              have cn : wr.cell? ⟨b, j, none⟩ = some (.string nm) := by
                have := HRR.out.2 j hjl
                rw [HNM.out, show (fVL k).getD j ByteArray.empty = (fVL k)[j] by simp [hjl]]
                exact this
              have lb := HRR.out.1
              have b0 := HKR.out.cell 1 0 (g := w.heap.size + 1) (v := .int .i64 t.kind) rfl rfl
              have b1 := HKR.out.cell 1 1 (g := w.heap.size + 1) (v := .int .i64 t.num) rfl rfl
              have b2 := HKR.out.cell 1 2 (g := w.heap.size + 1) (v := .string t.name) rfl rfl
              have b3 := HKR.out.cell 1 3 (g := w.heap.size + 1) (v := .slice TA t.args.length cap) rfl rfl
              have l1 := HKR.out.lt 1 (g := w.heap.size + 1) rfl
              go_wp2_with fail
              rename_i K0 hK0
              refine wp_region_any (by kernel_rfl) ?_
              by_cases hk2 : t.kind = 2
              · by_cases he : t.name.toList = nm.toList
                · have qe : (nm.toList == t.name.toList) = true := by simpa using he.symm
                  have qn : (t.name.toList == nm.toList) = true := by simpa using he
                  refine wpAny_inv (fun S a X => a = (⟨#[.agg #[.int .i64 f.q, .int .i64 f.u, .bool f.c, .bool f.d], .string s, .agg #[.int .i64 t.kind, .int .i64 t.num, .string t.name, .slice TA t.args.length cap], .pointer (some ⟨w.heap.size, 0, none⟩), undef, .pointer (some ⟨w.heap.size + 1, 0, none⟩), .pointer (some ⟨w.heap.size + 1 + 1, 0, none⟩), u7, .slice (some ⟨b, 0, none⟩) n n, .int .i64 j, .agg #[.int .i64 f.q, .int .i64 f.u, .bool f.c, .bool f.d], .bool true, .bool false, .bool false, .agg #[.int .i64 t.kind, .int .i64 t.num, .string t.name, .slice TA t.args.length cap], .bool true, .bool false, .bool false, undef, .string s, .bool true, .bool false, undef, .string s, .slice (some ⟨b, 0, none⟩) n n, .slice (some ⟨b, 0, none⟩) n n, .int .i64 (n : Int), .bool ((n : Int) == 0), undef, .int .i64 j, .slice (some ⟨b, 0, none⟩) n n, .int .i64 (n : Int), .bool true, u33, u34, if S 0 = true then .pointer (some ⟨w.heap.size + 1, 0, none⟩) else u35, if S 1 = true then .int .i64 t.kind else u36, if S 2 = true then .bool false else u37, if S 3 = true then .bool false else u38, if S 4 = true then .pointer (some ⟨w.heap.size + 1, 2, none⟩) else u39, if S 5 = true then .string t.name else u40, if S 6 = true then .slice (some ⟨b, 0, none⟩) n n else u41, if S 7 = true then .int .i64 j else u42, if S 8 = true then .pointer (some ⟨b, j, none⟩) else u43, if S 9 = true then .string nm else u44, if S 10 = true then .bool false else u45, if S 11 = true then .bool false else u46, u47, u48, u49, u50, u51, u52, u53, u54, u55, u56, u57, u58, u59, u60, u61, u62, u63, u64, u65, u66, u67, u68, undef], []⟩ : Act) ∧ X = wr.drew) (by kernel_rfl) ?stepc ?finc 12 (fun _ => false) _ _ (by decide) ⟨rfl, rfl⟩
                  case stepc =>
                    rintro S j o a X ho hs hp ⟨rfl, rfl⟩
                    have hlt : j < 12 := (Array.getElem?_eq_some_iff.1 ho).1
                    rcases (show j = 0 ∨ j = 1 ∨ j = 2 ∨ j = 3 ∨ j = 4 ∨ j = 5 ∨ j = 6 ∨ j = 7 ∨ j = 8 ∨ j = 9 ∨ j = 10 ∨ j = 11 by omega) with rfl | rfl | rfl | rfl | rfl | rfl | rfl | rfl | rfl | rfl | rfl | rfl
                    · injection ho with ho
                      subst ho
                      rw [if_pos (show Region.wanted _ _ = true from rfl)]
                      refine wp_val (v := .pointer (some ⟨w.heap.size + 1, 0, none⟩)) (w' := wr.drew) ?_ ⟨rfl, rfl⟩
                      simp [execOp, go_sem, Act.eval]
                    · injection ho with ho
                      subst ho
                      have s0 : S 0 = true := hp ⟨0, .data⟩ (by simp) rfl
                      have y0 : wr.drew.cell? ⟨w.heap.size + 1, 0, none⟩ = some (.int .i64 t.kind) := b0
                      rw [if_pos (show Region.wanted _ _ = true from rfl)]
                      refine wp_val (v := .int .i64 t.kind) (w' := wr.drew) ?_ ⟨rfl, rfl⟩
                      simp [execOp, go_sem, Act.eval, s0, y0]
                    · injection ho with ho
                      subst ho
                      have s1 : S 1 = true := hp ⟨1, .data⟩ (by simp) rfl
                      rw [if_pos (show Region.wanted _ _ = true from rfl)]
                      refine wp_val (v := .bool false) (w' := wr.drew) ?_ ⟨rfl, rfl⟩
                      simp [execOp, go_sem, Act.eval, s1, hk2]
                    · injection ho with ho
                      subst ho
                      have s2 : S 2 = true := hp ⟨2, .data⟩ (by simp) rfl
                      rw [if_pos (show Region.wanted _ _ = true from rfl)]
                      refine wp_val (v := .bool false) (w' := wr.drew) ?_ ⟨rfl, rfl⟩
                      simp [execOp, go_sem, Act.eval, s2]
                    · injection ho with ho
                      subst ho
                      have s3 : S 3 = true := hp ⟨3, .guard⟩ (by simp) rfl
                      rw [if_pos (show Region.wanted _ (yielded _ _) = true by simp [Region.wanted, yielded, s3])]
                      refine wp_val (v := .pointer (some ⟨w.heap.size + 1, 2, none⟩)) (w' := wr.drew) ?_ ⟨rfl, rfl⟩
                      simp [execOp, go_sem, Act.eval]
                    · injection ho with ho
                      subst ho
                      have s4 : S 4 = true := hp ⟨4, .data⟩ (by simp) rfl
                      have s3 : S 3 = true := hp ⟨3, .guard⟩ (by simp) rfl
                      have y2 : wr.drew.cell? ⟨w.heap.size + 1, 2, none⟩ = some (.string t.name) := b2
                      rw [if_pos (show Region.wanted _ (yielded _ _) = true by simp [Region.wanted, yielded, s3])]
                      refine wp_val (v := .string t.name) (w' := wr.drew) ?_ ⟨rfl, rfl⟩
                      simp [execOp, go_sem, Act.eval, s4, y2]
                    · injection ho with ho
                      subst ho
                      have s3 : S 3 = true := hp ⟨3, .guard⟩ (by simp) rfl
                      rw [if_pos (show Region.wanted _ (yielded _ _) = true by simp [Region.wanted, yielded, s3])]
                      refine wp_val (v := .slice (some ⟨b, 0, none⟩) n n) (w' := wr.drew) ?_ ⟨rfl, rfl⟩
                      simp [execOp, go_sem, Act.eval]
                    · injection ho with ho
                      subst ho
                      have s3 : S 3 = true := hp ⟨3, .guard⟩ (by simp) rfl
                      rw [if_pos (show Region.wanted _ (yielded _ _) = true by simp [Region.wanted, yielded, s3])]
                      refine wp_val (v := .int .i64 j) (w' := wr.drew) ?_ ⟨rfl, rfl⟩
                      simp [execOp, go_sem, Act.eval]
                    · injection ho with ho
                      subst ho
                      have s6 : S 6 = true := hp ⟨6, .data⟩ (by simp) rfl
                      have s7 : S 7 = true := hp ⟨7, .data⟩ (by simp) rfl
                      have s3 : S 3 = true := hp ⟨3, .guard⟩ (by simp) rfl
                      rw [if_pos (show Region.wanted _ (yielded _ _) = true by simp [Region.wanted, yielded, s3])]
                      refine wp_val (v := .pointer (some ⟨b, j, none⟩)) (w' := wr.drew) ?_ ⟨rfl, rfl⟩
                      simp [execOp, go_sem, Act.eval, s6, s7, hj0, hj1]
                    · injection ho with ho
                      subst ho
                      have s8 : S 8 = true := hp ⟨8, .data⟩ (by simp) rfl
                      have s3 : S 3 = true := hp ⟨3, .guard⟩ (by simp) rfl
                      have yn : wr.drew.cell? ⟨b, j, none⟩ = some (.string nm) := cn
                      rw [if_pos (show Region.wanted _ (yielded _ _) = true by simp [Region.wanted, yielded, s3])]
                      refine wp_val (v := .string nm) (w' := wr.drew) ?_ ⟨rfl, rfl⟩
                      simp [execOp, go_sem, Act.eval, s8, yn]
                    · injection ho with ho
                      subst ho
                      have s5 : S 5 = true := hp ⟨5, .data⟩ (by simp) rfl
                      have s9 : S 9 = true := hp ⟨9, .data⟩ (by simp) rfl
                      have s3 : S 3 = true := hp ⟨3, .guard⟩ (by simp) rfl
                      rw [if_pos (show Region.wanted _ (yielded _ _) = true by simp [Region.wanted, yielded, s3])]
                      refine wp_val (v := .bool false) (w' := wr.drew) ?_ ⟨rfl, rfl⟩
                      simp [execOp, go_sem, Act.eval, s5, s9, qn]
                    · injection ho with ho
                      subst ho
                      have s3 : S 3 = true := hp ⟨3, .data⟩ (by simp) rfl
                      have s10 : S 10 = true := hp ⟨10, .data⟩ (by simp) rfl
                      rw [if_pos (show Region.wanted _ _ = true from rfl)]
                      refine wp_val (v := .bool false) (w' := wr.drew) ?_ ⟨rfl, rfl⟩
                      simp [execOp, go_sem, Act.eval, s3, s10]
                  case finc =>
                    rintro S a X hall ⟨rfl, rfl⟩
                    have s0 : S 0 = true := hall 0 (show 0 < 12 by omega)
                    have s1 : S 1 = true := hall 1 (show 1 < 12 by omega)
                    have s2 : S 2 = true := hall 2 (show 2 < 12 by omega)
                    have s3 : S 3 = true := hall 3 (show 3 < 12 by omega)
                    have s4 : S 4 = true := hall 4 (show 4 < 12 by omega)
                    have s5 : S 5 = true := hall 5 (show 5 < 12 by omega)
                    have s6 : S 6 = true := hall 6 (show 6 < 12 by omega)
                    have s7 : S 7 = true := hall 7 (show 7 < 12 by omega)
                    have s8 : S 8 = true := hall 8 (show 8 < 12 by omega)
                    have s9 : S 9 = true := hall 9 (show 9 < 12 by omega)
                    have s10 : S 10 = true := hall 10 (show 10 < 12 by omega)
                    have s11 : S 11 = true := hall 11 (show 11 < 12 by omega)
                    refine hK0 _ _ ?_
                    simp only [s0, s1, s2, s3, s4, s5, s6, s7, s8, s9, s10, s11, if_true]
                    clear hall hK0 s0 s1 s2 s3 s4 s5 s6 s7 s8 s9 s10 s11
                    have HIX : Hid (setI k t.name = j) := Lib.hid (by
                      have := Lib.idxFromS_hit t.name (fVL k) j 0 hjl (by rw [← HNM.out]; exact ba_ext (by simpa using qe)) (HNO.out hk2)
                      unfold setI Lib.idxOfS
                      rw [this]; simp)
                    have HE3 : Hid (setE f s t = 0) := Lib.hid (by rw [HE2.out, HIX.out, if_pos ⟨hk2, by omega⟩])
                    have HF3 : Hid (setF f s t = fSet f k j) := Lib.hid (by rw [HF.out, if_pos HE3.out, HIX.out])
                    obtain ⟨W5, HW5⟩ : ∃ W5, Hid (W5 = wr.drew) := ⟨_, Lib.hid rfl⟩
                    have HB5 : Hid (Below w.heap.size w W5) := Lib.hid (by rw [HW5.out]; exact HBR.out.drew)
                    have HK5 : Hid (Bks W5 [(w.heap.size + 1 + 1, [.int .i64 0, .int .i64 0, .bool false, .bool false]), (w.heap.size + 1, [.int .i64 t.kind, .int .i64 t.num, .string t.name, .slice TA t.args.length cap]), (w.heap.size, [.int .i64 f.q, .int .i64 f.u, .bool f.c, .bool f.d])]) := Lib.hid (by rw [HW5.out]; exact HKR.out.dr)
                    have hks := HKS.out
                    have hj2 := hjl
                    rw [← HW5.out]
                    clear HW5 HBR HKR HRR HNO HE2 HF HIX HKS cn lb b0 b1 b2 b3 l1 qn qe HNM hjl HNL HPOS hj HLO HB4 HK4 HR HI hlt hj1 hn3 hn0
                    rcases hks with rfl | rfl | rfl | rfl
                    · have q1 : (s.toList == [99, 104, 97, 114, 95, 99, 111, 110, 118, 101, 114, 115, 105, 111, 110]) = true := by rw [HS.out]; kernel_rfl
                      have q2 : (s.toList == [100, 101, 98, 117, 103]) = false := by rw [HS.out]; kernel_rfl
                      have q3 : (s.toList == [100, 111, 117, 98, 108, 101, 95, 113, 117, 111, 116, 101, 115]) = false := by rw [HS.out]; kernel_rfl
                      have q8 : (s.toList == [117, 110, 107, 110, 111, 119, 110]) = false := by rw [HS.out]; kernel_rfl
                      clear HS
                      have p0 := HK5.out.cell 2 0 (g := w.heap.size) (v := .int .i64 f.q) rfl rfl
                      have p1 := HK5.out.cell 2 1 (g := w.heap.size) (v := .int .i64 f.u) rfl rfl
                      have p2 := HK5.out.cell 2 2 (g := w.heap.size) (v := .bool f.c) rfl rfl
                      have p3 := HK5.out.cell 2 3 (g := w.heap.size) (v := .bool f.d) rfl rfl
                      have fp0 := HK5.out.fz 2 0 (g := w.heap.size) rfl
                      have fp1 := HK5.out.fz 2 1 (g := w.heap.size) rfl
                      have fp2 := HK5.out.fz 2 2 (g := w.heap.size) rfl
                      have fp3 := HK5.out.fz 2 3 (g := w.heap.size) rfl
                      have z0 := HK5.out.cell 0 0 (g := w.heap.size + 1 + 1) (v := .int .i64 0) rfl rfl
                      have z1 := HK5.out.cell 0 1 (g := w.heap.size + 1 + 1) (v := .int .i64 0) rfl rfl
                      have z2 := HK5.out.cell 0 2 (g := w.heap.size + 1 + 1) (v := .bool false) rfl rfl
                      have z3 := HK5.out.cell 0 3 (g := w.heap.size + 1 + 1) (v := .bool false) rfl rfl
                      have fz0 := HK5.out.fz 0 0 (g := w.heap.size + 1 + 1) rfl
                      have fz1 := HK5.out.fz 0 1 (g := w.heap.size + 1 + 1) rfl
                      have fz2 := HK5.out.fz 0 2 (g := w.heap.size + 1 + 1) rfl
                      have fz3 := HK5.out.fz 0 3 (g := w.heap.size + 1 + 1) rfl
                      have l2 := HK5.out.lt 0 (g := w.heap.size + 1 + 1) rfl
                      have hk0 : Bks _ [(w.heap.size + 1 + 1, [.int .i64 0, .int .i64 0, .bool false, .bool false]), (w.heap.size + 1, [.int .i64 t.kind, .int .i64 t.num, .string t.name, .slice TA t.args.length cap]), (w.heap.size, [.int .i64 f.q, .int .i64 f.u, .bool ((j : Int) == 1), .bool f.d])] := (HK5.out.set 2 2 (g := w.heap.size) (vs := [.int .i64 f.q, .int .i64 f.u, .bool f.c, .bool f.d]) rfl (.bool ((j : Int) == 1)))
                      have hk1 : Bks (((((W5.setCell ⟨w.heap.size, 2, none⟩ (.bool ((j : Int) == 1))).setCell ⟨w.heap.size + 1 + 1, 0, none⟩ (.int .i64 f.q)).setCell ⟨w.heap.size + 1 + 1, 1, none⟩ (.int .i64 f.u)).setCell ⟨w.heap.size + 1 + 1, 2, none⟩ (.bool ((j : Int) == 1))).setCell ⟨w.heap.size + 1 + 1, 3, none⟩ (.bool f.d)) [(w.heap.size + 1 + 1, [.int .i64 f.q, .int .i64 f.u, .bool ((j : Int) == 1), .bool f.d]), (w.heap.size + 1, [.int .i64 t.kind, .int .i64 t.num, .string t.name, .slice TA t.args.length cap]), (w.heap.size, [.int .i64 f.q, .int .i64 f.u, .bool ((j : Int) == 1), .bool f.d])] := hk0.set4 0 rfl (.int .i64 f.q) (.int .i64 f.u) (.bool ((j : Int) == 1)) (.bool f.d)
                      have hb1 : Below w.heap.size w (((((W5.setCell ⟨w.heap.size, 2, none⟩ (.bool ((j : Int) == 1))).setCell ⟨w.heap.size + 1 + 1, 0, none⟩ (.int .i64 f.q)).setCell ⟨w.heap.size + 1 + 1, 1, none⟩ (.int .i64 f.u)).setCell ⟨w.heap.size + 1 + 1, 2, none⟩ (.bool ((j : Int) == 1))).setCell ⟨w.heap.size + 1 + 1, 3, none⟩ (.bool f.d)) := (((((HB5.out.setCell (p := ⟨w.heap.size, _, none⟩) (Nat.le_refl _) _).setCell (p := ⟨w.heap.size + 1 + 1, _, none⟩) (show w.heap.size ≤ w.heap.size + 1 + 1 by omega) _).setCell (p := ⟨w.heap.size + 1 + 1, _, none⟩) (show w.heap.size ≤ w.heap.size + 1 + 1 by omega) _).setCell (p := ⟨w.heap.size + 1 + 1, _, none⟩) (show w.heap.size ≤ w.heap.size + 1 + 1 by omega) _).setCell (p := ⟨w.heap.size + 1 + 1, _, none⟩) (show w.heap.size ≤ w.heap.size + 1 + 1 by omega) _)
                      obtain ⟨wz, HWZ⟩ : ∃ wz, Hid (wz = (((((W5.setCell ⟨w.heap.size, 2, none⟩ (.bool ((j : Int) == 1))).setCell ⟨w.heap.size + 1 + 1, 0, none⟩ (.int .i64 f.q)).setCell ⟨w.heap.size + 1 + 1, 1, none⟩ (.int .i64 f.u)).setCell ⟨w.heap.size + 1 + 1, 2, none⟩ (.bool ((j : Int) == 1))).setCell ⟨w.heap.size + 1 + 1, 3, none⟩ (.bool f.d))) := ⟨_, Lib.hid rfl⟩
                      rw [← HWZ.out] at hk1 hb1
                      have HK9 := Lib.hid hk1
                      have HB9 := Lib.hid hb1
                      clear hk0 hk1 hb1
                      go_wp2_with fail
                      rw [← HWZ.out]
                      have m0 := HK9.out.cell 0 0 (g := w.heap.size + 1 + 1) (v := .int .i64 f.q) rfl rfl
                      have m1 := HK9.out.cell 0 1 (g := w.heap.size + 1 + 1) (v := .int .i64 f.u) rfl rfl
                      have m2 := HK9.out.cell 0 2 (g := w.heap.size + 1 + 1) (v := .bool ((j : Int) == 1)) rfl rfl
                      have m3 := HK9.out.cell 0 3 (g := w.heap.size + 1 + 1) (v := .bool f.d) rfl rfl
                      exact bodyPost_ret (v := .tuple #[.agg #[.int .i64 f.q, .int .i64 f.u, .bool ((j : Int) == 1), .bool f.d], .int .i64 0]) (by simp [results, Tryz.results21, go_sem, m0, m1, m2, m3]) rfl ⟨by rw [HE3.out, HF3.out]; rfl, HB9.out⟩
                    · have q1 : (s.toList == [99, 104, 97, 114, 95, 99, 111, 110, 118, 101, 114, 115, 105, 111, 110]) = false := by rw [HS.out]; kernel_rfl
                      have q2 : (s.toList == [100, 101, 98, 117, 103]) = true := by rw [HS.out]; kernel_rfl
                      have q3 : (s.toList == [100, 111, 117, 98, 108, 101, 95, 113, 117, 111, 116, 101, 115]) = false := by rw [HS.out]; kernel_rfl
                      have q8 : (s.toList == [117, 110, 107, 110, 111, 119, 110]) = false := by rw [HS.out]; kernel_rfl
                      clear HS
                      have p0 := HK5.out.cell 2 0 (g := w.heap.size) (v := .int .i64 f.q) rfl rfl
                      have p1 := HK5.out.cell 2 1 (g := w.heap.size) (v := .int .i64 f.u) rfl rfl
                      have p2 := HK5.out.cell 2 2 (g := w.heap.size) (v := .bool f.c) rfl rfl
                      have p3 := HK5.out.cell 2 3 (g := w.heap.size) (v := .bool f.d) rfl rfl
                      have fp0 := HK5.out.fz 2 0 (g := w.heap.size) rfl
                      have fp1 := HK5.out.fz 2 1 (g := w.heap.size) rfl
                      have fp2 := HK5.out.fz 2 2 (g := w.heap.size) rfl
                      have fp3 := HK5.out.fz 2 3 (g := w.heap.size) rfl
                      have z0 := HK5.out.cell 0 0 (g := w.heap.size + 1 + 1) (v := .int .i64 0) rfl rfl
                      have z1 := HK5.out.cell 0 1 (g := w.heap.size + 1 + 1) (v := .int .i64 0) rfl rfl
                      have z2 := HK5.out.cell 0 2 (g := w.heap.size + 1 + 1) (v := .bool false) rfl rfl
                      have z3 := HK5.out.cell 0 3 (g := w.heap.size + 1 + 1) (v := .bool false) rfl rfl
                      have fz0 := HK5.out.fz 0 0 (g := w.heap.size + 1 + 1) rfl
                      have fz1 := HK5.out.fz 0 1 (g := w.heap.size + 1 + 1) rfl
                      have fz2 := HK5.out.fz 0 2 (g := w.heap.size + 1 + 1) rfl
                      have fz3 := HK5.out.fz 0 3 (g := w.heap.size + 1 + 1) rfl
                      have l2 := HK5.out.lt 0 (g := w.heap.size + 1 + 1) rfl
                      have hk0 : Bks _ [(w.heap.size + 1 + 1, [.int .i64 0, .int .i64 0, .bool false, .bool false]), (w.heap.size + 1, [.int .i64 t.kind, .int .i64 t.num, .string t.name, .slice TA t.args.length cap]), (w.heap.size, [.int .i64 f.q, .int .i64 f.u, .bool f.c, .bool ((j : Int) == 1)])] := (HK5.out.set 2 3 (g := w.heap.size) (vs := [.int .i64 f.q, .int .i64 f.u, .bool f.c, .bool f.d]) rfl (.bool ((j : Int) == 1)))
                      have hk1 : Bks (((((W5.setCell ⟨w.heap.size, 3, none⟩ (.bool ((j : Int) == 1))).setCell ⟨w.heap.size + 1 + 1, 0, none⟩ (.int .i64 f.q)).setCell ⟨w.heap.size + 1 + 1, 1, none⟩ (.int .i64 f.u)).setCell ⟨w.heap.size + 1 + 1, 2, none⟩ (.bool f.c)).setCell ⟨w.heap.size + 1 + 1, 3, none⟩ (.bool ((j : Int) == 1))) [(w.heap.size + 1 + 1, [.int .i64 f.q, .int .i64 f.u, .bool f.c, .bool ((j : Int) == 1)]), (w.heap.size + 1, [.int .i64 t.kind, .int .i64 t.num, .string t.name, .slice TA t.args.length cap]), (w.heap.size, [.int .i64 f.q, .int .i64 f.u, .bool f.c, .bool ((j : Int) == 1)])] := hk0.set4 0 rfl (.int .i64 f.q) (.int .i64 f.u) (.bool f.c) (.bool ((j : Int) == 1))
                      have hb1 : Below w.heap.size w (((((W5.setCell ⟨w.heap.size, 3, none⟩ (.bool ((j : Int) == 1))).setCell ⟨w.heap.size + 1 + 1, 0, none⟩ (.int .i64 f.q)).setCell ⟨w.heap.size + 1 + 1, 1, none⟩ (.int .i64 f.u)).setCell ⟨w.heap.size + 1 + 1, 2, none⟩ (.bool f.c)).setCell ⟨w.heap.size + 1 + 1, 3, none⟩ (.bool ((j : Int) == 1))) := (((((HB5.out.setCell (p := ⟨w.heap.size, _, none⟩) (Nat.le_refl _) _).setCell (p := ⟨w.heap.size + 1 + 1, _, none⟩) (show w.heap.size ≤ w.heap.size + 1 + 1 by omega) _).setCell (p := ⟨w.heap.size + 1 + 1, _, none⟩) (show w.heap.size ≤ w.heap.size + 1 + 1 by omega) _).setCell (p := ⟨w.heap.size + 1 + 1, _, none⟩) (show w.heap.size ≤ w.heap.size + 1 + 1 by omega) _).setCell (p := ⟨w.heap.size + 1 + 1, _, none⟩) (show w.heap.size ≤ w.heap.size + 1 + 1 by omega) _)
                      obtain ⟨wz, HWZ⟩ : ∃ wz, Hid (wz = (((((W5.setCell ⟨w.heap.size, 3, none⟩ (.bool ((j : Int) == 1))).setCell ⟨w.heap.size + 1 + 1, 0, none⟩ (.int .i64 f.q)).setCell ⟨w.heap.size + 1 + 1, 1, none⟩ (.int .i64 f.u)).setCell ⟨w.heap.size + 1 + 1, 2, none⟩ (.bool f.c)).setCell ⟨w.heap.size + 1 + 1, 3, none⟩ (.bool ((j : Int) == 1)))) := ⟨_, Lib.hid rfl⟩
                      rw [← HWZ.out] at hk1 hb1
                      have HK9 := Lib.hid hk1
                      have HB9 := Lib.hid hb1
                      clear hk0 hk1 hb1
                      go_wp2_with fail
                      rw [← HWZ.out]
                      have m0 := HK9.out.cell 0 0 (g := w.heap.size + 1 + 1) (v := .int .i64 f.q) rfl rfl
                      have m1 := HK9.out.cell 0 1 (g := w.heap.size + 1 + 1) (v := .int .i64 f.u) rfl rfl
                      have m2 := HK9.out.cell 0 2 (g := w.heap.size + 1 + 1) (v := .bool f.c) rfl rfl
                      have m3 := HK9.out.cell 0 3 (g := w.heap.size + 1 + 1) (v := .bool ((j : Int) == 1)) rfl rfl
                      exact bodyPost_ret (v := .tuple #[.agg #[.int .i64 f.q, .int .i64 f.u, .bool f.c, .bool ((j : Int) == 1)], .int .i64 0]) (by simp [results, Tryz.results21, go_sem, m0, m1, m2, m3]) rfl ⟨by rw [HE3.out, HF3.out]; rfl, HB9.out⟩
                    · have q1 : (s.toList == [99, 104, 97, 114, 95, 99, 111, 110, 118, 101, 114, 115, 105, 111, 110]) = false := by rw [HS.out]; kernel_rfl
                      have q2 : (s.toList == [100, 101, 98, 117, 103]) = false := by rw [HS.out]; kernel_rfl
                      have q3 : (s.toList == [100, 111, 117, 98, 108, 101, 95, 113, 117, 111, 116, 101, 115]) = true := by rw [HS.out]; kernel_rfl
                      have q8 : (s.toList == [117, 110, 107, 110, 111, 119, 110]) = false := by rw [HS.out]; kernel_rfl
                      clear HS
                      have hjb : (j : Int) ≤ 3 := by have : j < 3 := hj2; omega
                      have p0 := HK5.out.cell 2 0 (g := w.heap.size) (v := .int .i64 f.q) rfl rfl
                      have p1 := HK5.out.cell 2 1 (g := w.heap.size) (v := .int .i64 f.u) rfl rfl
                      have p2 := HK5.out.cell 2 2 (g := w.heap.size) (v := .bool f.c) rfl rfl
                      have p3 := HK5.out.cell 2 3 (g := w.heap.size) (v := .bool f.d) rfl rfl
                      have fp0 := HK5.out.fz 2 0 (g := w.heap.size) rfl
                      have fp1 := HK5.out.fz 2 1 (g := w.heap.size) rfl
                      have fp2 := HK5.out.fz 2 2 (g := w.heap.size) rfl
                      have fp3 := HK5.out.fz 2 3 (g := w.heap.size) rfl
                      have z0 := HK5.out.cell 0 0 (g := w.heap.size + 1 + 1) (v := .int .i64 0) rfl rfl
                      have z1 := HK5.out.cell 0 1 (g := w.heap.size + 1 + 1) (v := .int .i64 0) rfl rfl
                      have z2 := HK5.out.cell 0 2 (g := w.heap.size + 1 + 1) (v := .bool false) rfl rfl
                      have z3 := HK5.out.cell 0 3 (g := w.heap.size + 1 + 1) (v := .bool false) rfl rfl
                      have fz0 := HK5.out.fz 0 0 (g := w.heap.size + 1 + 1) rfl
                      have fz1 := HK5.out.fz 0 1 (g := w.heap.size + 1 + 1) rfl
                      have fz2 := HK5.out.fz 0 2 (g := w.heap.size + 1 + 1) rfl
                      have fz3 := HK5.out.fz 0 3 (g := w.heap.size + 1 + 1) rfl
                      have l2 := HK5.out.lt 0 (g := w.heap.size + 1 + 1) rfl
                      have hk0 : Bks _ [(w.heap.size + 1 + 1, [.int .i64 0, .int .i64 0, .bool false, .bool false]), (w.heap.size + 1, [.int .i64 t.kind, .int .i64 t.num, .string t.name, .slice TA t.args.length cap]), (w.heap.size, [.int .i64 (j + 1), .int .i64 f.u, .bool f.c, .bool f.d])] := (HK5.out.set 2 0 (g := w.heap.size) (vs := [.int .i64 f.q, .int .i64 f.u, .bool f.c, .bool f.d]) rfl (.int .i64 (j + 1)))
                      have hk1 : Bks (((((W5.setCell ⟨w.heap.size, 0, none⟩ (.int .i64 (j + 1))).setCell ⟨w.heap.size + 1 + 1, 0, none⟩ (.int .i64 (j + 1))).setCell ⟨w.heap.size + 1 + 1, 1, none⟩ (.int .i64 f.u)).setCell ⟨w.heap.size + 1 + 1, 2, none⟩ (.bool f.c)).setCell ⟨w.heap.size + 1 + 1, 3, none⟩ (.bool f.d)) [(w.heap.size + 1 + 1, [.int .i64 (j + 1), .int .i64 f.u, .bool f.c, .bool f.d]), (w.heap.size + 1, [.int .i64 t.kind, .int .i64 t.num, .string t.name, .slice TA t.args.length cap]), (w.heap.size, [.int .i64 (j + 1), .int .i64 f.u, .bool f.c, .bool f.d])] := hk0.set4 0 rfl (.int .i64 (j + 1)) (.int .i64 f.u) (.bool f.c) (.bool f.d)
                      have hb1 : Below w.heap.size w (((((W5.setCell ⟨w.heap.size, 0, none⟩ (.int .i64 (j + 1))).setCell ⟨w.heap.size + 1 + 1, 0, none⟩ (.int .i64 (j + 1))).setCell ⟨w.heap.size + 1 + 1, 1, none⟩ (.int .i64 f.u)).setCell ⟨w.heap.size + 1 + 1, 2, none⟩ (.bool f.c)).setCell ⟨w.heap.size + 1 + 1, 3, none⟩ (.bool f.d)) := (((((HB5.out.setCell (p := ⟨w.heap.size, _, none⟩) (Nat.le_refl _) _).setCell (p := ⟨w.heap.size + 1 + 1, _, none⟩) (show w.heap.size ≤ w.heap.size + 1 + 1 by omega) _).setCell (p := ⟨w.heap.size + 1 + 1, _, none⟩) (show w.heap.size ≤ w.heap.size + 1 + 1 by omega) _).setCell (p := ⟨w.heap.size + 1 + 1, _, none⟩) (show w.heap.size ≤ w.heap.size + 1 + 1 by omega) _).setCell (p := ⟨w.heap.size + 1 + 1, _, none⟩) (show w.heap.size ≤ w.heap.size + 1 + 1 by omega) _)
                      obtain ⟨wz, HWZ⟩ : ∃ wz, Hid (wz = (((((W5.setCell ⟨w.heap.size, 0, none⟩ (.int .i64 (j + 1))).setCell ⟨w.heap.size + 1 + 1, 0, none⟩ (.int .i64 (j + 1))).setCell ⟨w.heap.size + 1 + 1, 1, none⟩ (.int .i64 f.u)).setCell ⟨w.heap.size + 1 + 1, 2, none⟩ (.bool f.c)).setCell ⟨w.heap.size + 1 + 1, 3, none⟩ (.bool f.d))) := ⟨_, Lib.hid rfl⟩
                      rw [← HWZ.out] at hk1 hb1
                      have HK9 := Lib.hid hk1
                      have HB9 := Lib.hid hb1
                      clear hk0 hk1 hb1
                      go_wp2_with fail
                      rw [← HWZ.out]
                      have m0 := HK9.out.cell 0 0 (g := w.heap.size + 1 + 1) (v := .int .i64 (j + 1)) rfl rfl
                      have m1 := HK9.out.cell 0 1 (g := w.heap.size + 1 + 1) (v := .int .i64 f.u) rfl rfl
                      have m2 := HK9.out.cell 0 2 (g := w.heap.size + 1 + 1) (v := .bool f.c) rfl rfl
                      have m3 := HK9.out.cell 0 3 (g := w.heap.size + 1 + 1) (v := .bool f.d) rfl rfl
                      exact bodyPost_ret (v := .tuple #[.agg #[.int .i64 (j + 1), .int .i64 f.u, .bool f.c, .bool f.d], .int .i64 0]) (by simp [results, Tryz.results21, go_sem, m0, m1, m2, m3]) rfl ⟨by rw [HE3.out, HF3.out]; rfl, HB9.out⟩
                    · have q1 : (s.toList == [99, 104, 97, 114, 95, 99, 111, 110, 118, 101, 114, 115, 105, 111, 110]) = false := by rw [HS.out]; kernel_rfl
                      have q2 : (s.toList == [100, 101, 98, 117, 103]) = false := by rw [HS.out]; kernel_rfl
                      have q3 : (s.toList == [100, 111, 117, 98, 108, 101, 95, 113, 117, 111, 116, 101, 115]) = false := by rw [HS.out]; kernel_rfl
                      have q8 : (s.toList == [117, 110, 107, 110, 111, 119, 110]) = true := by rw [HS.out]; kernel_rfl
                      clear HS
                      have hjb : (j : Int) ≤ 3 := by have : j < 2 := hj2; omega
                      have p0 := HK5.out.cell 2 0 (g := w.heap.size) (v := .int .i64 f.q) rfl rfl
                      have p1 := HK5.out.cell 2 1 (g := w.heap.size) (v := .int .i64 f.u) rfl rfl
                      have p2 := HK5.out.cell 2 2 (g := w.heap.size) (v := .bool f.c) rfl rfl
                      have p3 := HK5.out.cell 2 3 (g := w.heap.size) (v := .bool f.d) rfl rfl
                      have fp0 := HK5.out.fz 2 0 (g := w.heap.size) rfl
                      have fp1 := HK5.out.fz 2 1 (g := w.heap.size) rfl
                      have fp2 := HK5.out.fz 2 2 (g := w.heap.size) rfl
                      have fp3 := HK5.out.fz 2 3 (g := w.heap.size) rfl
                      have z0 := HK5.out.cell 0 0 (g := w.heap.size + 1 + 1) (v := .int .i64 0) rfl rfl
                      have z1 := HK5.out.cell 0 1 (g := w.heap.size + 1 + 1) (v := .int .i64 0) rfl rfl
                      have z2 := HK5.out.cell 0 2 (g := w.heap.size + 1 + 1) (v := .bool false) rfl rfl
                      have z3 := HK5.out.cell 0 3 (g := w.heap.size + 1 + 1) (v := .bool false) rfl rfl
                      have fz0 := HK5.out.fz 0 0 (g := w.heap.size + 1 + 1) rfl
                      have fz1 := HK5.out.fz 0 1 (g := w.heap.size + 1 + 1) rfl
                      have fz2 := HK5.out.fz 0 2 (g := w.heap.size + 1 + 1) rfl
                      have fz3 := HK5.out.fz 0 3 (g := w.heap.size + 1 + 1) rfl
                      have l2 := HK5.out.lt 0 (g := w.heap.size + 1 + 1) rfl
                      have hk0 : Bks _ [(w.heap.size + 1 + 1, [.int .i64 0, .int .i64 0, .bool false, .bool false]), (w.heap.size + 1, [.int .i64 t.kind, .int .i64 t.num, .string t.name, .slice TA t.args.length cap]), (w.heap.size, [.int .i64 f.q, .int .i64 (j + 1), .bool f.c, .bool f.d])] := (HK5.out.set 2 1 (g := w.heap.size) (vs := [.int .i64 f.q, .int .i64 f.u, .bool f.c, .bool f.d]) rfl (.int .i64 (j + 1)))
                      have hk1 : Bks (((((W5.setCell ⟨w.heap.size, 1, none⟩ (.int .i64 (j + 1))).setCell ⟨w.heap.size + 1 + 1, 0, none⟩ (.int .i64 f.q)).setCell ⟨w.heap.size + 1 + 1, 1, none⟩ (.int .i64 (j + 1))).setCell ⟨w.heap.size + 1 + 1, 2, none⟩ (.bool f.c)).setCell ⟨w.heap.size + 1 + 1, 3, none⟩ (.bool f.d)) [(w.heap.size + 1 + 1, [.int .i64 f.q, .int .i64 (j + 1), .bool f.c, .bool f.d]), (w.heap.size + 1, [.int .i64 t.kind, .int .i64 t.num, .string t.name, .slice TA t.args.length cap]), (w.heap.size, [.int .i64 f.q, .int .i64 (j + 1), .bool f.c, .bool f.d])] := hk0.set4 0 rfl (.int .i64 f.q) (.int .i64 (j + 1)) (.bool f.c) (.bool f.d)
                      have hb1 : Below w.heap.size w (((((W5.setCell ⟨w.heap.size, 1, none⟩ (.int .i64 (j + 1))).setCell ⟨w.heap.size + 1 + 1, 0, none⟩ (.int .i64 f.q)).setCell ⟨w.heap.size + 1 + 1, 1, none⟩ (.int .i64 (j + 1))).setCell ⟨w.heap.size + 1 + 1, 2, none⟩ (.bool f.c)).setCell ⟨w.heap.size + 1 + 1, 3, none⟩ (.bool f.d)) := (((((HB5.out.setCell (p := ⟨w.heap.size, _, none⟩) (Nat.le_refl _) _).setCell (p := ⟨w.heap.size + 1 + 1, _, none⟩) (show w.heap.size ≤ w.heap.size + 1 + 1 by omega) _).setCell (p := ⟨w.heap.size + 1 + 1, _, none⟩) (show w.heap.size ≤ w.heap.size + 1 + 1 by omega) _).setCell (p := ⟨w.heap.size + 1 + 1, _, none⟩) (show w.heap.size ≤ w.heap.size + 1 + 1 by omega) _).setCell (p := ⟨w.heap.size + 1 + 1, _, none⟩) (show w.heap.size ≤ w.heap.size + 1 + 1 by omega) _)
                      obtain ⟨wz, HWZ⟩ : ∃ wz, Hid (wz = (((((W5.setCell ⟨w.heap.size, 1, none⟩ (.int .i64 (j + 1))).setCell ⟨w.heap.size + 1 + 1, 0, none⟩ (.int .i64 f.q)).setCell ⟨w.heap.size + 1 + 1, 1, none⟩ (.int .i64 (j + 1))).setCell ⟨w.heap.size + 1 + 1, 2, none⟩ (.bool f.c)).setCell ⟨w.heap.size + 1 + 1, 3, none⟩ (.bool f.d))) := ⟨_, Lib.hid rfl⟩
                      rw [← HWZ.out] at hk1 hb1
                      have HK9 := Lib.hid hk1
                      have HB9 := Lib.hid hb1
                      clear hk0 hk1 hb1
                      go_wp2_with fail
                      rw [← HWZ.out]
                      have m0 := HK9.out.cell 0 0 (g := w.heap.size + 1 + 1) (v := .int .i64 f.q) rfl rfl
                      have m1 := HK9.out.cell 0 1 (g := w.heap.size + 1 + 1) (v := .int .i64 (j + 1)) rfl rfl
                      have m2 := HK9.out.cell 0 2 (g := w.heap.size + 1 + 1) (v := .bool f.c) rfl rfl
                      have m3 := HK9.out.cell 0 3 (g := w.heap.size + 1 + 1) (v := .bool f.d) rfl rfl
                      exact bodyPost_ret (v := .tuple #[.agg #[.int .i64 f.q, .int .i64 (j + 1), .bool f.c, .bool f.d], .int .i64 0]) (by simp [results, Tryz.results21, go_sem, m0, m1, m2, m3]) rfl ⟨by rw [HE3.out, HF3.out]; rfl, HB9.out⟩
                · have qn : (t.name.toList == nm.toList) = false := by simpa using he
                  have HNX : Hid (t.kind = 2 → ∀ x, x < j + 1 → (fVL k).getD x ByteArray.empty ≠ t.name) := Lib.hid (fun h x hx => by
                    by_cases e : x = j
                    · subst e; rw [← HNM.out]; exact fun h => he (by rw [h])
                    · exact HNO.out h x (by omega))
                  refine wpAny_inv (fun S a X => a = (⟨#[.agg #[.int .i64 f.q, .int .i64 f.u, .bool f.c, .bool f.d], .string s, .agg #[.int .i64 t.kind, .int .i64 t.num, .string t.name, .slice TA t.args.length cap], .pointer (some ⟨w.heap.size, 0, none⟩), undef, .pointer (some ⟨w.heap.size + 1, 0, none⟩), .pointer (some ⟨w.heap.size + 1 + 1, 0, none⟩), u7, .slice (some ⟨b, 0, none⟩) n n, .int .i64 j, .agg #[.int .i64 f.q, .int .i64 f.u, .bool f.c, .bool f.d], .bool true, .bool false, .bool false, .agg #[.int .i64 t.kind, .int .i64 t.num, .string t.name, .slice TA t.args.length cap], .bool true, .bool false, .bool false, undef, .string s, .bool true, .bool false, undef, .string s, .slice (some ⟨b, 0, none⟩) n n, .slice (some ⟨b, 0, none⟩) n n, .int .i64 (n : Int), .bool ((n : Int) == 0), undef, .int .i64 j, .slice (some ⟨b, 0, none⟩) n n, .int .i64 (n : Int), .bool true, u33, u34, if S 0 = true then .pointer (some ⟨w.heap.size + 1, 0, none⟩) else u35, if S 1 = true then .int .i64 t.kind else u36, if S 2 = true then .bool false else u37, if S 3 = true then .bool false else u38, if S 4 = true then .pointer (some ⟨w.heap.size + 1, 2, none⟩) else u39, if S 5 = true then .string t.name else u40, if S 6 = true then .slice (some ⟨b, 0, none⟩) n n else u41, if S 7 = true then .int .i64 j else u42, if S 8 = true then .pointer (some ⟨b, j, none⟩) else u43, if S 9 = true then .string nm else u44, if S 10 = true then .bool true else u45, if S 11 = true then .bool true else u46, u47, u48, u49, u50, u51, u52, u53, u54, u55, u56, u57, u58, u59, u60, u61, u62, u63, u64, u65, u66, u67, u68, undef], []⟩ : Act) ∧ X = wr.drew) (by kernel_rfl) ?stepb ?finb 12 (fun _ => false) _ _ (by decide) ⟨rfl, rfl⟩
                  case stepb =>
                    rintro S j o a X ho hs hp ⟨rfl, rfl⟩
                    have hlt : j < 12 := (Array.getElem?_eq_some_iff.1 ho).1
                    rcases (show j = 0 ∨ j = 1 ∨ j = 2 ∨ j = 3 ∨ j = 4 ∨ j = 5 ∨ j = 6 ∨ j = 7 ∨ j = 8 ∨ j = 9 ∨ j = 10 ∨ j = 11 by omega) with rfl | rfl | rfl | rfl | rfl | rfl | rfl | rfl | rfl | rfl | rfl | rfl
                    · injection ho with ho
                      subst ho
                      rw [if_pos (show Region.wanted _ _ = true from rfl)]
                      refine wp_val (v := .pointer (some ⟨w.heap.size + 1, 0, none⟩)) (w' := wr.drew) ?_ ⟨rfl, rfl⟩
                      simp [execOp, go_sem, Act.eval]
                    · injection ho with ho
                      subst ho
                      have s0 : S 0 = true := hp ⟨0, .data⟩ (by simp) rfl
                      have y0 : wr.drew.cell? ⟨w.heap.size + 1, 0, none⟩ = some (.int .i64 t.kind) := b0
                      rw [if_pos (show Region.wanted _ _ = true from rfl)]
                      refine wp_val (v := .int .i64 t.kind) (w' := wr.drew) ?_ ⟨rfl, rfl⟩
                      simp [execOp, go_sem, Act.eval, s0, y0]
                    · injection ho with ho
                      subst ho
                      have s1 : S 1 = true := hp ⟨1, .data⟩ (by simp) rfl
                      rw [if_pos (show Region.wanted _ _ = true from rfl)]
                      refine wp_val (v := .bool false) (w' := wr.drew) ?_ ⟨rfl, rfl⟩
                      simp [execOp, go_sem, Act.eval, s1, hk2]
                    · injection ho with ho
                      subst ho
                      have s2 : S 2 = true := hp ⟨2, .data⟩ (by simp) rfl
                      rw [if_pos (show Region.wanted _ _ = true from rfl)]
                      refine wp_val (v := .bool false) (w' := wr.drew) ?_ ⟨rfl, rfl⟩
                      simp [execOp, go_sem, Act.eval, s2]
                    · injection ho with ho
                      subst ho
                      have s3 : S 3 = true := hp ⟨3, .guard⟩ (by simp) rfl
                      rw [if_pos (show Region.wanted _ (yielded _ _) = true by simp [Region.wanted, yielded, s3])]
                      refine wp_val (v := .pointer (some ⟨w.heap.size + 1, 2, none⟩)) (w' := wr.drew) ?_ ⟨rfl, rfl⟩
                      simp [execOp, go_sem, Act.eval]
                    · injection ho with ho
                      subst ho
                      have s4 : S 4 = true := hp ⟨4, .data⟩ (by simp) rfl
                      have s3 : S 3 = true := hp ⟨3, .guard⟩ (by simp) rfl
                      have y2 : wr.drew.cell? ⟨w.heap.size + 1, 2, none⟩ = some (.string t.name) := b2
                      rw [if_pos (show Region.wanted _ (yielded _ _) = true by simp [Region.wanted, yielded, s3])]
                      refine wp_val (v := .string t.name) (w' := wr.drew) ?_ ⟨rfl, rfl⟩
                      simp [execOp, go_sem, Act.eval, s4, y2]
                    · injection ho with ho
                      subst ho
                      have s3 : S 3 = true := hp ⟨3, .guard⟩ (by simp) rfl
                      rw [if_pos (show Region.wanted _ (yielded _ _) = true by simp [Region.wanted, yielded, s3])]
                      refine wp_val (v := .slice (some ⟨b, 0, none⟩) n n) (w' := wr.drew) ?_ ⟨rfl, rfl⟩
                      simp [execOp, go_sem, Act.eval]
                    · injection ho with ho
                      subst ho
                      have s3 : S 3 = true := hp ⟨3, .guard⟩ (by simp) rfl
                      rw [if_pos (show Region.wanted _ (yielded _ _) = true by simp [Region.wanted, yielded, s3])]
                      refine wp_val (v := .int .i64 j) (w' := wr.drew) ?_ ⟨rfl, rfl⟩
                      simp [execOp, go_sem, Act.eval]
                    · injection ho with ho
                      subst ho
                      have s6 : S 6 = true := hp ⟨6, .data⟩ (by simp) rfl
                      have s7 : S 7 = true := hp ⟨7, .data⟩ (by simp) rfl
                      have s3 : S 3 = true := hp ⟨3, .guard⟩ (by simp) rfl
                      rw [if_pos (show Region.wanted _ (yielded _ _) = true by simp [Region.wanted, yielded, s3])]
                      refine wp_val (v := .pointer (some ⟨b, j, none⟩)) (w' := wr.drew) ?_ ⟨rfl, rfl⟩
                      simp [execOp, go_sem, Act.eval, s6, s7, hj0, hj1]
                    · injection ho with ho
                      subst ho
                      have s8 : S 8 = true := hp ⟨8, .data⟩ (by simp) rfl
                      have s3 : S 3 = true := hp ⟨3, .guard⟩ (by simp) rfl
                      have yn : wr.drew.cell? ⟨b, j, none⟩ = some (.string nm) := cn
                      rw [if_pos (show Region.wanted _ (yielded _ _) = true by simp [Region.wanted, yielded, s3])]
                      refine wp_val (v := .string nm) (w' := wr.drew) ?_ ⟨rfl, rfl⟩
                      simp [execOp, go_sem, Act.eval, s8, yn]
                    · injection ho with ho
                      subst ho
                      have s5 : S 5 = true := hp ⟨5, .data⟩ (by simp) rfl
                      have s9 : S 9 = true := hp ⟨9, .data⟩ (by simp) rfl
                      have s3 : S 3 = true := hp ⟨3, .guard⟩ (by simp) rfl
                      rw [if_pos (show Region.wanted _ (yielded _ _) = true by simp [Region.wanted, yielded, s3])]
                      refine wp_val (v := .bool true) (w' := wr.drew) ?_ ⟨rfl, rfl⟩
                      simp [execOp, go_sem, Act.eval, s5, s9, qn]
                    · injection ho with ho
                      subst ho
                      have s3 : S 3 = true := hp ⟨3, .data⟩ (by simp) rfl
                      have s10 : S 10 = true := hp ⟨10, .data⟩ (by simp) rfl
                      rw [if_pos (show Region.wanted _ _ = true from rfl)]
                      refine wp_val (v := .bool true) (w' := wr.drew) ?_ ⟨rfl, rfl⟩
                      simp [execOp, go_sem, Act.eval, s3, s10]
                  case finb =>
                    rintro S a X hall ⟨rfl, rfl⟩
                    have s0 : S 0 = true := hall 0 (show 0 < 12 by omega)
                    have s1 : S 1 = true := hall 1 (show 1 < 12 by omega)
                    have s2 : S 2 = true := hall 2 (show 2 < 12 by omega)
                    have s3 : S 3 = true := hall 3 (show 3 < 12 by omega)
                    have s4 : S 4 = true := hall 4 (show 4 < 12 by omega)
                    have s5 : S 5 = true := hall 5 (show 5 < 12 by omega)
                    have s6 : S 6 = true := hall 6 (show 6 < 12 by omega)
                    have s7 : S 7 = true := hall 7 (show 7 < 12 by omega)
                    have s8 : S 8 = true := hall 8 (show 8 < 12 by omega)
                    have s9 : S 9 = true := hall 9 (show 9 < 12 by omega)
                    have s10 : S 10 = true := hall 10 (show 10 < 12 by omega)
                    have s11 : S 11 = true := hall 11 (show 11 < 12 by omega)
                    refine hK0 _ _ ?_
                    simp only [s0, s1, s2, s3, s4, s5, s6, s7, s8, s9, s10, s11, if_true]
                    clear hall hK0 s0 s1 s2 s3 s4 s5 s6 s7 s8 s9 s10 s11
                    have HBD := Lib.hid HBR.out.drew
                    have HKD := Lib.hid HKR.out.dr
                    have HRD := Lib.hid (HRR.out.below (Below.refl _ wr).drew)
                    go_wp2_with fail
                    go_roundw
                    case rel => exact ⟨j + 1, by omega, by go_num, HBD, HKD, HRD, HNX⟩
                    case measure => simp [intOf] <;> omega
              · have HNX : Hid (t.kind = 2 → ∀ x, x < j + 1 → (fVL k).getD x ByteArray.empty ≠ t.name) := Lib.hid fun h => absurd h hk2
                refine wpAny_inv (fun S a X => a = (⟨#[.agg #[.int .i64 f.q, .int .i64 f.u, .bool f.c, .bool f.d], .string s, .agg #[.int .i64 t.kind, .int .i64 t.num, .string t.name, .slice TA t.args.length cap], .pointer (some ⟨w.heap.size, 0, none⟩), undef, .pointer (some ⟨w.heap.size + 1, 0, none⟩), .pointer (some ⟨w.heap.size + 1 + 1, 0, none⟩), u7, .slice (some ⟨b, 0, none⟩) n n, .int .i64 j, .agg #[.int .i64 f.q, .int .i64 f.u, .bool f.c, .bool f.d], .bool true, .bool false, .bool false, .agg #[.int .i64 t.kind, .int .i64 t.num, .string t.name, .slice TA t.args.length cap], .bool true, .bool false, .bool false, undef, .string s, .bool true, .bool false, undef, .string s, .slice (some ⟨b, 0, none⟩) n n, .slice (some ⟨b, 0, none⟩) n n, .int .i64 (n : Int), .bool ((n : Int) == 0), undef, .int .i64 j, .slice (some ⟨b, 0, none⟩) n n, .int .i64 (n : Int), .bool true, u33, u34, if S 0 = true then .pointer (some ⟨w.heap.size + 1, 0, none⟩) else u35, if S 1 = true then .int .i64 t.kind else u36, if S 2 = true then .bool true else u37, if S 3 = true then .bool true else u38, if S 4 = true then undef else u39, if S 5 = true then undef else u40, if S 6 = true then undef else u41, if S 7 = true then undef else u42, if S 8 = true then undef else u43, if S 9 = true then undef else u44, if S 10 = true then undef else u45, if S 11 = true then .bool true else u46, u47, u48, u49, u50, u51, u52, u53, u54, u55, u56, u57, u58, u59, u60, u61, u62, u63, u64, u65, u66, u67, u68, undef], []⟩ : Act) ∧ X = wr.drew) (by kernel_rfl) ?stepa ?fina 12 (fun _ => false) _ _ (by decide) ⟨rfl, rfl⟩
                case stepa =>
                  rintro S j o a X ho hs hp ⟨rfl, rfl⟩
                  have hlt : j < 12 := (Array.getElem?_eq_some_iff.1 ho).1
                  rcases (show j = 0 ∨ j = 1 ∨ j = 2 ∨ j = 3 ∨ j = 4 ∨ j = 5 ∨ j = 6 ∨ j = 7 ∨ j = 8 ∨ j = 9 ∨ j = 10 ∨ j = 11 by omega) with rfl | rfl | rfl | rfl | rfl | rfl | rfl | rfl | rfl | rfl | rfl | rfl
                  · injection ho with ho
                    subst ho
                    rw [if_pos (show Region.wanted _ _ = true from rfl)]
                    refine wp_val (v := .pointer (some ⟨w.heap.size + 1, 0, none⟩)) (w' := wr.drew) ?_ ⟨rfl, rfl⟩
                    simp [execOp, go_sem, Act.eval]
                  · injection ho with ho
                    subst ho
                    have s0 : S 0 = true := hp ⟨0, .data⟩ (by simp) rfl
                    have y0 : wr.drew.cell? ⟨w.heap.size + 1, 0, none⟩ = some (.int .i64 t.kind) := b0
                    rw [if_pos (show Region.wanted _ _ = true from rfl)]
                    refine wp_val (v := .int .i64 t.kind) (w' := wr.drew) ?_ ⟨rfl, rfl⟩
                    simp [execOp, go_sem, Act.eval, s0, y0]
                  · injection ho with ho
                    subst ho
                    have s1 : S 1 = true := hp ⟨1, .data⟩ (by simp) rfl
                    rw [if_pos (show Region.wanted _ _ = true from rfl)]
                    refine wp_val (v := .bool true) (w' := wr.drew) ?_ ⟨rfl, rfl⟩
                    simp [execOp, go_sem, Act.eval, s1, hk2]
                  · injection ho with ho
                    subst ho
                    have s2 : S 2 = true := hp ⟨2, .data⟩ (by simp) rfl
                    rw [if_pos (show Region.wanted _ _ = true from rfl)]
                    refine wp_val (v := .bool true) (w' := wr.drew) ?_ ⟨rfl, rfl⟩
                    simp [execOp, go_sem, Act.eval, s2]
                  · injection ho with ho
                    subst ho
                    have s3 : S 3 = true := hp ⟨3, .guard⟩ (by simp) rfl
                    rw [if_neg (show ¬ Region.wanted _ (yielded _ _) = true by simp [Region.wanted, yielded, s3])]
                    exact ⟨rfl, rfl⟩
                  · injection ho with ho
                    subst ho
                    have s3 : S 3 = true := hp ⟨3, .guard⟩ (by simp) rfl
                    rw [if_neg (show ¬ Region.wanted _ (yielded _ _) = true by simp [Region.wanted, yielded, s3])]
                    exact ⟨rfl, rfl⟩
                  · injection ho with ho
                    subst ho
                    have s3 : S 3 = true := hp ⟨3, .guard⟩ (by simp) rfl
                    rw [if_neg (show ¬ Region.wanted _ (yielded _ _) = true by simp [Region.wanted, yielded, s3])]
                    exact ⟨rfl, rfl⟩
                  · injection ho with ho
                    subst ho
                    have s3 : S 3 = true := hp ⟨3, .guard⟩ (by simp) rfl
                    rw [if_neg (show ¬ Region.wanted _ (yielded _ _) = true by simp [Region.wanted, yielded, s3])]
                    exact ⟨rfl, rfl⟩
                  · injection ho with ho
                    subst ho
                    have s3 : S 3 = true := hp ⟨3, .guard⟩ (by simp) rfl
                    rw [if_neg (show ¬ Region.wanted _ (yielded _ _) = true by simp [Region.wanted, yielded, s3])]
                    exact ⟨rfl, rfl⟩
                  · injection ho with ho
                    subst ho
                    have s3 : S 3 = true := hp ⟨3, .guard⟩ (by simp) rfl
                    rw [if_neg (show ¬ Region.wanted _ (yielded _ _) = true by simp [Region.wanted, yielded, s3])]
                    exact ⟨rfl, rfl⟩
                  · injection ho with ho
                    subst ho
                    have s3 : S 3 = true := hp ⟨3, .guard⟩ (by simp) rfl
                    rw [if_neg (show ¬ Region.wanted _ (yielded _ _) = true by simp [Region.wanted, yielded, s3])]
                    exact ⟨rfl, rfl⟩
                  · injection ho with ho
                    subst ho
                    have s3 : S 3 = true := hp ⟨3, .data⟩ (by simp) rfl
                    rw [if_pos (show Region.wanted _ _ = true from rfl)]
                    refine wp_val (v := .bool true) (w' := wr.drew) ?_ ⟨rfl, rfl⟩
                    simp [execOp, go_sem, Act.eval, s3]
                case fina =>
                  rintro S a X hall ⟨rfl, rfl⟩
                  have s0 : S 0 = true := hall 0 (show 0 < 12 by omega)
                  have s1 : S 1 = true := hall 1 (show 1 < 12 by omega)
                  have s2 : S 2 = true := hall 2 (show 2 < 12 by omega)
                  have s3 : S 3 = true := hall 3 (show 3 < 12 by omega)
                  have s4 : S 4 = true := hall 4 (show 4 < 12 by omega)
                  have s5 : S 5 = true := hall 5 (show 5 < 12 by omega)
                  have s6 : S 6 = true := hall 6 (show 6 < 12 by omega)
                  have s7 : S 7 = true := hall 7 (show 7 < 12 by omega)
                  have s8 : S 8 = true := hall 8 (show 8 < 12 by omega)
                  have s9 : S 9 = true := hall 9 (show 9 < 12 by omega)
                  have s10 : S 10 = true := hall 10 (show 10 < 12 by omega)
                  have s11 : S 11 = true := hall 11 (show 11 < 12 by omega)
                  refine hK0 _ _ ?_
                  simp only [s0, s1, s2, s3, s4, s5, s6, s7, s8, s9, s10, s11, if_true]
                  clear hall hK0 s0 s1 s2 s3 s4 s5 s6 s7 s8 s9 s10 s11
                  have HBD := Lib.hid HBR.out.drew
                  have HKD := Lib.hid HKR.out.dr
                  have HRD := Lib.hid (HRR.out.below (Below.refl _ wr).drew)
                  go_wp2_with fail
                  go_roundw
                  case rel => exact ⟨j + 1, by omega, by go_num, HBD, HKD, HRD, HNX⟩
                  case measure => simp [intOf] <;> omega
            · have hjn : j = n := by omega
              subst hjn
              have HE3 : Hid (setE f s t = 3) := Lib.hid (by
                rw [HE2.out, if_neg]
                rintro ⟨hk2, h0⟩
                obtain ⟨h1, h2⟩ := setI_get h0
                have := HNO.out hk2 (setI k t.name).toNat (by rw [HNL.out]; omega)
                exact this h2)
              have HF2 : Hid (setF f s t = fl0) := Lib.hid (by rw [HF.out, HE3.out]; rfl)
              clear HE2 HF HNO
              have z0 := HKR.out.cell 0 0 (g := w.heap.size + 1 + 1) (v := .int .i64 0) rfl rfl
              have z1 := HKR.out.cell 0 1 (g := w.heap.size + 1 + 1) (v := .int .i64 0) rfl rfl
              have z2 := HKR.out.cell 0 2 (g := w.heap.size + 1 + 1) (v := .bool false) rfl rfl
              have z3 := HKR.out.cell 0 3 (g := w.heap.size + 1 + 1) (v := .bool false) rfl rfl
              have fz0 := HKR.out.fz 0 0 (g := w.heap.size + 1 + 1) rfl
              have fz1 := HKR.out.fz 0 1 (g := w.heap.size + 1 + 1) rfl
              have fz2 := HKR.out.fz 0 2 (g := w.heap.size + 1 + 1) rfl
              have fz3 := HKR.out.fz 0 3 (g := w.heap.size + 1 + 1) rfl
              have hk1 : Bks ((((wr.setCell ⟨w.heap.size + 1 + 1, 0, none⟩ (.int .i64 0)).setCell ⟨w.heap.size + 1 + 1, 1, none⟩ (.int .i64 0)).setCell ⟨w.heap.size + 1 + 1, 2, none⟩ (.bool false)).setCell ⟨w.heap.size + 1 + 1, 3, none⟩ (.bool false)) [(w.heap.size + 1 + 1, [.int .i64 0, .int .i64 0, .bool false, .bool false]), (w.heap.size + 1, [.int .i64 t.kind, .int .i64 t.num, .string t.name, .slice TA t.args.length cap]), (w.heap.size, [.int .i64 f.q, .int .i64 f.u, .bool f.c, .bool f.d])] := HKR.out.set4 0 rfl (.int .i64 0) (.int .i64 0) (.bool false) (.bool false)
              have hb1 : Below w.heap.size w ((((wr.setCell ⟨w.heap.size + 1 + 1, 0, none⟩ (.int .i64 0)).setCell ⟨w.heap.size + 1 + 1, 1, none⟩ (.int .i64 0)).setCell ⟨w.heap.size + 1 + 1, 2, none⟩ (.bool false)).setCell ⟨w.heap.size + 1 + 1, 3, none⟩ (.bool false)) := ((((HBR.out.setCell (p := ⟨w.heap.size + 1 + 1, _, none⟩) (show w.heap.size ≤ w.heap.size + 1 + 1 by omega) _).setCell (p := ⟨w.heap.size + 1 + 1, _, none⟩) (show w.heap.size ≤ w.heap.size + 1 + 1 by omega) _).setCell (p := ⟨w.heap.size + 1 + 1, _, none⟩) (show w.heap.size ≤ w.heap.size + 1 + 1 by omega) _).setCell (p := ⟨w.heap.size + 1 + 1, _, none⟩) (show w.heap.size ≤ w.heap.size + 1 + 1 by omega) _)
              obtain ⟨wz, HWZ⟩ : ∃ wz, Hid (wz = ((((wr.setCell ⟨w.heap.size + 1 + 1, 0, none⟩ (.int .i64 0)).setCell ⟨w.heap.size + 1 + 1, 1, none⟩ (.int .i64 0)).setCell ⟨w.heap.size + 1 + 1, 2, none⟩ (.bool false)).setCell ⟨w.heap.size + 1 + 1, 3, none⟩ (.bool false))) := ⟨_, Lib.hid rfl⟩
              rw [← HWZ.out] at hk1 hb1
              have HK9 := Lib.hid hk1
              have HB9 := Lib.hid hb1
              clear hk1 hb1
              go_wp2_with fail
              rw [← HWZ.out]
              have m0 := HK9.out.cell 0 0 (g := w.heap.size + 1 + 1) (v := .int .i64 0) rfl rfl
              have m1 := HK9.out.cell 0 1 (g := w.heap.size + 1 + 1) (v := .int .i64 0) rfl rfl
              have m2 := HK9.out.cell 0 2 (g := w.heap.size + 1 + 1) (v := .bool false) rfl rfl
              have m3 := HK9.out.cell 0 3 (g := w.heap.size + 1 + 1) (v := .bool false) rfl rfl
              exact bodyPost_ret (v := .tuple #[.agg #[.int .i64 0, .int .i64 0, .bool false, .bool false], .int .i64 3]) (by simp [results, Tryz.results21, go_sem, m0, m1, m2, m3]) rfl ⟨by rw [HE3.out, HF2.out]; rfl, HB9.out⟩
      · rw [hi]
        have HE2 : Hid (setE f s t = 4) := Lib.hid (by rw [HE1.out, hi]; rfl)
        have HF2 : Hid (setF f s t = fl0) := Lib.hid (by rw [HF.out, HE2.out]; rfl)
        clear HE1 HF hi hn
        have z0 := HK3.out.cell 0 0 (g := w.heap.size + 1 + 1) (v := .int .i64 0) rfl rfl
        have z1 := HK3.out.cell 0 1 (g := w.heap.size + 1 + 1) (v := .int .i64 0) rfl rfl
        have z2 := HK3.out.cell 0 2 (g := w.heap.size + 1 + 1) (v := .bool false) rfl rfl
        have z3 := HK3.out.cell 0 3 (g := w.heap.size + 1 + 1) (v := .bool false) rfl rfl
        have fz0 := HK3.out.fz 0 0 (g := w.heap.size + 1 + 1) rfl
        have fz1 := HK3.out.fz 0 1 (g := w.heap.size + 1 + 1) rfl
        have fz2 := HK3.out.fz 0 2 (g := w.heap.size + 1 + 1) rfl
        have fz3 := HK3.out.fz 0 3 (g := w.heap.size + 1 + 1) rfl
        have hk1 : Bks ((((w3.setCell ⟨w.heap.size + 1 + 1, 0, none⟩ (.int .i64 0)).setCell ⟨w.heap.size + 1 + 1, 1, none⟩ (.int .i64 0)).setCell ⟨w.heap.size + 1 + 1, 2, none⟩ (.bool false)).setCell ⟨w.heap.size + 1 + 1, 3, none⟩ (.bool false)) [(w.heap.size + 1 + 1, [.int .i64 0, .int .i64 0, .bool false, .bool false]), (w.heap.size + 1, [.int .i64 t.kind, .int .i64 t.num, .string t.name, .slice TA t.args.length cap]), (w.heap.size, [.int .i64 f.q, .int .i64 f.u, .bool f.c, .bool f.d])] := HK3.out.set4 0 rfl (.int .i64 0) (.int .i64 0) (.bool false) (.bool false)
        have hb1 : Below w.heap.size w ((((w3.setCell ⟨w.heap.size + 1 + 1, 0, none⟩ (.int .i64 0)).setCell ⟨w.heap.size + 1 + 1, 1, none⟩ (.int .i64 0)).setCell ⟨w.heap.size + 1 + 1, 2, none⟩ (.bool false)).setCell ⟨w.heap.size + 1 + 1, 3, none⟩ (.bool false)) := ((((HB3.out.setCell (p := ⟨w.heap.size + 1 + 1, _, none⟩) (show w.heap.size ≤ w.heap.size + 1 + 1 by omega) _).setCell (p := ⟨w.heap.size + 1 + 1, _, none⟩) (show w.heap.size ≤ w.heap.size + 1 + 1 by omega) _).setCell (p := ⟨w.heap.size + 1 + 1, _, none⟩) (show w.heap.size ≤ w.heap.size + 1 + 1 by omega) _).setCell (p := ⟨w.heap.size + 1 + 1, _, none⟩) (show w.heap.size ≤ w.heap.size + 1 + 1 by omega) _)
        obtain ⟨wz, HWZ⟩ : ∃ wz, Hid (wz = ((((w3.setCell ⟨w.heap.size + 1 + 1, 0, none⟩ (.int .i64 0)).setCell ⟨w.heap.size + 1 + 1, 1, none⟩ (.int .i64 0)).setCell ⟨w.heap.size + 1 + 1, 2, none⟩ (.bool false)).setCell ⟨w.heap.size + 1 + 1, 3, none⟩ (.bool false))) := ⟨_, Lib.hid rfl⟩
        rw [← HWZ.out] at hk1 hb1
        have HK9 := Lib.hid hk1
        have HB9 := Lib.hid hb1
        clear hk1 hb1
        go_wp2_with fail
        rw [← HWZ.out]
        have m0 := HK9.out.cell 0 0 (g := w.heap.size + 1 + 1) (v := .int .i64 0) rfl rfl
        have m1 := HK9.out.cell 0 1 (g := w.heap.size + 1 + 1) (v := .int .i64 0) rfl rfl
        have m2 := HK9.out.cell 0 2 (g := w.heap.size + 1 + 1) (v := .bool false) rfl rfl
        have m3 := HK9.out.cell 0 3 (g := w.heap.size + 1 + 1) (v := .bool false) rfl rfl
        exact bodyPost_ret (v := .tuple #[.agg #[.int .i64 0, .int .i64 0, .bool false, .bool false], .int .i64 4]) (by simp [results, Tryz.results21, go_sem, m0, m1, m2, m3]) rfl ⟨by rw [HE2.out, HF2.out]; rfl, HB9.out⟩
    · have HE2 : Hid (setE f s t = 1) := Lib.hid (by rw [HE.out, if_neg (fun h => hv h.2)])
      have HF2 : Hid (setF f s t = fl0) := Lib.hid (by rw [HF.out, HE2.out]; rfl)
      rw [hf] at HV
      rw [show validT t = false by simpa using hv] at HTV
      clear HE HF hf hv
      go_enter Tryz.func21, Tryz.ntmps21
      go_wp2_with fail
      refine (HV.out _).mono ?_; rintro e w1 ⟨rfl, hB1⟩
      have HB1 := Lib.hid (HB0.out.trans (hB1.mono HB0.out.size))
      have HK1 := Lib.hid (HK0.out.call hB1)
      clear hB1 HB0 HK0
      have b0 := HK1.out.cell 1 0 (g := w.heap.size + 1) (v := .int .i64 t.kind) rfl rfl
      have b1 := HK1.out.cell 1 1 (g := w.heap.size + 1) (v := .int .i64 t.num) rfl rfl
      have b2 := HK1.out.cell 1 2 (g := w.heap.size + 1) (v := .string t.name) rfl rfl
      have b3 := HK1.out.cell 1 3 (g := w.heap.size + 1) (v := .slice TA t.args.length cap) rfl rfl
      go_wp2_with fail
      refine (HTV.out _ HB1.out).mono ?_; rintro e w2 ⟨rfl, hB2⟩
      have HB2 := Lib.hid (HB1.out.trans (hB2.mono HB1.out.size))
      have HK2 := Lib.hid (HK1.out.call hB2)
      clear hB2 HB1 HK1 b0 b1 b2 b3
      have z0 := HK2.out.cell 0 0 (g := w.heap.size + 1 + 1) (v := .int .i64 0) rfl rfl
      have z1 := HK2.out.cell 0 1 (g := w.heap.size + 1 + 1) (v := .int .i64 0) rfl rfl
      have z2 := HK2.out.cell 0 2 (g := w.heap.size + 1 + 1) (v := .bool false) rfl rfl
      have z3 := HK2.out.cell 0 3 (g := w.heap.size + 1 + 1) (v := .bool false) rfl rfl
      have fz0 := HK2.out.fz 0 0 (g := w.heap.size + 1 + 1) rfl
      have fz1 := HK2.out.fz 0 1 (g := w.heap.size + 1 + 1) rfl
      have fz2 := HK2.out.fz 0 2 (g := w.heap.size + 1 + 1) rfl
      have fz3 := HK2.out.fz 0 3 (g := w.heap.size + 1 + 1) rfl
      have hk1 : Bks ((((w2.setCell ⟨w.heap.size + 1 + 1, 0, none⟩ (.int .i64 0)).setCell ⟨w.heap.size + 1 + 1, 1, none⟩ (.int .i64 0)).setCell ⟨w.heap.size + 1 + 1, 2, none⟩ (.bool false)).setCell ⟨w.heap.size + 1 + 1, 3, none⟩ (.bool false)) [(w.heap.size + 1 + 1, [.int .i64 0, .int .i64 0, .bool false, .bool false]), (w.heap.size + 1, [.int .i64 t.kind, .int .i64 t.num, .string t.name, .slice TA t.args.length cap]), (w.heap.size, [.int .i64 f.q, .int .i64 f.u, .bool f.c, .bool f.d])] := HK2.out.set4 0 rfl (.int .i64 0) (.int .i64 0) (.bool false) (.bool false)
      have hb1 : Below w.heap.size w ((((w2.setCell ⟨w.heap.size + 1 + 1, 0, none⟩ (.int .i64 0)).setCell ⟨w.heap.size + 1 + 1, 1, none⟩ (.int .i64 0)).setCell ⟨w.heap.size + 1 + 1, 2, none⟩ (.bool false)).setCell ⟨w.heap.size + 1 + 1, 3, none⟩ (.bool false)) := ((((HB2.out.setCell (p := ⟨w.heap.size + 1 + 1, _, none⟩) (show w.heap.size ≤ w.heap.size + 1 + 1 by omega) _).setCell (p := ⟨w.heap.size + 1 + 1, _, none⟩) (show w.heap.size ≤ w.heap.size + 1 + 1 by omega) _).setCell (p := ⟨w.heap.size + 1 + 1, _, none⟩) (show w.heap.size ≤ w.heap.size + 1 + 1 by omega) _).setCell (p := ⟨w.heap.size + 1 + 1, _, none⟩) (show w.heap.size ≤ w.heap.size + 1 + 1 by omega) _)
      obtain ⟨wz, HWZ⟩ : ∃ wz, Hid (wz = ((((w2.setCell ⟨w.heap.size + 1 + 1, 0, none⟩ (.int .i64 0)).setCell ⟨w.heap.size + 1 + 1, 1, none⟩ (.int .i64 0)).setCell ⟨w.heap.size + 1 + 1, 2, none⟩ (.bool false)).setCell ⟨w.heap.size + 1 + 1, 3, none⟩ (.bool false))) := ⟨_, Lib.hid rfl⟩
      rw [← HWZ.out] at hk1 hb1
      have HK9 := Lib.hid hk1
      have HB9 := Lib.hid hb1
      clear hk1 hb1
      go_wp2_with fail
      rw [← HWZ.out]
      have m0 := HK9.out.cell 0 0 (g := w.heap.size + 1 + 1) (v := .int .i64 0) rfl rfl
      have m1 := HK9.out.cell 0 1 (g := w.heap.size + 1 + 1) (v := .int .i64 0) rfl rfl
      have m2 := HK9.out.cell 0 2 (g := w.heap.size + 1 + 1) (v := .bool false) rfl rfl
      have m3 := HK9.out.cell 0 3 (g := w.heap.size + 1 + 1) (v := .bool false) rfl rfl
      exact bodyPost_ret (v := .tuple #[.agg #[.int .i64 0, .int .i64 0, .bool false, .bool false], .int .i64 1]) (by simp [results, Tryz.results21, go_sem, m0, m1, m2, m3]) rfl ⟨by rw [HE2.out, HF2.out]; rfl, HB9.out⟩
  · have HE2 : Hid (setE f s t = 1) := Lib.hid (by rw [HE.out, if_neg (fun h => hf h.1)])
    have HF2 : Hid (setF f s t = fl0) := Lib.hid (by rw [HF.out, HE2.out]; rfl)
    rw [show flOk f = false by simpa using hf] at HV
    clear HE HF hf HTV
    go_enter Tryz.func21, Tryz.ntmps21
    go_wp2_with fail
    refine (HV.out _).mono ?_; rintro e w1 ⟨rfl, hB1⟩
    have HB1 := Lib.hid (HB0.out.trans (hB1.mono HB0.out.size))
    have HK1 := Lib.hid (HK0.out.call hB1)
    clear hB1 HB0 HK0
    have z0 := HK1.out.cell 0 0 (g := w.heap.size + 1 + 1) (v := .int .i64 0) rfl rfl
    have z1 := HK1.out.cell 0 1 (g := w.heap.size + 1 + 1) (v := .int .i64 0) rfl rfl
    have z2 := HK1.out.cell 0 2 (g := w.heap.size + 1 + 1) (v := .bool false) rfl rfl
    have z3 := HK1.out.cell 0 3 (g := w.heap.size + 1 + 1) (v := .bool false) rfl rfl
    have fz0 := HK1.out.fz 0 0 (g := w.heap.size + 1 + 1) rfl
    have fz1 := HK1.out.fz 0 1 (g := w.heap.size + 1 + 1) rfl
    have fz2 := HK1.out.fz 0 2 (g := w.heap.size + 1 + 1) rfl
    have fz3 := HK1.out.fz 0 3 (g := w.heap.size + 1 + 1) rfl
    have hk1 : Bks ((((w1.setCell ⟨w.heap.size + 1 + 1, 0, none⟩ (.int .i64 0)).setCell ⟨w.heap.size + 1 + 1, 1, none⟩ (.int .i64 0)).setCell ⟨w.heap.size + 1 + 1, 2, none⟩ (.bool false)).setCell ⟨w.heap.size + 1 + 1, 3, none⟩ (.bool false)) [(w.heap.size + 1 + 1, [.int .i64 0, .int .i64 0, .bool false, .bool false]), (w.heap.size + 1, [.int .i64 t.kind, .int .i64 t.num, .string t.name, .slice TA t.args.length cap]), (w.heap.size, [.int .i64 f.q, .int .i64 f.u, .bool f.c, .bool f.d])] := HK1.out.set4 0 rfl (.int .i64 0) (.int .i64 0) (.bool false) (.bool false)
    have hb1 : Below w.heap.size w ((((w1.setCell ⟨w.heap.size + 1 + 1, 0, none⟩ (.int .i64 0)).setCell ⟨w.heap.size + 1 + 1, 1, none⟩ (.int .i64 0)).setCell ⟨w.heap.size + 1 + 1, 2, none⟩ (.bool false)).setCell ⟨w.heap.size + 1 + 1, 3, none⟩ (.bool false)) := ((((HB1.out.setCell (p := ⟨w.heap.size + 1 + 1, _, none⟩) (show w.heap.size ≤ w.heap.size + 1 + 1 by omega) _).setCell (p := ⟨w.heap.size + 1 + 1, _, none⟩) (show w.heap.size ≤ w.heap.size + 1 + 1 by omega) _).setCell (p := ⟨w.heap.size + 1 + 1, _, none⟩) (show w.heap.size ≤ w.heap.size + 1 + 1 by omega) _).setCell (p := ⟨w.heap.size + 1 + 1, _, none⟩) (show w.heap.size ≤ w.heap.size + 1 + 1 by omega) _)
    obtain ⟨wz, HWZ⟩ : ∃ wz, Hid (wz = ((((w1.setCell ⟨w.heap.size + 1 + 1, 0, none⟩ (.int .i64 0)).setCell ⟨w.heap.size + 1 + 1, 1, none⟩ (.int .i64 0)).setCell ⟨w.heap.size + 1 + 1, 2, none⟩ (.bool false)).setCell ⟨w.heap.size + 1 + 1, 3, none⟩ (.bool false))) := ⟨_, Lib.hid rfl⟩
    rw [← HWZ.out] at hk1 hb1
    have HK9 := Lib.hid hk1
    have HB9 := Lib.hid hb1
    clear hk1 hb1
    go_wp2_with fail
    rw [← HWZ.out]
    have m0 := HK9.out.cell 0 0 (g := w.heap.size + 1 + 1) (v := .int .i64 0) rfl rfl
    have m1 := HK9.out.cell 0 1 (g := w.heap.size + 1 + 1) (v := .int .i64 0) rfl rfl
    have m2 := HK9.out.cell 0 2 (g := w.heap.size + 1 + 1) (v := .bool false) rfl rfl
    have m3 := HK9.out.cell 0 3 (g := w.heap.size + 1 + 1) (v := .bool false) rfl rfl
    exact bodyPost_ret (v := .tuple #[.agg #[.int .i64 0, .int .i64 0, .bool false, .bool false], .int .i64 1]) (by simp [results, Tryz.results21, go_sem, m0, m1, m2, m3]) rfl ⟨by rw [HE2.out, HF2.out]; rfl, HB9.out⟩
end Go.Proofs.YtfkhcpeahdkafaaGreat
