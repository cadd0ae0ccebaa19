/- Flags: the reference's Get. -/
import Derived.Test.YtfkhcpeahdkafaaGreatZFvA
namespace Hb
open Go Go.RowKit
theorem setg_other (X : World) (g : Nat) (a b c d : Value) {k : Nat} (h : k ≠ g) : ((((X.setCell ⟨g, 0, none⟩ a).setCell ⟨g, 1, none⟩ b).setCell ⟨g, 2, none⟩ c).setCell ⟨g, 3, none⟩ d).heap[k]? = X.heap[k]? := by
  rw [heap_setCell_other _ _ _ _ h, heap_setCell_other _ _ _ _ h, heap_setCell_other _ _ _ _ h, heap_setCell_other _ _ _ _ h]
theorem Bx.setg {B : Nat} (X : World) (g : Nat) (a b c d : Value) : Bx g B X ((((X.setCell ⟨g, 0, none⟩ a).setCell ⟨g, 1, none⟩ b).setCell ⟨g, 2, none⟩ c).setCell ⟨g, 3, none⟩ d) := ⟨rfl, rfl, rfl, by simp, fun k _ hne => setg_other X g a b c d hne⟩
end Hb
namespace Go.Proofs.YtfkhcpeahdkafaaGreat
open Go.RowKit Hb
set_option maxRecDepth 100000
set_option maxHeartbeats 6400000 in
theorem r8_get (f : FlR) (s : ByteArray) (w : World) : Calls Tryz.prog 17 #[.agg #[.int .i64 f.q, .int .i64 f.u, .bool f.c, .bool f.d], .string s] w fun e w' => ∃ A' c', e = .returned (.tuple #[tmV (getT f s) A' c', .int .i64 (getE f s)]) ∧ Below w.heap.size w w' := by
  have HB0 : Hid (Below w.heap.size w ((w.alloc (.cells #[.int .i64 f.q, .int .i64 f.u, .bool f.c, .bool f.d] 23)).alloc (.cells #[.int .i64 0, .int .i64 0, .string ⟨#[]⟩, .slice none 0 0] 26))) := Lib.hid (((Below.refl _ w).alloc (Nat.le_refl _) _).alloc (by simp) _)
  have HK0 : Hid (Bks ((w.alloc (.cells #[.int .i64 f.q, .int .i64 f.u, .bool f.c, .bool f.d] 23)).alloc (.cells #[.int .i64 0, .int .i64 0, .string ⟨#[]⟩, .slice none 0 0] 26)) [(w.heap.size + 1, [.int .i64 0, .int .i64 0, .string ⟨#[]⟩, .slice none 0 0]), (w.heap.size, [.int .i64 f.q, .int .i64 f.u, .bool f.c, .bool f.d])]) := Lib.hid (((Bks.nil w).new [.int .i64 f.q, .int .i64 f.u, .bool f.c, .bool f.d] 23 rfl).new [.int .i64 0, .int .i64 0, .string ⟨#[]⟩, .slice none 0 0] 26 (by simp))
  have HV := Lib.hid (fun W => r8_valid f W)
  have HKN := Lib.hid (fun W => r8_known s W)
  have HT : Hid (getT f s = if flOk f = true then (if fIx s < 9 then fVal f (fIx s) else tm0) else tm0) := Lib.hid rfl
  have HE : Hid (getE f s = if flOk f = true then (if fIx s < 9 then 0 else 4) else 1) := Lib.hid rfl
  by_cases hf : flOk f = true
  · rw [hf] at HV
    have HFO := Lib.hid hf
    rcases nm_cases s with ⟨k, hk, hi, hs⟩ | ⟨hi, hn⟩
    · have HT2 : Hid (getT f s = fVal f k) := Lib.hid (by rw [HT.out, if_pos hf, hi, if_pos hk])
      have HE2 : Hid (getE f s = 0) := Lib.hid (by rw [HE.out, if_pos hf, hi, if_pos hk])
      rw [hi, decide_eq_true hk] at HKN
      have HS := Lib.hid hs
      clear hs hi HT HE hf
      by_cases hv : k = 1 ∨ k = 2 ∨ k = 3 ∨ k = 8
      · have q0 : (s.toList == [98, 111, 117, 110, 100, 101, 100]) = false := by rw [HS.out]; rcases hv with rfl | rfl | rfl | rfl <;> kernel_rfl
        have q4 : (s.toList == [105, 110, 116, 101, 103, 101, 114, 95, 114, 111, 117, 110, 100, 105, 110, 103, 95, 102, 117, 110, 99, 116, 105, 111, 110]) = false := by rw [HS.out]; rcases hv with rfl | rfl | rfl | rfl <;> kernel_rfl
        have q5 : (s.toList == [109, 97, 120, 95, 97, 114, 105, 116, 121]) = false := by rw [HS.out]; rcases hv with rfl | rfl | rfl | rfl <;> kernel_rfl
        have q6 : (s.toList == [109, 97, 120, 95, 105, 110, 116, 101, 103, 101, 114]) = false := by rw [HS.out]; rcases hv with rfl | rfl | rfl | rfl <;> kernel_rfl
        have q7 : (s.toList == [109, 105, 110, 95, 105, 110, 116, 101, 103, 101, 114]) = false := by rw [HS.out]; rcases hv with rfl | rfl | rfl | rfl <;> kernel_rfl
        have HL : Hid (fVL k ≠ []) := Lib.hid (by rcases hv with rfl | rfl | rfl | rfl <;> decide)
        obtain ⟨i, hgi, hin⟩ := fGet_lt HFO.out k hk HL.out
        have HPOS : Hid (∀ W, Calls Tryz.prog 51 #[.agg #[.int .i64 f.q, .int .i64 f.u, .bool f.c, .bool f.d], .string s] W fun e w' => ∃ v, e = .returned v ∧ (v = .int .i64 i ∧ Below W.heap.size W w')) := Lib.hid fun W => (r8_position f s k hv HS.out HFO.out W).mono fun e w' h => ⟨_, h.1, by rw [hgi], h.2⟩
        obtain ⟨nm, HNM⟩ : ∃ nm, Hid (nm = (fVL k).getD i ⟨#[]⟩) := ⟨_, Lib.hid rfl⟩
        have HTV : Hid (fVal f k = atomT nm) := Lib.hid (by unfold fVal; rw [if_neg HL.out, hgi, HNM.out]; rfl)
        obtain ⟨n, HNL⟩ : ∃ n, Hid (n = (fVL k).length) := ⟨_, Lib.hid rfl⟩
        rw [← HNL.out] at hin
        have HVAL : Hid (∀ W, Calls Tryz.prog 50 #[.string s] W fun e w' => ∃ v, e = .returned v ∧ ((∃ b, v = Value.slice (some ⟨b, 0, none⟩) n n ∧ W.heap.size ≤ b ∧ w'.cell? ⟨b, i, none⟩ = some (.string nm) ∧ b < w'.heap.size) ∧ Below W.heap.size W w')) := Lib.hid fun W => (r8_values s W).mono fun e w' h => by
          obtain ⟨v, he, hB, hV⟩ := h
          rw [show fIx s = k by rw [show s = fN k from ba_ext HS.out]; exact fIx_fN k hk] at hV
          rcases hV with ⟨h0, _⟩ | ⟨b, hlo, hv, _, hr⟩
          · exact absurd h0 HL.out
          · refine ⟨v, he, ⟨b, by rw [hv, HNL.out], hlo, ?_, hr.1⟩, hB⟩
            have hii : i < (fVL k).length := by rw [← HNL.out]; exact hin
            have h3 := hr.2 i hii
            rw [HNM.out, show (fVL k).getD i ⟨#[]⟩ = (fVL k)[i] by simp [hii]]
            exact h3
        have hi0 : (0 : Int) ≤ (i : Int) := by omega
        have hi1 : (i : Int) < (n : Int) := by omega
        clear HS hgi HFO
        go_enter Tryz.func17, Tryz.ntmps17
        go_wp2_with fail
        refine (HV.out _).mono ?_; rintro e w1 ⟨rfl, hB1⟩
        have HB1 := Lib.hid (HB0.out.trans (hB1.mono HB0.out.size))
        have HK1 := Lib.hid (HK0.out.call hB1)
        clear hB1 HB0 HK0
        go_wp2_with fail
        refine (HKN.out _).mono ?_; rintro e w2 ⟨rfl, hB2⟩
        have HB2 := Lib.hid (HB1.out.trans (hB2.mono HB1.out.size))
        have HK2 := Lib.hid (HK1.out.call hB2)
        clear hB2 HB1 HK1
        go_wp2_with fail
        rename_i K0 hK0
        have p0 := HK2.out.cell 1 0 (g := w.heap.size) (v := .int .i64 f.q) rfl rfl
        have p1 := HK2.out.cell 1 1 (g := w.heap.size) (v := .int .i64 f.u) rfl rfl
        have p2 := HK2.out.cell 1 2 (g := w.heap.size) (v := .bool f.c) rfl rfl
        have p3 := HK2.out.cell 1 3 (g := w.heap.size) (v := .bool f.d) rfl rfl
        have lp := HK2.out.lt 1 (g := w.heap.size) rfl
        have lr := HK2.out.lt 0 (g := w.heap.size + 1) rfl
        refine wp_region_any (by kernel_rfl) ?_
        have HATM : Hid (∀ W, Calls Tryz.prog 47 #[.string nm] W fun e w' => ∃ v, e = .returned v ∧ (v = .agg #[.int .i64 2, .int .i64 0, .string nm, .slice none 0 0] ∧ Below W.heap.size W w')) := Lib.hid fun W => (r8_atom nm W).mono fun e w' h => ⟨_, h.1, rfl, h.2⟩
        refine wpAny_inv (fun S a X => ∃ b b5, a = (⟨#[.agg #[.int .i64 f.q, .int .i64 f.u, .bool f.c, .bool f.d], .string s, .pointer (some ⟨w.heap.size, 0, none⟩), undef, .pointer (some ⟨w.heap.size + 1, 0, none⟩), if S 9 = true then .int .i64 0 else .int .i64 0, .agg #[.int .i64 f.q, .int .i64 f.u, .bool f.c, .bool f.d], .bool true, .bool false, undef, .string s, .bool false, .bool false, undef, .bool false, .bool false, undef, .bool false, .bool false, undef, .bool false, .bool false, undef, .bool false, .bool false, undef, .string s, .bool true, .bool false, undef, if S 0 = true then .string s else undef, if S 1 = true then .slice (some ⟨b, 0, none⟩) n n else undef, if S 2 = true then .agg #[.int .i64 f.q, .int .i64 f.u, .bool f.c, .bool f.d] else undef, if S 3 = true then .string s else undef, if S 4 = true then .int .i64 i else undef, if S 5 = true then .pointer (some ⟨b5, i, none⟩) else undef, if S 6 = true then .string nm else undef, if S 7 = true then .agg #[.int .i64 2, .int .i64 0, .string nm, .slice none 0 0] else undef], []⟩ : Act) ∧ Bx (w.heap.size + 1) w2.heap.size w2 X ∧ (S 1 = true → w2.heap.size ≤ b ∧ X.cell? ⟨b, i, none⟩ = some (.string nm) ∧ b < X.heap.size) ∧ (S 5 = true → w2.heap.size ≤ b5 ∧ X.cell? ⟨b5, i, none⟩ = some (.string nm) ∧ b5 < X.heap.size) ∧ (S 8 = false → Bk X (w.heap.size + 1) [.int .i64 0, .int .i64 0, .string ⟨#[]⟩, .slice none 0 0]) ∧ (S 8 = true → Bk X (w.heap.size + 1) [.int .i64 2, .int .i64 0, .string nm, .slice none 0 0])) (by kernel_rfl) ?step ?fin 10 (fun _ => false) _ _ (by decide) ⟨0, 0, rfl, Bx.of (Below.refl _ w2).drew, fun h => (by cases h), fun h => (by cases h), fun _ => (HK2.out.at 0 _ _ rfl).call (Below.refl _ _).drew, fun h => (by cases h)⟩
        case step =>
          rintro S j o a X ho hs hp ⟨b, b5, rfl, hB, hr, h5, hz, hn⟩
          have hlt : j < 10 := (Array.getElem?_eq_some_iff.1 ho).1
          rcases (show j = 0 ∨ j = 1 ∨ j = 2 ∨ j = 3 ∨ j = 4 ∨ j = 5 ∨ j = 6 ∨ j = 7 ∨ j = 8 ∨ j = 9 by omega) with rfl | rfl | rfl | rfl | rfl | rfl | rfl | rfl | rfl | rfl
          · injection ho with ho
            subst ho
            rw [if_pos (show Region.wanted _ _ = true from rfl)]
            refine wp_val (v := .string s) (w' := X) ?_ ⟨b, b5, rfl, hB, hr, h5, hz, hn⟩
            simp [execOp, go_sem, Act.eval]
          · injection ho with ho
            subst ho
            have s0 : S 0 = true := hp ⟨0, .data⟩ (by simp) rfl
            rw [if_pos (show Region.wanted _ _ = true from rfl)]
            refine wp_cal ?_ (HVAL.out X) (fun v w' hR => ?_)
            · simp [execOp, go_sem, Act.eval, s0]
              try rfl
            · obtain ⟨⟨b', rfl, h1, h2, h3⟩, hB'⟩ := hR
              exact ⟨b', b5, rfl, hB.trans (Bx.of (hB'.mono (by have := hB.size; omega))), fun _ => ⟨Nat.le_trans hB.size h1, h2, h3⟩, fun h => ⟨(h5 h).1, (hB'.cell (p := ⟨_, i, none⟩) (h5 h).2.2).trans (h5 h).2.1, Nat.lt_of_lt_of_le (h5 h).2.2 hB'.size⟩, fun h => (hz h).call hB', fun h => (hn h).call hB'⟩
          · injection ho with ho
            subst ho
            have y0 : X.cell? ⟨w.heap.size, 0, none⟩ = some (.int .i64 f.q) := (World.cell?_of_block (a := ⟨w.heap.size, 0, none⟩) (hB.block _ lp (show w.heap.size ≠ w.heap.size + 1 by omega))).trans p0
            have y1 : X.cell? ⟨w.heap.size, 1, none⟩ = some (.int .i64 f.u) := (World.cell?_of_block (a := ⟨w.heap.size, 1, none⟩) (hB.block _ lp (show w.heap.size ≠ w.heap.size + 1 by omega))).trans p1
            have y2 : X.cell? ⟨w.heap.size, 2, none⟩ = some (.bool f.c) := (World.cell?_of_block (a := ⟨w.heap.size, 2, none⟩) (hB.block _ lp (show w.heap.size ≠ w.heap.size + 1 by omega))).trans p2
            have y3 : X.cell? ⟨w.heap.size, 3, none⟩ = some (.bool f.d) := (World.cell?_of_block (a := ⟨w.heap.size, 3, none⟩) (hB.block _ lp (show w.heap.size ≠ w.heap.size + 1 by omega))).trans p3
            rw [if_pos (show Region.wanted _ _ = true from rfl)]
            refine wp_val (v := .agg #[.int .i64 f.q, .int .i64 f.u, .bool f.c, .bool f.d]) (w' := X) ?_ ⟨b, b5, rfl, hB, hr, h5, hz, hn⟩
            simp [execOp, go_sem, Act.eval, y0, y1, y2, y3]
          · injection ho with ho
            subst ho
            rw [if_pos (show Region.wanted _ _ = true from rfl)]
            refine wp_val (v := .string s) (w' := X) ?_ ⟨b, b5, rfl, hB, hr, h5, hz, hn⟩
            simp [execOp, go_sem, Act.eval]
          · injection ho with ho
            subst ho
            have s2 : S 2 = true := hp ⟨2, .data⟩ (by simp) rfl
            have s3 : S 3 = true := hp ⟨3, .data⟩ (by simp) rfl
            rw [if_pos (show Region.wanted _ _ = true from rfl)]
            refine wp_cal ?_ (HPOS.out X) (fun v w' hR => ?_)
            · simp [execOp, go_sem, Act.eval, s2, s3]
              try rfl
            · obtain ⟨rfl, hB'⟩ := hR
              exact ⟨b, b5, rfl, hB.trans (Bx.of (hB'.mono (by have := hB.size; omega))), fun h => ⟨(hr h).1, (hB'.cell (p := ⟨_, i, none⟩) (hr h).2.2).trans (hr h).2.1, Nat.lt_of_lt_of_le (hr h).2.2 hB'.size⟩, fun h => ⟨(h5 h).1, (hB'.cell (p := ⟨_, i, none⟩) (h5 h).2.2).trans (h5 h).2.1, Nat.lt_of_lt_of_le (h5 h).2.2 hB'.size⟩, fun h => (hz h).call hB', fun h => (hn h).call hB'⟩
          · injection ho with ho
            subst ho
            have s1 : S 1 = true := hp ⟨1, .data⟩ (by simp) rfl
            have s4 : S 4 = true := hp ⟨4, .data⟩ (by simp) rfl
            rw [if_pos (show Region.wanted _ _ = true from rfl)]
            refine wp_val (v := .pointer (some ⟨b, i, none⟩)) (w' := X) ?_ ⟨b, b, rfl, hB, hr, fun _ => hr s1, hz, hn⟩
            simp [execOp, go_sem, Act.eval, s1, s4, hi0, hi1]
          · injection ho with ho
            subst ho
            have s5 : S 5 = true := hp ⟨5, .data⟩ (by simp) rfl
            have yn := (h5 s5).2.1
            rw [if_pos (show Region.wanted _ _ = true from rfl)]
            refine wp_val (v := .string nm) (w' := X) ?_ ⟨b, b5, rfl, hB, hr, h5, hz, hn⟩
            simp [execOp, go_sem, Act.eval, s5, yn]
          · injection ho with ho
            subst ho
            have s6 : S 6 = true := hp ⟨6, .data⟩ (by simp) rfl
            rw [if_pos (show Region.wanted _ _ = true from rfl)]
            refine wp_cal ?_ (HATM.out X) (fun v w' hR => ?_)
            · simp [execOp, go_sem, Act.eval, s6]
              try rfl
            · obtain ⟨rfl, hB'⟩ := hR
              exact ⟨b, b5, rfl, hB.trans (Bx.of (hB'.mono (by have := hB.size; omega))), fun h => ⟨(hr h).1, (hB'.cell (p := ⟨_, i, none⟩) (hr h).2.2).trans (hr h).2.1, Nat.lt_of_lt_of_le (hr h).2.2 hB'.size⟩, fun h => ⟨(h5 h).1, (hB'.cell (p := ⟨_, i, none⟩) (h5 h).2.2).trans (h5 h).2.1, Nat.lt_of_lt_of_le (h5 h).2.2 hB'.size⟩, fun h => (hz h).call hB', fun h => (hn h).call hB'⟩
          · injection ho with ho
            subst ho
            have s7 : S 7 = true := hp ⟨7, .data⟩ (by simp) rfl
            rw [if_pos (show Region.wanted _ _ = true from rfl)]
            have hk := hz hs
            have z0 := hk.c 0 (.int .i64 0) rfl
            have f0 := hk.f 0
            have z1 := hk.c 1 (.int .i64 0) rfl
            have f1 := hk.f 1
            have z2 := hk.c 2 (.string ⟨#[]⟩) rfl
            have f2 := hk.f 2
            have z3 := hk.c 3 (.slice none 0 0) rfl
            have f3 := hk.f 3
            refine wp_skp (w' := ((((X.setCell ⟨w.heap.size + 1, 0, none⟩ (.int .i64 2)).setCell ⟨w.heap.size + 1, 1, none⟩ (.int .i64 0)).setCell ⟨w.heap.size + 1, 2, none⟩ (.string nm)).setCell ⟨w.heap.size + 1, 3, none⟩ (.slice none 0 0))) ?_ ⟨b, b5, rfl, hB.trans (Bx.setg _ _ _ _ _ _), fun h => ⟨(hr h).1, (World.cell?_of_block (a := ⟨_, i, none⟩) (setg_other _ _ _ _ _ _ (by have h1 := (hr h).1; intro e; dsimp only at e; omega))).trans (hr h).2.1, by simpa using (hr h).2.2⟩, fun h => ⟨(h5 h).1, (World.cell?_of_block (a := ⟨_, i, none⟩) (setg_other _ _ _ _ _ _ (by have h1 := (h5 h).1; intro e; dsimp only at e; omega))).trans (h5 h).2.1, by simpa using (h5 h).2.2⟩, fun h => absurd (show true = false from h) (by simp), fun _ => ((((hk.set 0 (.int .i64 2)).set 1 (.int .i64 0)).set 2 (.string nm)).set 3 (.slice none 0 0))⟩
            simp [execOp, go_sem, Act.eval, s7, z0, z1, z2, z3, f0, f1, f2, f3]
          · injection ho with ho
            subst ho
            rw [if_pos (show Region.wanted _ _ = true from rfl)]
            refine wp_val (v := .int .i64 0) (w' := X) ?_ ⟨b, b5, rfl, hB, hr, h5, hz, hn⟩
            simp [execOp, go_sem, Act.eval]
        case fin =>
          rintro S a X hall ⟨b, b5, rfl, hB, -, -, -, hn⟩
          have s0 : S 0 = true := hall 0 (show 0 < 10 by omega)
          have s1 : S 1 = true := hall 1 (show 1 < 10 by omega)
          have s2 : S 2 = true := hall 2 (show 2 < 10 by omega)
          have s3 : S 3 = true := hall 3 (show 3 < 10 by omega)
          have s4 : S 4 = true := hall 4 (show 4 < 10 by omega)
          have s5 : S 5 = true := hall 5 (show 5 < 10 by omega)
          have s6 : S 6 = true := hall 6 (show 6 < 10 by omega)
          have s7 : S 7 = true := hall 7 (show 7 < 10 by omega)
          have s8 : S 8 = true := hall 8 (show 8 < 10 by omega)
          have s9 : S 9 = true := hall 9 (show 9 < 10 by omega)
          have HKX := Lib.hid (hn s8)
          have HBX := Lib.hid (HB2.out.trans (hB.under (B := w.heap.size) (by omega) HB2.out.size))
          refine hK0 _ _ ?_
          simp only [s0, s1, s2, s3, s4, s5, s6, s7, s9, if_true]
          clear hall hB hn hK0 HB2 HK2 s0 s1 s2 s3 s4 s5 s6 s7 s8 s9 p0 p1 p2 p3 lp lr
          have m0 := HKX.out.c 0 (.int .i64 2) rfl
          have m1 := HKX.out.c 1 (.int .i64 0) rfl
          have m2 := HKX.out.c 2 (.string nm) rfl
          have m3 := HKX.out.c 3 (.slice none 0 0) rfl
          go_wp2_with fail
          exact bodyPost_ret (v := .tuple #[.agg #[.int .i64 2, .int .i64 0, .string nm, .slice none 0 0], .int .i64 0]) (by simp [results, Tryz.results17, go_sem, m0, m1, m2, m3]) rfl ⟨none, 0, by rw [HT2.out, HTV.out, HE2.out]; rfl, HBX.out⟩
      · rcases (show k = 0 ∨ k = 4 ∨ k = 5 ∨ k = 6 ∨ k = 7 by omega) with rfl | rfl | rfl | rfl | rfl
        · have q0 : (s.toList == [98, 111, 117, 110, 100, 101, 100]) = true := by rw [HS.out]; kernel_rfl
          have q4 : (s.toList == [105, 110, 116, 101, 103, 101, 114, 95, 114, 111, 117, 110, 100, 105, 110, 103, 95, 102, 117, 110, 99, 116, 105, 111, 110]) = false := by rw [HS.out]; kernel_rfl
          have q5 : (s.toList == [109, 97, 120, 95, 97, 114, 105, 116, 121]) = false := by rw [HS.out]; kernel_rfl
          have q6 : (s.toList == [109, 97, 120, 95, 105, 110, 116, 101, 103, 101, 114]) = false := by rw [HS.out]; kernel_rfl
          have q7 : (s.toList == [109, 105, 110, 95, 105, 110, 116, 101, 103, 101, 114]) = false := by rw [HS.out]; kernel_rfl
          clear HS
          go_enter Tryz.func17, Tryz.ntmps17
          go_wp2_with fail
          refine (HV.out _).mono ?_; rintro e w1 ⟨rfl, hB1⟩
          have HB1 := Lib.hid (HB0.out.trans (hB1.mono HB0.out.size))
          have HK1 := Lib.hid (HK0.out.call hB1)
          clear hB1 HB0 HK0
          go_wp2_with fail
          refine (r8_atom ⟨#[116, 114, 117, 101]⟩ _).mono ?_; rintro e w2 ⟨rfl, hB2⟩
          have HB2 := Lib.hid (HB1.out.trans (hB2.mono HB1.out.size))
          have HK2 := Lib.hid (HK1.out.call hB2)
          clear hB2 HB1 HK1
          have z0 := HK2.out.cell 0 0 (g := w.heap.size + 1) (v := .int .i64 0) rfl rfl
          have f0 := HK2.out.fz 0 0 (g := w.heap.size + 1) rfl
          have z1 := HK2.out.cell 0 1 (g := w.heap.size + 1) (v := .int .i64 0) rfl rfl
          have f1 := HK2.out.fz 0 1 (g := w.heap.size + 1) rfl
          have z2 := HK2.out.cell 0 2 (g := w.heap.size + 1) (v := .string ⟨#[]⟩) rfl rfl
          have f2 := HK2.out.fz 0 2 (g := w.heap.size + 1) rfl
          have z3 := HK2.out.cell 0 3 (g := w.heap.size + 1) (v := .slice none 0 0) rfl rfl
          have f3 := HK2.out.fz 0 3 (g := w.heap.size + 1) rfl
          have hk1 : Bks ((((w2.setCell ⟨w.heap.size + 1, 0, none⟩ (.int .i64 2)).setCell ⟨w.heap.size + 1, 1, none⟩ (.int .i64 0)).setCell ⟨w.heap.size + 1, 2, none⟩ (.string ⟨#[116, 114, 117, 101]⟩)).setCell ⟨w.heap.size + 1, 3, none⟩ (.slice none 0 0)) [(w.heap.size + 1, [.int .i64 2, .int .i64 0, .string ⟨#[116, 114, 117, 101]⟩, .slice none 0 0]), (w.heap.size, [.int .i64 f.q, .int .i64 f.u, .bool f.c, .bool f.d])] := HK2.out.set4 0 rfl (.int .i64 2) (.int .i64 0) (.string ⟨#[116, 114, 117, 101]⟩) (.slice none 0 0)
          have hb1 : Below w.heap.size w ((((w2.setCell ⟨w.heap.size + 1, 0, none⟩ (.int .i64 2)).setCell ⟨w.heap.size + 1, 1, none⟩ (.int .i64 0)).setCell ⟨w.heap.size + 1, 2, none⟩ (.string ⟨#[116, 114, 117, 101]⟩)).setCell ⟨w.heap.size + 1, 3, none⟩ (.slice none 0 0)) := ((((HB2.out.setCell (p := ⟨w.heap.size + 1, _, none⟩) (show w.heap.size ≤ w.heap.size + 1 by omega) _).setCell (p := ⟨w.heap.size + 1, _, none⟩) (show w.heap.size ≤ w.heap.size + 1 by omega) _).setCell (p := ⟨w.heap.size + 1, _, none⟩) (show w.heap.size ≤ w.heap.size + 1 by omega) _).setCell (p := ⟨w.heap.size + 1, _, none⟩) (show w.heap.size ≤ w.heap.size + 1 by omega) _)
          obtain ⟨wz, HWZ⟩ : ∃ wz, Hid (wz = ((((w2.setCell ⟨w.heap.size + 1, 0, none⟩ (.int .i64 2)).setCell ⟨w.heap.size + 1, 1, none⟩ (.int .i64 0)).setCell ⟨w.heap.size + 1, 2, none⟩ (.string ⟨#[116, 114, 117, 101]⟩)).setCell ⟨w.heap.size + 1, 3, none⟩ (.slice none 0 0))) := ⟨_, Lib.hid rfl⟩
          rw [← HWZ.out] at hk1 hb1
          have HK9 := Lib.hid hk1
          have HB9 := Lib.hid hb1
          clear hk1 hb1
          go_wp2_with fail
          rw [← HWZ.out]
          have m0 := HK9.out.cell 0 0 (g := w.heap.size + 1) (v := .int .i64 2) rfl rfl
          have m1 := HK9.out.cell 0 1 (g := w.heap.size + 1) (v := .int .i64 0) rfl rfl
          have m2 := HK9.out.cell 0 2 (g := w.heap.size + 1) (v := .string ⟨#[116, 114, 117, 101]⟩) rfl rfl
          have m3 := HK9.out.cell 0 3 (g := w.heap.size + 1) (v := .slice none 0 0) rfl rfl
          exact bodyPost_ret (v := .tuple #[.agg #[.int .i64 2, .int .i64 0, .string ⟨#[116, 114, 117, 101]⟩, .slice none 0 0], .int .i64 0]) (by simp [results, Tryz.results17, go_sem, m0, m1, m2, m3]) rfl ⟨none, 0, by rw [HT2.out, HE2.out]; rfl, HB9.out⟩
        · have q0 : (s.toList == [98, 111, 117, 110, 100, 101, 100]) = false := by rw [HS.out]; kernel_rfl
          have q4 : (s.toList == [105, 110, 116, 101, 103, 101, 114, 95, 114, 111, 117, 110, 100, 105, 110, 103, 95, 102, 117, 110, 99, 116, 105, 111, 110]) = true := by rw [HS.out]; kernel_rfl
          have q5 : (s.toList == [109, 97, 120, 95, 97, 114, 105, 116, 121]) = false := by rw [HS.out]; kernel_rfl
          have q6 : (s.toList == [109, 97, 120, 95, 105, 110, 116, 101, 103, 101, 114]) = false := by rw [HS.out]; kernel_rfl
          have q7 : (s.toList == [109, 105, 110, 95, 105, 110, 116, 101, 103, 101, 114]) = false := by rw [HS.out]; kernel_rfl
          clear HS
          go_enter Tryz.func17, Tryz.ntmps17
          go_wp2_with fail
          refine (HV.out _).mono ?_; rintro e w1 ⟨rfl, hB1⟩
          have HB1 := Lib.hid (HB0.out.trans (hB1.mono HB0.out.size))
          have HK1 := Lib.hid (HK0.out.call hB1)
          clear hB1 HB0 HK0
          go_wp2_with fail
          refine (r8_atom ⟨#[116, 111, 119, 97, 114, 100, 95, 122, 101, 114, 111]⟩ _).mono ?_; rintro e w2 ⟨rfl, hB2⟩
          have HB2 := Lib.hid (HB1.out.trans (hB2.mono HB1.out.size))
          have HK2 := Lib.hid (HK1.out.call hB2)
          clear hB2 HB1 HK1
          have z0 := HK2.out.cell 0 0 (g := w.heap.size + 1) (v := .int .i64 0) rfl rfl
          have f0 := HK2.out.fz 0 0 (g := w.heap.size + 1) rfl
          have z1 := HK2.out.cell 0 1 (g := w.heap.size + 1) (v := .int .i64 0) rfl rfl
          have f1 := HK2.out.fz 0 1 (g := w.heap.size + 1) rfl
          have z2 := HK2.out.cell 0 2 (g := w.heap.size + 1) (v := .string ⟨#[]⟩) rfl rfl
          have f2 := HK2.out.fz 0 2 (g := w.heap.size + 1) rfl
          have z3 := HK2.out.cell 0 3 (g := w.heap.size + 1) (v := .slice none 0 0) rfl rfl
          have f3 := HK2.out.fz 0 3 (g := w.heap.size + 1) rfl
          have hk1 : Bks ((((w2.setCell ⟨w.heap.size + 1, 0, none⟩ (.int .i64 2)).setCell ⟨w.heap.size + 1, 1, none⟩ (.int .i64 0)).setCell ⟨w.heap.size + 1, 2, none⟩ (.string ⟨#[116, 111, 119, 97, 114, 100, 95, 122, 101, 114, 111]⟩)).setCell ⟨w.heap.size + 1, 3, none⟩ (.slice none 0 0)) [(w.heap.size + 1, [.int .i64 2, .int .i64 0, .string ⟨#[116, 111, 119, 97, 114, 100, 95, 122, 101, 114, 111]⟩, .slice none 0 0]), (w.heap.size, [.int .i64 f.q, .int .i64 f.u, .bool f.c, .bool f.d])] := HK2.out.set4 0 rfl (.int .i64 2) (.int .i64 0) (.string ⟨#[116, 111, 119, 97, 114, 100, 95, 122, 101, 114, 111]⟩) (.slice none 0 0)
          have hb1 : Below w.heap.size w ((((w2.setCell ⟨w.heap.size + 1, 0, none⟩ (.int .i64 2)).setCell ⟨w.heap.size + 1, 1, none⟩ (.int .i64 0)).setCell ⟨w.heap.size + 1, 2, none⟩ (.string ⟨#[116, 111, 119, 97, 114, 100, 95, 122, 101, 114, 111]⟩)).setCell ⟨w.heap.size + 1, 3, none⟩ (.slice none 0 0)) := ((((HB2.out.setCell (p := ⟨w.heap.size + 1, _, none⟩) (show w.heap.size ≤ w.heap.size + 1 by omega) _).setCell (p := ⟨w.heap.size + 1, _, none⟩) (show w.heap.size ≤ w.heap.size + 1 by omega) _).setCell (p := ⟨w.heap.size + 1, _, none⟩) (show w.heap.size ≤ w.heap.size + 1 by omega) _).setCell (p := ⟨w.heap.size + 1, _, none⟩) (show w.heap.size ≤ w.heap.size + 1 by omega) _)
          obtain ⟨wz, HWZ⟩ : ∃ wz, Hid (wz = ((((w2.setCell ⟨w.heap.size + 1, 0, none⟩ (.int .i64 2)).setCell ⟨w.heap.size + 1, 1, none⟩ (.int .i64 0)).setCell ⟨w.heap.size + 1, 2, none⟩ (.string ⟨#[116, 111, 119, 97, 114, 100, 95, 122, 101, 114, 111]⟩)).setCell ⟨w.heap.size + 1, 3, none⟩ (.slice none 0 0))) := ⟨_, Lib.hid rfl⟩
          rw [← HWZ.out] at hk1 hb1
          have HK9 := Lib.hid hk1
          have HB9 := Lib.hid hb1
          clear hk1 hb1
          go_wp2_with fail
          rw [← HWZ.out]
          have m0 := HK9.out.cell 0 0 (g := w.heap.size + 1) (v := .int .i64 2) rfl rfl
          have m1 := HK9.out.cell 0 1 (g := w.heap.size + 1) (v := .int .i64 0) rfl rfl
          have m2 := HK9.out.cell 0 2 (g := w.heap.size + 1) (v := .string ⟨#[116, 111, 119, 97, 114, 100, 95, 122, 101, 114, 111]⟩) rfl rfl
          have m3 := HK9.out.cell 0 3 (g := w.heap.size + 1) (v := .slice none 0 0) rfl rfl
          exact bodyPost_ret (v := .tuple #[.agg #[.int .i64 2, .int .i64 0, .string ⟨#[116, 111, 119, 97, 114, 100, 95, 122, 101, 114, 111]⟩, .slice none 0 0], .int .i64 0]) (by simp [results, Tryz.results17, go_sem, m0, m1, m2, m3]) rfl ⟨none, 0, by rw [HT2.out, HE2.out]; rfl, HB9.out⟩
        · have q0 : (s.toList == [98, 111, 117, 110, 100, 101, 100]) = false := by rw [HS.out]; kernel_rfl
          have q4 : (s.toList == [105, 110, 116, 101, 103, 101, 114, 95, 114, 111, 117, 110, 100, 105, 110, 103, 95, 102, 117, 110, 99, 116, 105, 111, 110]) = false := by rw [HS.out]; kernel_rfl
          have q5 : (s.toList == [109, 97, 120, 95, 97, 114, 105, 116, 121]) = true := by rw [HS.out]; kernel_rfl
          have q6 : (s.toList == [109, 97, 120, 95, 105, 110, 116, 101, 103, 101, 114]) = false := by rw [HS.out]; kernel_rfl
          have q7 : (s.toList == [109, 105, 110, 95, 105, 110, 116, 101, 103, 101, 114]) = false := by rw [HS.out]; kernel_rfl
          clear HS
          go_enter Tryz.func17, Tryz.ntmps17
          go_wp2_with fail
          refine (HV.out _).mono ?_; rintro e w1 ⟨rfl, hB1⟩
          have HB1 := Lib.hid (HB0.out.trans (hB1.mono HB0.out.size))
          have HK1 := Lib.hid (HK0.out.call hB1)
          clear hB1 HB0 HK0
          go_wp2_with fail
          refine (r8_number 8 _).mono ?_; rintro e w2 ⟨rfl, hB2⟩
          have HB2 := Lib.hid (HB1.out.trans (hB2.mono HB1.out.size))
          have HK2 := Lib.hid (HK1.out.call hB2)
          clear hB2 HB1 HK1
          have z0 := HK2.out.cell 0 0 (g := w.heap.size + 1) (v := .int .i64 0) rfl rfl
          have f0 := HK2.out.fz 0 0 (g := w.heap.size + 1) rfl
          have z1 := HK2.out.cell 0 1 (g := w.heap.size + 1) (v := .int .i64 0) rfl rfl
          have f1 := HK2.out.fz 0 1 (g := w.heap.size + 1) rfl
          have z2 := HK2.out.cell 0 2 (g := w.heap.size + 1) (v := .string ⟨#[]⟩) rfl rfl
          have f2 := HK2.out.fz 0 2 (g := w.heap.size + 1) rfl
          have z3 := HK2.out.cell 0 3 (g := w.heap.size + 1) (v := .slice none 0 0) rfl rfl
          have f3 := HK2.out.fz 0 3 (g := w.heap.size + 1) rfl
          have hk1 : Bks ((((w2.setCell ⟨w.heap.size + 1, 0, none⟩ (.int .i64 1)).setCell ⟨w.heap.size + 1, 1, none⟩ (.int .i64 8)).setCell ⟨w.heap.size + 1, 2, none⟩ (.string ⟨#[]⟩)).setCell ⟨w.heap.size + 1, 3, none⟩ (.slice none 0 0)) [(w.heap.size + 1, [.int .i64 1, .int .i64 8, .string ⟨#[]⟩, .slice none 0 0]), (w.heap.size, [.int .i64 f.q, .int .i64 f.u, .bool f.c, .bool f.d])] := HK2.out.set4 0 rfl (.int .i64 1) (.int .i64 8) (.string ⟨#[]⟩) (.slice none 0 0)
          have hb1 : Below w.heap.size w ((((w2.setCell ⟨w.heap.size + 1, 0, none⟩ (.int .i64 1)).setCell ⟨w.heap.size + 1, 1, none⟩ (.int .i64 8)).setCell ⟨w.heap.size + 1, 2, none⟩ (.string ⟨#[]⟩)).setCell ⟨w.heap.size + 1, 3, none⟩ (.slice none 0 0)) := ((((HB2.out.setCell (p := ⟨w.heap.size + 1, _, none⟩) (show w.heap.size ≤ w.heap.size + 1 by omega) _).setCell (p := ⟨w.heap.size + 1, _, none⟩) (show w.heap.size ≤ w.heap.size + 1 by omega) _).setCell (p := ⟨w.heap.size + 1, _, none⟩) (show w.heap.size ≤ w.heap.size + 1 by omega) _).setCell (p := ⟨w.heap.size + 1, _, none⟩) (show w.heap.size ≤ w.heap.size + 1 by omega) _)
          obtain ⟨wz, HWZ⟩ : ∃ wz, Hid (wz = ((((w2.setCell ⟨w.heap.size + 1, 0, none⟩ (.int .i64 1)).setCell ⟨w.heap.size + 1, 1, none⟩ (.int .i64 8)).setCell ⟨w.heap.size + 1, 2, none⟩ (.string ⟨#[]⟩)).setCell ⟨w.heap.size + 1, 3, none⟩ (.slice none 0 0))) := ⟨_, Lib.hid rfl⟩
          rw [← HWZ.out] at hk1 hb1
          have HK9 := Lib.hid hk1
          have HB9 := Lib.hid hb1
          clear hk1 hb1
          go_wp2_with fail
          rw [← HWZ.out]
          have m0 := HK9.out.cell 0 0 (g := w.heap.size + 1) (v := .int .i64 1) rfl rfl
          have m1 := HK9.out.cell 0 1 (g := w.heap.size + 1) (v := .int .i64 8) rfl rfl
          have m2 := HK9.out.cell 0 2 (g := w.heap.size + 1) (v := .string ⟨#[]⟩) rfl rfl
          have m3 := HK9.out.cell 0 3 (g := w.heap.size + 1) (v := .slice none 0 0) rfl rfl
          exact bodyPost_ret (v := .tuple #[.agg #[.int .i64 1, .int .i64 8, .string ⟨#[]⟩, .slice none 0 0], .int .i64 0]) (by simp [results, Tryz.results17, go_sem, m0, m1, m2, m3]) rfl ⟨none, 0, by rw [HT2.out, HE2.out]; rfl, HB9.out⟩
        · have q0 : (s.toList == [98, 111, 117, 110, 100, 101, 100]) = false := by rw [HS.out]; kernel_rfl
          have q4 : (s.toList == [105, 110, 116, 101, 103, 101, 114, 95, 114, 111, 117, 110, 100, 105, 110, 103, 95, 102, 117, 110, 99, 116, 105, 111, 110]) = false := by rw [HS.out]; kernel_rfl
          have q5 : (s.toList == [109, 97, 120, 95, 97, 114, 105, 116, 121]) = false := by rw [HS.out]; kernel_rfl
          have q6 : (s.toList == [109, 97, 120, 95, 105, 110, 116, 101, 103, 101, 114]) = true := by rw [HS.out]; kernel_rfl
          have q7 : (s.toList == [109, 105, 110, 95, 105, 110, 116, 101, 103, 101, 114]) = false := by rw [HS.out]; kernel_rfl
          clear HS
          go_enter Tryz.func17, Tryz.ntmps17
          go_wp2_with fail
          refine (HV.out _).mono ?_; rintro e w1 ⟨rfl, hB1⟩
          have HB1 := Lib.hid (HB0.out.trans (hB1.mono HB0.out.size))
          have HK1 := Lib.hid (HK0.out.call hB1)
          clear hB1 HB0 HK0
          go_wp2_with fail
          refine (r8_number 9223372036854775807 _).mono ?_; rintro e w2 ⟨rfl, hB2⟩
          have HB2 := Lib.hid (HB1.out.trans (hB2.mono HB1.out.size))
          have HK2 := Lib.hid (HK1.out.call hB2)
          clear hB2 HB1 HK1
          have z0 := HK2.out.cell 0 0 (g := w.heap.size + 1) (v := .int .i64 0) rfl rfl
          have f0 := HK2.out.fz 0 0 (g := w.heap.size + 1) rfl
          have z1 := HK2.out.cell 0 1 (g := w.heap.size + 1) (v := .int .i64 0) rfl rfl
          have f1 := HK2.out.fz 0 1 (g := w.heap.size + 1) rfl
          have z2 := HK2.out.cell 0 2 (g := w.heap.size + 1) (v := .string ⟨#[]⟩) rfl rfl
          have f2 := HK2.out.fz 0 2 (g := w.heap.size + 1) rfl
          have z3 := HK2.out.cell 0 3 (g := w.heap.size + 1) (v := .slice none 0 0) rfl rfl
          have f3 := HK2.out.fz 0 3 (g := w.heap.size + 1) rfl
          have hk1 : Bks ((((w2.setCell ⟨w.heap.size + 1, 0, none⟩ (.int .i64 1)).setCell ⟨w.heap.size + 1, 1, none⟩ (.int .i64 9223372036854775807)).setCell ⟨w.heap.size + 1, 2, none⟩ (.string ⟨#[]⟩)).setCell ⟨w.heap.size + 1, 3, none⟩ (.slice none 0 0)) [(w.heap.size + 1, [.int .i64 1, .int .i64 9223372036854775807, .string ⟨#[]⟩, .slice none 0 0]), (w.heap.size, [.int .i64 f.q, .int .i64 f.u, .bool f.c, .bool f.d])] := HK2.out.set4 0 rfl (.int .i64 1) (.int .i64 9223372036854775807) (.string ⟨#[]⟩) (.slice none 0 0)
          have hb1 : Below w.heap.size w ((((w2.setCell ⟨w.heap.size + 1, 0, none⟩ (.int .i64 1)).setCell ⟨w.heap.size + 1, 1, none⟩ (.int .i64 9223372036854775807)).setCell ⟨w.heap.size + 1, 2, none⟩ (.string ⟨#[]⟩)).setCell ⟨w.heap.size + 1, 3, none⟩ (.slice none 0 0)) := ((((HB2.out.setCell (p := ⟨w.heap.size + 1, _, none⟩) (show w.heap.size ≤ w.heap.size + 1 by omega) _).setCell (p := ⟨w.heap.size + 1, _, none⟩) (show w.heap.size ≤ w.heap.size + 1 by omega) _).setCell (p := ⟨w.heap.size + 1, _, none⟩) (show w.heap.size ≤ w.heap.size + 1 by omega) _).setCell (p := ⟨w.heap.size + 1, _, none⟩) (show w.heap.size ≤ w.heap.size + 1 by omega) _)
          obtain ⟨wz, HWZ⟩ : ∃ wz, Hid (wz = ((((w2.setCell ⟨w.heap.size + 1, 0, none⟩ (.int .i64 1)).setCell ⟨w.heap.size + 1, 1, none⟩ (.int .i64 9223372036854775807)).setCell ⟨w.heap.size + 1, 2, none⟩ (.string ⟨#[]⟩)).setCell ⟨w.heap.size + 1, 3, none⟩ (.slice none 0 0))) := ⟨_, Lib.hid rfl⟩
          rw [← HWZ.out] at hk1 hb1
          have HK9 := Lib.hid hk1
          have HB9 := Lib.hid hb1
          clear hk1 hb1
          go_wp2_with fail
          rw [← HWZ.out]
          have m0 := HK9.out.cell 0 0 (g := w.heap.size + 1) (v := .int .i64 1) rfl rfl
          have m1 := HK9.out.cell 0 1 (g := w.heap.size + 1) (v := .int .i64 9223372036854775807) rfl rfl
          have m2 := HK9.out.cell 0 2 (g := w.heap.size + 1) (v := .string ⟨#[]⟩) rfl rfl
          have m3 := HK9.out.cell 0 3 (g := w.heap.size + 1) (v := .slice none 0 0) rfl rfl
          exact bodyPost_ret (v := .tuple #[.agg #[.int .i64 1, .int .i64 9223372036854775807, .string ⟨#[]⟩, .slice none 0 0], .int .i64 0]) (by simp [results, Tryz.results17, go_sem, m0, m1, m2, m3]) rfl ⟨none, 0, by rw [HT2.out, HE2.out]; rfl, HB9.out⟩
        · have q0 : (s.toList == [98, 111, 117, 110, 100, 101, 100]) = false := by rw [HS.out]; kernel_rfl
          have q4 : (s.toList == [105, 110, 116, 101, 103, 101, 114, 95, 114, 111, 117, 110, 100, 105, 110, 103, 95, 102, 117, 110, 99, 116, 105, 111, 110]) = false := by rw [HS.out]; kernel_rfl
          have q5 : (s.toList == [109, 97, 120, 95, 97, 114, 105, 116, 121]) = false := by rw [HS.out]; kernel_rfl
          have q6 : (s.toList == [109, 97, 120, 95, 105, 110, 116, 101, 103, 101, 114]) = false := by rw [HS.out]; kernel_rfl
          have q7 : (s.toList == [109, 105, 110, 95, 105, 110, 116, 101, 103, 101, 114]) = true := by rw [HS.out]; kernel_rfl
          clear HS
          go_enter Tryz.func17, Tryz.ntmps17
          go_wp2_with fail
          refine (HV.out _).mono ?_; rintro e w1 ⟨rfl, hB1⟩
          have HB1 := Lib.hid (HB0.out.trans (hB1.mono HB0.out.size))
          have HK1 := Lib.hid (HK0.out.call hB1)
          clear hB1 HB0 HK0
          go_wp2_with fail
          refine (r8_number (-9223372036854775808) _).mono ?_; rintro e w2 ⟨rfl, hB2⟩
          have HB2 := Lib.hid (HB1.out.trans (hB2.mono HB1.out.size))
          have HK2 := Lib.hid (HK1.out.call hB2)
          clear hB2 HB1 HK1
          have z0 := HK2.out.cell 0 0 (g := w.heap.size + 1) (v := .int .i64 0) rfl rfl
          have f0 := HK2.out.fz 0 0 (g := w.heap.size + 1) rfl
          have z1 := HK2.out.cell 0 1 (g := w.heap.size + 1) (v := .int .i64 0) rfl rfl
          have f1 := HK2.out.fz 0 1 (g := w.heap.size + 1) rfl
          have z2 := HK2.out.cell 0 2 (g := w.heap.size + 1) (v := .string ⟨#[]⟩) rfl rfl
          have f2 := HK2.out.fz 0 2 (g := w.heap.size + 1) rfl
          have z3 := HK2.out.cell 0 3 (g := w.heap.size + 1) (v := .slice none 0 0) rfl rfl
          have f3 := HK2.out.fz 0 3 (g := w.heap.size + 1) rfl
          have hk1 : Bks ((((w2.setCell ⟨w.heap.size + 1, 0, none⟩ (.int .i64 1)).setCell ⟨w.heap.size + 1, 1, none⟩ (.int .i64 (-9223372036854775808))).setCell ⟨w.heap.size + 1, 2, none⟩ (.string ⟨#[]⟩)).setCell ⟨w.heap.size + 1, 3, none⟩ (.slice none 0 0)) [(w.heap.size + 1, [.int .i64 1, .int .i64 (-9223372036854775808), .string ⟨#[]⟩, .slice none 0 0]), (w.heap.size, [.int .i64 f.q, .int .i64 f.u, .bool f.c, .bool f.d])] := HK2.out.set4 0 rfl (.int .i64 1) (.int .i64 (-9223372036854775808)) (.string ⟨#[]⟩) (.slice none 0 0)
          have hb1 : Below w.heap.size w ((((w2.setCell ⟨w.heap.size + 1, 0, none⟩ (.int .i64 1)).setCell ⟨w.heap.size + 1, 1, none⟩ (.int .i64 (-9223372036854775808))).setCell ⟨w.heap.size + 1, 2, none⟩ (.string ⟨#[]⟩)).setCell ⟨w.heap.size + 1, 3, none⟩ (.slice none 0 0)) := ((((HB2.out.setCell (p := ⟨w.heap.size + 1, _, none⟩) (show w.heap.size ≤ w.heap.size + 1 by omega) _).setCell (p := ⟨w.heap.size + 1, _, none⟩) (show w.heap.size ≤ w.heap.size + 1 by omega) _).setCell (p := ⟨w.heap.size + 1, _, none⟩) (show w.heap.size ≤ w.heap.size + 1 by omega) _).setCell (p := ⟨w.heap.size + 1, _, none⟩) (show w.heap.size ≤ w.heap.size + 1 by omega) _)
          obtain ⟨wz, HWZ⟩ : ∃ wz, Hid (wz = ((((w2.setCell ⟨w.heap.size + 1, 0, none⟩ (.int .i64 1)).setCell ⟨w.heap.size + 1, 1, none⟩ (.int .i64 (-9223372036854775808))).setCell ⟨w.heap.size + 1, 2, none⟩ (.string ⟨#[]⟩)).setCell ⟨w.heap.size + 1, 3, none⟩ (.slice none 0 0))) := ⟨_, Lib.hid rfl⟩
          rw [← HWZ.out] at hk1 hb1
          have HK9 := Lib.hid hk1
          have HB9 := Lib.hid hb1
          clear hk1 hb1
          go_wp2_with fail
          rw [← HWZ.out]
          have m0 := HK9.out.cell 0 0 (g := w.heap.size + 1) (v := .int .i64 1) rfl rfl
          have m1 := HK9.out.cell 0 1 (g := w.heap.size + 1) (v := .int .i64 (-9223372036854775808)) rfl rfl
          have m2 := HK9.out.cell 0 2 (g := w.heap.size + 1) (v := .string ⟨#[]⟩) rfl rfl
          have m3 := HK9.out.cell 0 3 (g := w.heap.size + 1) (v := .slice none 0 0) rfl rfl
          exact bodyPost_ret (v := .tuple #[.agg #[.int .i64 1, .int .i64 (-9223372036854775808), .string ⟨#[]⟩, .slice none 0 0], .int .i64 0]) (by simp [results, Tryz.results17, go_sem, m0, m1, m2, m3]) rfl ⟨none, 0, by rw [HT2.out, HE2.out]; rfl, HB9.out⟩
    · have HT2 : Hid (getT f s = tm0) := Lib.hid (by rw [HT.out, if_pos hf, hi]; rfl)
      have HE2 : Hid (getE f s = 4) := Lib.hid (by rw [HE.out, if_pos hf, hi]; rfl)
      rw [hi] at HKN
      have HN := Lib.hid hn
      clear hn hi HT HE hf
      have q0 : (s.toList == [98, 111, 117, 110, 100, 101, 100]) = false := by
        have := HN.out 0 (by omega)
        rw [show (fN 0).toList = [98, 111, 117, 110, 100, 101, 100] by kernel_rfl] at this
        simpa using this
      have q4 : (s.toList == [105, 110, 116, 101, 103, 101, 114, 95, 114, 111, 117, 110, 100, 105, 110, 103, 95, 102, 117, 110, 99, 116, 105, 111, 110]) = false := by
        have := HN.out 4 (by omega)
        rw [show (fN 4).toList = [105, 110, 116, 101, 103, 101, 114, 95, 114, 111, 117, 110, 100, 105, 110, 103, 95, 102, 117, 110, 99, 116, 105, 111, 110] by kernel_rfl] at this
        simpa using this
      have q5 : (s.toList == [109, 97, 120, 95, 97, 114, 105, 116, 121]) = false := by
        have := HN.out 5 (by omega)
        rw [show (fN 5).toList = [109, 97, 120, 95, 97, 114, 105, 116, 121] by kernel_rfl] at this
        simpa using this
      have q6 : (s.toList == [109, 97, 120, 95, 105, 110, 116, 101, 103, 101, 114]) = false := by
        have := HN.out 6 (by omega)
        rw [show (fN 6).toList = [109, 97, 120, 95, 105, 110, 116, 101, 103, 101, 114] by kernel_rfl] at this
        simpa using this
      have q7 : (s.toList == [109, 105, 110, 95, 105, 110, 116, 101, 103, 101, 114]) = false := by
        have := HN.out 7 (by omega)
        rw [show (fN 7).toList = [109, 105, 110, 95, 105, 110, 116, 101, 103, 101, 114] by kernel_rfl] at this
        simpa using this
      clear HN
      go_enter Tryz.func17, Tryz.ntmps17
      go_wp2_with fail
      refine (HV.out _).mono ?_; rintro e w1 ⟨rfl, hB1⟩
      have HB1 := Lib.hid (HB0.out.trans (hB1.mono HB0.out.size))
      have HK1 := Lib.hid (HK0.out.call hB1)
      clear hB1 HB0 HK0
      go_wp2_with fail
      refine (HKN.out _).mono ?_; rintro e w2 ⟨rfl, hB2⟩
      have HB2 := Lib.hid (HB1.out.trans (hB2.mono HB1.out.size))
      have HK2 := Lib.hid (HK1.out.call hB2)
      clear hB2 HB1 HK1
      have z0 := HK2.out.cell 0 0 (g := w.heap.size + 1) (v := .int .i64 0) rfl rfl
      have f0 := HK2.out.fz 0 0 (g := w.heap.size + 1) rfl
      have z1 := HK2.out.cell 0 1 (g := w.heap.size + 1) (v := .int .i64 0) rfl rfl
      have f1 := HK2.out.fz 0 1 (g := w.heap.size + 1) rfl
      have z2 := HK2.out.cell 0 2 (g := w.heap.size + 1) (v := .string ⟨#[]⟩) rfl rfl
      have f2 := HK2.out.fz 0 2 (g := w.heap.size + 1) rfl
      have z3 := HK2.out.cell 0 3 (g := w.heap.size + 1) (v := .slice none 0 0) rfl rfl
      have f3 := HK2.out.fz 0 3 (g := w.heap.size + 1) rfl
      have hk1 : Bks ((((w2.setCell ⟨w.heap.size + 1, 0, none⟩ (.int .i64 0)).setCell ⟨w.heap.size + 1, 1, none⟩ (.int .i64 0)).setCell ⟨w.heap.size + 1, 2, none⟩ (.string ⟨#[]⟩)).setCell ⟨w.heap.size + 1, 3, none⟩ (.slice none 0 0)) [(w.heap.size + 1, [.int .i64 0, .int .i64 0, .string ⟨#[]⟩, .slice none 0 0]), (w.heap.size, [.int .i64 f.q, .int .i64 f.u, .bool f.c, .bool f.d])] := HK2.out.set4 0 rfl (.int .i64 0) (.int .i64 0) (.string ⟨#[]⟩) (.slice none 0 0)
      have hb1 : Below w.heap.size w ((((w2.setCell ⟨w.heap.size + 1, 0, none⟩ (.int .i64 0)).setCell ⟨w.heap.size + 1, 1, none⟩ (.int .i64 0)).setCell ⟨w.heap.size + 1, 2, none⟩ (.string ⟨#[]⟩)).setCell ⟨w.heap.size + 1, 3, none⟩ (.slice none 0 0)) := ((((HB2.out.setCell (p := ⟨w.heap.size + 1, _, none⟩) (show w.heap.size ≤ w.heap.size + 1 by omega) _).setCell (p := ⟨w.heap.size + 1, _, none⟩) (show w.heap.size ≤ w.heap.size + 1 by omega) _).setCell (p := ⟨w.heap.size + 1, _, none⟩) (show w.heap.size ≤ w.heap.size + 1 by omega) _).setCell (p := ⟨w.heap.size + 1, _, none⟩) (show w.heap.size ≤ w.heap.size + 1 by omega) _)
      obtain ⟨wz, HWZ⟩ : ∃ wz, Hid (wz = ((((w2.setCell ⟨w.heap.size + 1, 0, none⟩ (.int .i64 0)).setCell ⟨w.heap.size + 1, 1, none⟩ (.int .i64 0)).setCell ⟨w.heap.size + 1, 2, none⟩ (.string ⟨#[]⟩)).setCell ⟨w.heap.size + 1, 3, none⟩ (.slice none 0 0))) := ⟨_, Lib.hid rfl⟩
      rw [← HWZ.out] at hk1 hb1
      have HK9 := Lib.hid hk1
      have HB9 := Lib.hid hb1
      clear hk1 hb1
      go_wp2_with fail
      rw [← HWZ.out]
      have m0 := HK9.out.cell 0 0 (g := w.heap.size + 1) (v := .int .i64 0) rfl rfl
      have m1 := HK9.out.cell 0 1 (g := w.heap.size + 1) (v := .int .i64 0) rfl rfl
      have m2 := HK9.out.cell 0 2 (g := w.heap.size + 1) (v := .string ⟨#[]⟩) rfl rfl
      have m3 := HK9.out.cell 0 3 (g := w.heap.size + 1) (v := .slice none 0 0) rfl rfl
      exact bodyPost_ret (v := .tuple #[.agg #[.int .i64 0, .int .i64 0, .string ⟨#[]⟩, .slice none 0 0], .int .i64 4]) (by simp [results, Tryz.results17, go_sem, m0, m1, m2, m3]) rfl ⟨none, 0, by rw [HT2.out, HE2.out]; rfl, HB9.out⟩
  · have HT2 : Hid (getT f s = tm0) := Lib.hid (by rw [HT.out, if_neg hf])
    have HE2 : Hid (getE f s = 1) := Lib.hid (by rw [HE.out, if_neg hf])
    rw [show flOk f = false by simpa using hf] at HV
    clear HT HE hf HKN
    go_enter Tryz.func17, Tryz.ntmps17
    go_wp2_with fail
    refine (HV.out _).mono ?_; rintro e w1 ⟨rfl, hB1⟩
    have HB1 := Lib.hid (HB0.out.trans (hB1.mono HB0.out.size))
    have HK1 := Lib.hid (HK0.out.call hB1)
    clear hB1 HB0 HK0
    have z0 := HK1.out.cell 0 0 (g := w.heap.size + 1) (v := .int .i64 0) rfl rfl
    have f0 := HK1.out.fz 0 0 (g := w.heap.size + 1) rfl
    have z1 := HK1.out.cell 0 1 (g := w.heap.size + 1) (v := .int .i64 0) rfl rfl
    have f1 := HK1.out.fz 0 1 (g := w.heap.size + 1) rfl
    have z2 := HK1.out.cell 0 2 (g := w.heap.size + 1) (v := .string ⟨#[]⟩) rfl rfl
    have f2 := HK1.out.fz 0 2 (g := w.heap.size + 1) rfl
    have z3 := HK1.out.cell 0 3 (g := w.heap.size + 1) (v := .slice none 0 0) rfl rfl
    have f3 := HK1.out.fz 0 3 (g := w.heap.size + 1) rfl
    have hk1 : Bks ((((w1.setCell ⟨w.heap.size + 1, 0, none⟩ (.int .i64 0)).setCell ⟨w.heap.size + 1, 1, none⟩ (.int .i64 0)).setCell ⟨w.heap.size + 1, 2, none⟩ (.string ⟨#[]⟩)).setCell ⟨w.heap.size + 1, 3, none⟩ (.slice none 0 0)) [(w.heap.size + 1, [.int .i64 0, .int .i64 0, .string ⟨#[]⟩, .slice none 0 0]), (w.heap.size, [.int .i64 f.q, .int .i64 f.u, .bool f.c, .bool f.d])] := HK1.out.set4 0 rfl (.int .i64 0) (.int .i64 0) (.string ⟨#[]⟩) (.slice none 0 0)
    have hb1 : Below w.heap.size w ((((w1.setCell ⟨w.heap.size + 1, 0, none⟩ (.int .i64 0)).setCell ⟨w.heap.size + 1, 1, none⟩ (.int .i64 0)).setCell ⟨w.heap.size + 1, 2, none⟩ (.string ⟨#[]⟩)).setCell ⟨w.heap.size + 1, 3, none⟩ (.slice none 0 0)) := ((((HB1.out.setCell (p := ⟨w.heap.size + 1, _, none⟩) (show w.heap.size ≤ w.heap.size + 1 by omega) _).setCell (p := ⟨w.heap.size + 1, _, none⟩) (show w.heap.size ≤ w.heap.size + 1 by omega) _).setCell (p := ⟨w.heap.size + 1, _, none⟩) (show w.heap.size ≤ w.heap.size + 1 by omega) _).setCell (p := ⟨w.heap.size + 1, _, none⟩) (show w.heap.size ≤ w.heap.size + 1 by omega) _)
    obtain ⟨wz, HWZ⟩ : ∃ wz, Hid (wz = ((((w1.setCell ⟨w.heap.size + 1, 0, none⟩ (.int .i64 0)).setCell ⟨w.heap.size + 1, 1, none⟩ (.int .i64 0)).setCell ⟨w.heap.size + 1, 2, none⟩ (.string ⟨#[]⟩)).setCell ⟨w.heap.size + 1, 3, none⟩ (.slice none 0 0))) := ⟨_, Lib.hid rfl⟩
    rw [← HWZ.out] at hk1 hb1
    have HK9 := Lib.hid hk1
    have HB9 := Lib.hid hb1
    clear hk1 hb1
    go_wp2_with fail
    rw [← HWZ.out]
    have m0 := HK9.out.cell 0 0 (g := w.heap.size + 1) (v := .int .i64 0) rfl rfl
    have m1 := HK9.out.cell 0 1 (g := w.heap.size + 1) (v := .int .i64 0) rfl rfl
    have m2 := HK9.out.cell 0 2 (g := w.heap.size + 1) (v := .string ⟨#[]⟩) rfl rfl
    have m3 := HK9.out.cell 0 3 (g := w.heap.size + 1) (v := .slice none 0 0) rfl rfl
    exact bodyPost_ret (v := .tuple #[.agg #[.int .i64 0, .int .i64 0, .string ⟨#[]⟩, .slice none 0 0], .int .i64 1]) (by simp [results, Tryz.results17, go_sem, m0, m1, m2, m3]) rfl ⟨none, 0, by rw [HT2.out, HE2.out]; rfl, HB9.out⟩
end Go.Proofs.YtfkhcpeahdkafaaGreat
