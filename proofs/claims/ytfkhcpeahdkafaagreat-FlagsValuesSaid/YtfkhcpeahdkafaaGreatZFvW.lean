/- Flags: the law FlagsValues. -/
import Derived.Test.YtfkhcpeahdkafaaGreatZFvC
namespace Hb
open Go Go.RowKit
theorem getT_bad {f : FlR} {s : ByteArray} (h : ¬ getE f s = 0) : zeroT (getT f s) = true := by
  have : getT f s = tm0 := by
    unfold getE at h
    unfold getT
    split
    · rename_i h1
      rw [if_pos h1] at h
      split
      · rename_i h2; rw [if_pos h2] at h; exact absurd rfl h
      · rfl
    · rfl
  rw [this]
  decide +kernel
theorem getT_good {f : FlR} {s : ByteArray} (h : getE f s = 0) : sameT (getT f s) (getT f s) = true := by
  unfold getE at h
  split at h
  · rename_i hf
    split at h
    · rename_i hx
      have : getT f s = fVal f (fIx s) := by unfold getT; rw [if_pos hf, if_pos hx]
      rw [this]
      exact sameT_refl (fVal_valid hf _ hx)
    · cases h
  · cases h
end Hb
namespace Go.Proofs.YtfkhcpeahdkafaaGreat
open Go.RowKit Hb
set_option maxRecDepth 100000
set_option maxHeartbeats 6400000 in
theorem law_values (f : FlR) (s : ByteArray) (t : Tm) (TA : Option Addr) (cap : Nat) (w : World) (hT : TmsAt w.heap.size w TA t.args) : Calls Tryz.prog 3 #[flV f, .string s, tmV t TA cap] w fun e w' => e = .returned (.bool true) ∧ Below w.heap.size w w' := by
  have HTA := Lib.hid hT
  have HB0 : Hid (Below w.heap.size w ((w.alloc (.cells #[.int .i64 f.q, .int .i64 f.u, .bool f.c, .bool f.d] 23)).alloc (.cells #[.int .i64 t.kind, .int .i64 t.num, .string t.name, .slice TA t.args.length cap] 26))) := Lib.hid (((Below.refl _ w).alloc (Nat.le_refl _) _).alloc (by simp) _)
  have HK0 : Hid (Bks ((w.alloc (.cells #[.int .i64 f.q, .int .i64 f.u, .bool f.c, .bool f.d] 23)).alloc (.cells #[.int .i64 t.kind, .int .i64 t.num, .string t.name, .slice TA t.args.length cap] 26)) [(w.heap.size + 1, [.int .i64 t.kind, .int .i64 t.num, .string t.name, .slice TA t.args.length cap]), (w.heap.size, [.int .i64 f.q, .int .i64 f.u, .bool f.c, .bool f.d])]) := Lib.hid (((Bks.nil w).new [.int .i64 f.q, .int .i64 f.u, .bool f.c, .bool f.d] 23 rfl).new [.int .i64 t.kind, .int .i64 t.num, .string t.name, .slice TA t.args.length cap] 26 (by simp))
  have HD1 : Hid (∀ X, Calls Tryz.prog 10 #[] X fun e w' => ∃ v, e = .returned v ∧ (v = .agg #[.int .i64 1, .int .i64 1, .bool false, .bool false] ∧ Below X.heap.size X w')) := Lib.hid fun X => (f_default X).mono fun e w' h => ⟨_, h.1, rfl, h.2⟩
  have HD2 : Hid (∀ X, Calls Tryz.prog 11 #[] X fun e w' => ∃ v, e = .returned v ∧ (v = .agg #[.int .i64 1, .int .i64 1, .bool false, .bool false] ∧ Below X.heap.size X w')) := Lib.hid fun X => (r8_default X).mono fun e w' h => ⟨_, h.1, rfl, h.2⟩
  obtain ⟨ok, HOK⟩ : ∃ ok, Hid (ok = flOk f) := ⟨_, Lib.hid rfl⟩
  have HV1 : Hid (∀ X, Calls Tryz.prog 12 #[.agg #[.int .i64 f.q, .int .i64 f.u, .bool f.c, .bool f.d]] X fun e w' => ∃ v, e = .returned v ∧ (v = .bool ok ∧ Below X.heap.size X w')) := Lib.hid fun X => (f_valid f X).mono fun e w' h => ⟨_, h.1, by rw [HOK.out], h.2⟩
  have HV2 : Hid (∀ X, Calls Tryz.prog 13 #[.agg #[.int .i64 f.q, .int .i64 f.u, .bool f.c, .bool f.d]] X fun e w' => ∃ v, e = .returned v ∧ (v = .bool ok ∧ Below X.heap.size X w')) := Lib.hid fun X => (r8_valid f X).mono fun e w' h => ⟨_, h.1, by rw [HOK.out], h.2⟩
  clear hT HOK
  unfold flV tmV
  go_enter Tryz.func3, Tryz.ntmps3
  go_wp2_with fail
  rename_i K1 hK1
  obtain ⟨W0, HW0⟩ : ∃ W0, Hid (W0 = ((w.alloc (.cells #[.int .i64 f.q, .int .i64 f.u, .bool f.c, .bool f.d] 23)).alloc (.cells #[.int .i64 t.kind, .int .i64 t.num, .string t.name, .slice TA t.args.length cap] 26))) := ⟨_, Lib.hid rfl⟩
  rw [← HW0.out] at HB0 HK0 ⊢
  clear HW0
  have a0 := HK0.out.cell 1 0 (g := w.heap.size) (v := .int .i64 f.q) rfl rfl
  have a1 := HK0.out.cell 1 1 (g := w.heap.size) (v := .int .i64 f.u) rfl rfl
  have a2 := HK0.out.cell 1 2 (g := w.heap.size) (v := .bool f.c) rfl rfl
  have a3 := HK0.out.cell 1 3 (g := w.heap.size) (v := .bool f.d) rfl rfl
  have l0 := HK0.out.lt 1 (g := w.heap.size) rfl
  refine wp_region_any (by kernel_rfl) ?_
  refine wpAny_inv (fun S a X => a = (⟨#[.agg #[.int .i64 f.q, .int .i64 f.u, .bool f.c, .bool f.d], .string s, .agg #[.int .i64 t.kind, .int .i64 t.num, .string t.name, .slice TA t.args.length cap], .pointer (some ⟨w.heap.size, 0, none⟩), undef, .pointer (some ⟨w.heap.size + 1, 0, none⟩), .bool false, undef, undef, undef, undef, undef, undef, undef, undef, undef, undef, undef, if S 0 = true then .agg #[.int .i64 1, .int .i64 1, .bool false, .bool false] else undef, if S 1 = true then .agg #[.int .i64 1, .int .i64 1, .bool false, .bool false] else undef, if S 2 = true then .bool false else undef, if S 3 = true then .bool false else undef, if S 4 = true then .agg #[.int .i64 f.q, .int .i64 f.u, .bool f.c, .bool f.d] else undef, if S 5 = true then .bool ok else undef, if S 6 = true then .agg #[.int .i64 f.q, .int .i64 f.u, .bool f.c, .bool f.d] else undef, if S 7 = true then .bool ok else undef, if S 8 = true then .bool false else undef, if S 9 = true then .bool false else undef, undef, undef, undef, undef, undef, undef, undef, undef, undef, undef, undef, undef, undef, undef, undef, undef, undef, undef, undef, undef, undef, undef, undef, undef, undef, undef, undef, undef, undef, undef, undef, undef, undef, undef, undef, undef, undef, undef, undef, undef, undef, undef, undef, undef, undef, undef, undef, undef, undef, undef, undef, undef, undef, undef, undef, undef, undef, undef, undef, undef, undef, undef, undef, undef, undef, undef, undef, undef, undef, undef, undef, undef, undef, undef, undef, undef, undef, undef, undef, undef, undef], []⟩ : Act) ∧ Below W0.heap.size W0 X) (by kernel_rfl) ?stepa ?fina 10 (fun _ => false) _ _ (by decide) ⟨rfl, (Below.refl _ W0).drew⟩
  case stepa =>
    rintro S j o a X ho hs hp ⟨rfl, hB⟩
    have hlt : j < 10 := (Array.getElem?_eq_some_iff.1 ho).1
    rcases (show j = 0 ∨ j = 1 ∨ j = 2 ∨ j = 3 ∨ j = 4 ∨ j = 5 ∨ j = 6 ∨ j = 7 ∨ j = 8 ∨ j = 9 by omega) with rfl | rfl | rfl | rfl | rfl | rfl | rfl | rfl | rfl | rfl
    · injection ho with ho
      subst ho
      rw [if_pos (show Region.wanted _ _ = true from rfl)]
      refine wp_cal ?_ (HD1.out X) (fun v w' hR => ?_)
      · simp [execOp, go_sem, Act.eval]
        try rfl
      · obtain ⟨rfl, hB'⟩ := hR
        exact ⟨rfl, hB.trans (hB'.mono hB.size)⟩
    · injection ho with ho
      subst ho
      rw [if_pos (show Region.wanted _ _ = true from rfl)]
      refine wp_cal ?_ (HD2.out X) (fun v w' hR => ?_)
      · simp [execOp, go_sem, Act.eval]
        try rfl
      · obtain ⟨rfl, hB'⟩ := hR
        exact ⟨rfl, hB.trans (hB'.mono hB.size)⟩
    · injection ho with ho
      subst ho
      have s0 : S 0 = true := hp ⟨0, .data⟩ (by simp) rfl
      have s1 : S 1 = true := hp ⟨1, .data⟩ (by simp) rfl
      rw [if_pos (show Region.wanted _ _ = true from rfl)]
      refine wp_val (v := .bool false) (w' := X) ?_ ⟨rfl, hB⟩
      simp [execOp, go_sem, Act.eval, s0, s1]
    · injection ho with ho
      subst ho
      have s2 : S 2 = true := hp ⟨2, .data⟩ (by simp) rfl
      rw [if_pos (show Region.wanted _ _ = true from rfl)]
      refine wp_val (v := .bool false) (w' := X) ?_ ⟨rfl, hB⟩
      simp [execOp, go_sem, Act.eval, s2]
    · injection ho with ho
      subst ho
      have s3 : S 3 = true := hp ⟨3, .guard⟩ (by simp) rfl
      have y0 : X.cell? ⟨w.heap.size, 0, none⟩ = some (.int .i64 f.q) := (hB.cell (p := ⟨_, 0, none⟩) l0).trans a0
      have y1 : X.cell? ⟨w.heap.size, 1, none⟩ = some (.int .i64 f.u) := (hB.cell (p := ⟨_, 1, none⟩) l0).trans a1
      have y2 : X.cell? ⟨w.heap.size, 2, none⟩ = some (.bool f.c) := (hB.cell (p := ⟨_, 2, none⟩) l0).trans a2
      have y3 : X.cell? ⟨w.heap.size, 3, none⟩ = some (.bool f.d) := (hB.cell (p := ⟨_, 3, none⟩) l0).trans a3
      rw [if_pos (show Region.wanted _ (yielded _ _) = true by simp [Region.wanted, yielded, s3])]
      refine wp_val (v := .agg #[.int .i64 f.q, .int .i64 f.u, .bool f.c, .bool f.d]) (w' := X) ?_ ⟨rfl, hB⟩
      simp [execOp, go_sem, Act.eval, y0, y1, y2, y3]
    · injection ho with ho
      subst ho
      have s4 : S 4 = true := hp ⟨4, .data⟩ (by simp) rfl
      have s3 : S 3 = true := hp ⟨3, .guard⟩ (by simp) rfl
      rw [if_pos (show Region.wanted _ (yielded _ _) = true by simp [Region.wanted, yielded, s3])]
      refine wp_cal ?_ (HV1.out X) (fun v w' hR => ?_)
      · simp [execOp, go_sem, Act.eval, s4]
        try rfl
      · obtain ⟨rfl, hB'⟩ := hR
        exact ⟨rfl, hB.trans (hB'.mono hB.size)⟩
    · injection ho with ho
      subst ho
      have s3 : S 3 = true := hp ⟨3, .guard⟩ (by simp) rfl
      have y0 : X.cell? ⟨w.heap.size, 0, none⟩ = some (.int .i64 f.q) := (hB.cell (p := ⟨_, 0, none⟩) l0).trans a0
      have y1 : X.cell? ⟨w.heap.size, 1, none⟩ = some (.int .i64 f.u) := (hB.cell (p := ⟨_, 1, none⟩) l0).trans a1
      have y2 : X.cell? ⟨w.heap.size, 2, none⟩ = some (.bool f.c) := (hB.cell (p := ⟨_, 2, none⟩) l0).trans a2
      have y3 : X.cell? ⟨w.heap.size, 3, none⟩ = some (.bool f.d) := (hB.cell (p := ⟨_, 3, none⟩) l0).trans a3
      rw [if_pos (show Region.wanted _ (yielded _ _) = true by simp [Region.wanted, yielded, s3])]
      refine wp_val (v := .agg #[.int .i64 f.q, .int .i64 f.u, .bool f.c, .bool f.d]) (w' := X) ?_ ⟨rfl, hB⟩
      simp [execOp, go_sem, Act.eval, y0, y1, y2, y3]
    · injection ho with ho
      subst ho
      have s6 : S 6 = true := hp ⟨6, .data⟩ (by simp) rfl
      have s3 : S 3 = true := hp ⟨3, .guard⟩ (by simp) rfl
      rw [if_pos (show Region.wanted _ (yielded _ _) = true by simp [Region.wanted, yielded, s3])]
      refine wp_cal ?_ (HV2.out X) (fun v w' hR => ?_)
      · simp [execOp, go_sem, Act.eval, s6]
        try rfl
      · obtain ⟨rfl, hB'⟩ := hR
        exact ⟨rfl, hB.trans (hB'.mono hB.size)⟩
    · injection ho with ho
      subst ho
      have s5 : S 5 = true := hp ⟨5, .data⟩ (by simp) rfl
      have s7 : S 7 = true := hp ⟨7, .data⟩ (by simp) rfl
      have s3 : S 3 = true := hp ⟨3, .guard⟩ (by simp) rfl
      rw [if_pos (show Region.wanted _ (yielded _ _) = true by simp [Region.wanted, yielded, s3])]
      refine wp_val (v := .bool false) (w' := X) ?_ ⟨rfl, hB⟩
      simp [execOp, go_sem, Act.eval, s5, s7]
    · injection ho with ho
      subst ho
      have s3 : S 3 = true := hp ⟨3, .data⟩ (by simp) rfl
      have s8 : S 8 = true := hp ⟨8, .data⟩ (by simp) rfl
      rw [if_pos (show Region.wanted _ _ = true from rfl)]
      refine wp_val (v := .bool false) (w' := X) ?_ ⟨rfl, hB⟩
      simp [execOp, go_sem, Act.eval, s3, s8]
  case fina =>
    rintro S a W1 hall ⟨rfl, hB⟩
    have s0 : S 0 = true := hall 0 (show 0 < 10 by omega)
    have s1 : S 1 = true := hall 1 (show 1 < 10 by omega)
    have s2 : S 2 = true := hall 2 (show 2 < 10 by omega)
    have s3 : S 3 = true := hall 3 (show 3 < 10 by omega)
    have s4 : S 4 = true := hall 4 (show 4 < 10 by omega)
    have s5 : S 5 = true := hall 5 (show 5 < 10 by omega)
    have s6 : S 6 = true := hall 6 (show 6 < 10 by omega)
    have s7 : S 7 = true := hall 7 (show 7 < 10 by omega)
    have s8 : S 8 = true := hall 8 (show 8 < 10 by omega)
    have s9 : S 9 = true := hall 9 (show 9 < 10 by omega)
    have HB1 := Lib.hid (HB0.out.trans (hB.mono HB0.out.size))
    have HK1 := Lib.hid (HK0.out.call hB)
    refine hK1 _ _ ?_
    simp only [s0, s1, s2, s3, s4, s5, s6, s7, s8, s9, if_true]
    clear hall hB hK1 HB0 HK0 HD1 HD2 HV1 HV2 a0 a1 a2 a3 l0 s0 s1 s2 s3 s4 s5 s6 s7 s8 s9
    go_wp2_with fail
    refine (f_names _).mono ?_; rintro e w2 ⟨nv, rfl, hB2, hO2⟩
    obtain ⟨n1, c1, rfl, hN2⟩ := nm_own hO2
    have HB2 := Lib.hid (HB1.out.trans (hB2.mono HB1.out.size))
    have HK2 := Lib.hid (HK1.out.call hB2)
    have HN2 := Lib.hid hN2
    clear hB2 hO2 hN2 HB1 HK1
    go_wp2_with fail
    refine (r8_names _).mono ?_; rintro e w3 ⟨n2, rfl, hB3, hM3⟩
    have HB3 := Lib.hid (HB2.out.trans (hB3.mono HB2.out.size))
    have HK3 := Lib.hid (HK2.out.call hB3)
    have HN3 := Lib.hid (HN2.out.below hB3)
    have HM3 := Lib.hid hM3
    clear hB3 hM3 HB2 HK2 HN2
    go_wp2_with fail
    go_loopw [9] (fun i wr => ∃ j : Nat, j ≤ 9 ∧ i = .int .i64 j ∧ Hid (Below w.heap.size w wr) ∧ Hid (Bks wr [(w.heap.size + 1, [.int .i64 t.kind, .int .i64 t.num, .string t.name, .slice TA t.args.length cap]), (w.heap.size, [.int .i64 f.q, .int .i64 f.u, .bool f.c, .bool f.d])]) ∧ Hid (NmAt wr n1) ∧ Hid (NmAt wr n2)) (fun i _ => 9 - (intOf i).toNat)
    case atStart => exact ⟨0, by omega, rfl, HB3, HK3, HN3, HM3⟩
    case round =>
      obtain ⟨j, hj, rfl, HBR, HKR, HNR, HMR⟩ := hrel
      by_cases hlt : j < 9
      · have hj0 : (0 : Int) ≤ (j : Int) := by omega
        have hj1 : (j : Int) < 9 := by omega
        obtain ⟨nm, HNM⟩ : ∃ nm, Hid (nm = fN j) := ⟨_, Lib.hid rfl⟩
        have c1n : wr.cell? ⟨n1, j, none⟩ = some (.string nm) := by rw [HNM.out]; exact HNR.out.2 j hlt
        have c2n : wr.cell? ⟨n2, j, none⟩ = some (.string nm) := by rw [HNM.out]; exact HMR.out.2 j hlt
        go_wp2_with fail
        rename_i K2 hK2
        refine wp_region_any (by kernel_rfl) ?_
        refine wpAny_inv (fun S a X => a = (⟨#[.agg #[.int .i64 f.q, .int .i64 f.u, .bool f.c, .bool f.d], .string s, .agg #[.int .i64 t.kind, .int .i64 t.num, .string t.name, .slice TA t.args.length cap], .pointer (some ⟨w.heap.size, 0, none⟩), undef, .pointer (some ⟨w.heap.size + 1, 0, none⟩), u6, .slice (some ⟨n1, 0, none⟩) 9 c1, .slice (some ⟨n2, 0, none⟩) 9 9, .int .i64 j, undef, undef, undef, undef, undef, undef, undef, undef, .agg #[.int .i64 1, .int .i64 1, .bool false, .bool false], .agg #[.int .i64 1, .int .i64 1, .bool false, .bool false], .bool false, .bool false, .agg #[.int .i64 f.q, .int .i64 f.u, .bool f.c, .bool f.d], .bool ok, .agg #[.int .i64 f.q, .int .i64 f.u, .bool f.c, .bool f.d], .bool ok, .bool false, .bool false, .slice (some ⟨n1, 0, none⟩) 9 c1, .slice (some ⟨n2, 0, none⟩) 9 9, .slice (some ⟨n1, 0, none⟩) 9 c1, .int .i64 9, .slice (some ⟨n2, 0, none⟩) 9 9, .int .i64 9, .bool false, .int .i64 j, .slice (some ⟨n1, 0, none⟩) 9 c1, .int .i64 9, .bool true, u39, u40, if S 0 = true then .slice (some ⟨n1, 0, none⟩) 9 c1 else u41, if S 1 = true then .int .i64 j else u42, if S 2 = true then .pointer (some ⟨n1, j, none⟩) else u43, if S 3 = true then .string nm else u44, if S 4 = true then .slice (some ⟨n2, 0, none⟩) 9 9 else u45, if S 5 = true then .int .i64 j else u46, if S 6 = true then .pointer (some ⟨n2, j, none⟩) else u47, if S 7 = true then .string nm else u48, if S 8 = true then .bool false else u49, undef, undef, undef, undef, undef, undef, undef, undef, undef, undef, undef, undef, undef, undef, undef, undef, undef, undef, undef, undef, undef, undef, undef, undef, undef, undef, undef, undef, undef, undef, undef, undef, undef, undef, undef, undef, undef, undef, undef, undef, undef, undef, undef, undef, undef, undef, undef, undef, undef, undef, undef, undef, undef, undef, undef, undef, undef, undef, undef], []⟩ : Act) ∧ X = wr.drew) (by kernel_rfl) ?stepb ?finb 9 (fun _ => false) _ _ (by decide) ⟨rfl, rfl⟩
        case stepb =>
          rintro S j o a X ho hs hp ⟨rfl, rfl⟩
          have hlt : j < 9 := (Array.getElem?_eq_some_iff.1 ho).1
          rcases (show j = 0 ∨ j = 1 ∨ j = 2 ∨ j = 3 ∨ j = 4 ∨ j = 5 ∨ j = 6 ∨ j = 7 ∨ j = 8 by omega) with rfl | rfl | rfl | rfl | rfl | rfl | rfl | rfl | rfl
          · injection ho with ho
            subst ho
            rw [if_pos (show Region.wanted _ _ = true from rfl)]
            refine wp_val (v := .slice (some ⟨n1, 0, none⟩) 9 c1) (w' := wr.drew) ?_ ⟨rfl, rfl⟩
            simp [execOp, go_sem, Act.eval]
          · injection ho with ho
            subst ho
            rw [if_pos (show Region.wanted _ _ = true from rfl)]
            refine wp_val (v := .int .i64 j) (w' := wr.drew) ?_ ⟨rfl, rfl⟩
            simp [execOp, go_sem, Act.eval]
          · injection ho with ho
            subst ho
            have s0 : S 0 = true := hp ⟨0, .data⟩ (by simp) rfl
            have s1 : S 1 = true := hp ⟨1, .data⟩ (by simp) rfl
            rw [if_pos (show Region.wanted _ _ = true from rfl)]
            refine wp_val (v := .pointer (some ⟨n1, j, none⟩)) (w' := wr.drew) ?_ ⟨rfl, rfl⟩
            simp [execOp, go_sem, Act.eval, s0, s1, hj0, hj1]
          · injection ho with ho
            subst ho
            have s2 : S 2 = true := hp ⟨2, .data⟩ (by simp) rfl
            have y1 : wr.drew.cell? ⟨n1, j, none⟩ = some (.string nm) := c1n
            rw [if_pos (show Region.wanted _ _ = true from rfl)]
            refine wp_val (v := .string nm) (w' := wr.drew) ?_ ⟨rfl, rfl⟩
            simp [execOp, go_sem, Act.eval, s2, y1]
          · injection ho with ho
            subst ho
            rw [if_pos (show Region.wanted _ _ = true from rfl)]
            refine wp_val (v := .slice (some ⟨n2, 0, none⟩) 9 9) (w' := wr.drew) ?_ ⟨rfl, rfl⟩
            simp [execOp, go_sem, Act.eval]
          · injection ho with ho
            subst ho
            rw [if_pos (show Region.wanted _ _ = true from rfl)]
            refine wp_val (v := .int .i64 j) (w' := wr.drew) ?_ ⟨rfl, rfl⟩
            simp [execOp, go_sem, Act.eval]
          · injection ho with ho
            subst ho
            have s4 : S 4 = true := hp ⟨4, .data⟩ (by simp) rfl
            have s5 : S 5 = true := hp ⟨5, .data⟩ (by simp) rfl
            rw [if_pos (show Region.wanted _ _ = true from rfl)]
            refine wp_val (v := .pointer (some ⟨n2, j, none⟩)) (w' := wr.drew) ?_ ⟨rfl, rfl⟩
            simp [execOp, go_sem, Act.eval, s4, s5, hj0, hj1]
          · injection ho with ho
            subst ho
            have s6 : S 6 = true := hp ⟨6, .data⟩ (by simp) rfl
            have y2 : wr.drew.cell? ⟨n2, j, none⟩ = some (.string nm) := c2n
            rw [if_pos (show Region.wanted _ _ = true from rfl)]
            refine wp_val (v := .string nm) (w' := wr.drew) ?_ ⟨rfl, rfl⟩
            simp [execOp, go_sem, Act.eval, s6, y2]
          · injection ho with ho
            subst ho
            have s3 : S 3 = true := hp ⟨3, .data⟩ (by simp) rfl
            have s7 : S 7 = true := hp ⟨7, .data⟩ (by simp) rfl
            rw [if_pos (show Region.wanted _ _ = true from rfl)]
            refine wp_val (v := .bool false) (w' := wr.drew) ?_ ⟨rfl, rfl⟩
            simp [execOp, go_sem, Act.eval, s3, s7]
        case finb =>
          rintro S a X hall ⟨rfl, rfl⟩
          have s0 : S 0 = true := hall 0 (show 0 < 9 by omega)
          have s1 : S 1 = true := hall 1 (show 1 < 9 by omega)
          have s2 : S 2 = true := hall 2 (show 2 < 9 by omega)
          have s3 : S 3 = true := hall 3 (show 3 < 9 by omega)
          have s4 : S 4 = true := hall 4 (show 4 < 9 by omega)
          have s5 : S 5 = true := hall 5 (show 5 < 9 by omega)
          have s6 : S 6 = true := hall 6 (show 6 < 9 by omega)
          have s7 : S 7 = true := hall 7 (show 7 < 9 by omega)
          have s8 : S 8 = true := hall 8 (show 8 < 9 by omega)
          refine hK2 _ _ ?_
          simp only [s0, s1, s2, s3, s4, s5, s6, s7, s8, if_true]
          clear hall hK2 s0 s1 s2 s3 s4 s5 s6 s7 s8
          have HBD := Lib.hid HBR.out.drew
          have HKD := Lib.hid HKR.out.dr
          have HND := Lib.hid (HNR.out.below (Below.refl _ wr).drew)
          have HMD := Lib.hid (HMR.out.below (Below.refl _ wr).drew)
          clear c1n c2n
          go_wp2_with fail
          go_roundw
          case rel => exact ⟨j + 1, by omega, by go_num, HBD, HKD, HND, HMD⟩
          case measure => simp [intOf] <;> omega
      · have hj9 : j = 9 := by omega
        subst hj9
        obtain ⟨ov, HOV⟩ : ∃ ov, Hid (ov = getT f s) := ⟨_, Lib.hid rfl⟩
        have HOA : Hid (ov.args = []) := Lib.hid (by rw [HOV.out]; exact getT_args f s)
        have HBAD : Hid (¬ getE f s = 0 → zeroT ov = true) := Lib.hid (by rw [HOV.out]; exact getT_bad)
        have HGOOD : Hid (getE f s = 0 → sameT ov ov = true) := Lib.hid (by rw [HOV.out]; exact getT_good)
        obtain ⟨d, HDE⟩ : ∃ d, Hid (d = getE f s) := ⟨_, Lib.hid rfl⟩
        rw [← HDE.out] at HBAD HGOOD
        have HG1 : Hid (∀ X, Calls Tryz.prog 16 #[.agg #[.int .i64 f.q, .int .i64 f.u, .bool f.c, .bool f.d], .string s] X fun e w' => ∃ A' c', e = .returned (.tuple #[.agg #[.int .i64 ov.kind, .int .i64 ov.num, .string ov.name, .slice A' 0 c'], .int .i64 d]) ∧ Below X.heap.size X w') := Lib.hid fun X => (f_get f s X).mono fun e w' h => by
          obtain ⟨A', c', he, hB⟩ := h
          rw [← HOV.out, ← HDE.out] at he
          simp only [tmV, HOA.out, List.length_nil] at he
          exact ⟨A', c', he, hB⟩
        have HG2 : Hid (∀ X, Calls Tryz.prog 17 #[.agg #[.int .i64 f.q, .int .i64 f.u, .bool f.c, .bool f.d], .string s] X fun e w' => ∃ A' c', e = .returned (.tuple #[.agg #[.int .i64 ov.kind, .int .i64 ov.num, .string ov.name, .slice A' 0 c'], .int .i64 d]) ∧ Below X.heap.size X w') := Lib.hid fun X => (r8_get f s X).mono fun e w' h => by
          obtain ⟨A', c', he, hB⟩ := h
          rw [← HOV.out, ← HDE.out] at he
          simp only [tmV, HOA.out, List.length_nil] at he
          exact ⟨A', c', he, hB⟩
        obtain ⟨g, HGF⟩ : ∃ g, Hid (g = setF f s t) := ⟨_, Lib.hid rfl⟩
        obtain ⟨E, HEE⟩ : ∃ E, Hid (E = setE f s t) := ⟨_, Lib.hid rfl⟩
        have HS1 : Hid (∀ X, Below w.heap.size w X → Calls Tryz.prog 20 #[.agg #[.int .i64 f.q, .int .i64 f.u, .bool f.c, .bool f.d], .string s, .agg #[.int .i64 t.kind, .int .i64 t.num, .string t.name, .slice TA t.args.length cap]] X fun e w' => e = .returned (.tuple #[.agg #[.int .i64 g.q, .int .i64 g.u, .bool g.c, .bool g.d], .int .i64 E]) ∧ Below X.heap.size X w') := Lib.hid fun X hX => by
          have := f_set f s t TA cap X ((HTA.out.keep hX).mono hX.size)
          rw [← HGF.out, ← HEE.out] at this
          exact this
        have HS2 : Hid (∀ X, Below w.heap.size w X → Calls Tryz.prog 21 #[.agg #[.int .i64 f.q, .int .i64 f.u, .bool f.c, .bool f.d], .string s, .agg #[.int .i64 t.kind, .int .i64 t.num, .string t.name, .slice TA t.args.length cap]] X fun e w' => e = .returned (.tuple #[.agg #[.int .i64 g.q, .int .i64 g.u, .bool g.c, .bool g.d], .int .i64 E]) ∧ Below X.heap.size X w') := Lib.hid fun X hX => by
          have := r8_set f s t TA cap X ((HTA.out.keep hX).mono hX.size)
          rw [← HGF.out, ← HEE.out] at this
          exact this
        have HSM : Hid (∀ X A' c' A'' c'', d = 0 → Calls Tryz.prog 18 #[.agg #[.int .i64 ov.kind, .int .i64 ov.num, .string ov.name, .slice A' 0 c'], .agg #[.int .i64 ov.kind, .int .i64 ov.num, .string ov.name, .slice A'' 0 c'']] X fun e w' => e = .returned (.bool true) ∧ Below X.heap.size X w') := Lib.hid fun X A' c' A'' c'' hd => by
          have := law_same ov ov A' A'' c' c'' X (by rw [HOA.out]; exact TmsK.nil) (by rw [HOA.out]; exact TmsK.nil)
          rw [HGOOD.out hd] at this
          simp only [tmV, HOA.out, List.length_nil] at this
          exact this
        have HZR : Hid (∀ X A' c', ¬ d = 0 → Calls Tryz.prog 19 #[.agg #[.int .i64 ov.kind, .int .i64 ov.num, .string ov.name, .slice A' 0 c']] X fun e w' => e = .returned (.bool true) ∧ Below X.heap.size X w') := Lib.hid fun X A' c' hd => by
          have := law_zero ov A' c' X
          rw [HBAD.out hd] at this
          simp only [tmV, HOA.out, List.length_nil] at this
          exact this
        clear HOV HDE HBAD HGOOD HGF HEE HNR HMR
        have a0 := HKR.out.cell 1 0 (g := w.heap.size) (v := .int .i64 f.q) rfl rfl
        have a1 := HKR.out.cell 1 1 (g := w.heap.size) (v := .int .i64 f.u) rfl rfl
        have a2 := HKR.out.cell 1 2 (g := w.heap.size) (v := .bool f.c) rfl rfl
        have a3 := HKR.out.cell 1 3 (g := w.heap.size) (v := .bool f.d) rfl rfl
        have l0 := HKR.out.lt 1 (g := w.heap.size) rfl
        go_wp2_with fail
        refine (HG1.out _).mono ?_; rintro e w4 ⟨A1, k1, rfl, hB4⟩
        have HB4 := Lib.hid (HBR.out.trans (hB4.mono HBR.out.size))
        have HK4 := Lib.hid (HKR.out.call hB4)
        clear hB4 HBR HKR a0 a1 a2 a3 l0
        have a0 := HK4.out.cell 1 0 (g := w.heap.size) (v := .int .i64 f.q) rfl rfl
        have a1 := HK4.out.cell 1 1 (g := w.heap.size) (v := .int .i64 f.u) rfl rfl
        have a2 := HK4.out.cell 1 2 (g := w.heap.size) (v := .bool f.c) rfl rfl
        have a3 := HK4.out.cell 1 3 (g := w.heap.size) (v := .bool f.d) rfl rfl
        have l0 := HK4.out.lt 1 (g := w.heap.size) rfl
        have HB4a := Lib.hid (HB4.out.alloc HB4.out.size (.cells #[.int .i64 ov.kind, .int .i64 ov.num, .string ov.name, .slice A1 0 k1] 26))
        have HK4a := Lib.hid (HK4.out.al (.cells #[.int .i64 ov.kind, .int .i64 ov.num, .string ov.name, .slice A1 0 k1] 26))
        have HV4 := Lib.hid (Bk.new w4 [.int .i64 ov.kind, .int .i64 ov.num, .string ov.name, .slice A1 0 k1] 26)
        have hcc : w4.alloc (.cells [.int .i64 ov.kind, .int .i64 ov.num, .string ov.name, .slice A1 0 k1].toArray 26) = w4.alloc (.cells #[.int .i64 ov.kind, .int .i64 ov.num, .string ov.name, .slice A1 0 k1] 26) := rfl
        rw [hcc] at HV4
        clear hcc
        go_wp2_with fail
        refine (HG2.out _).mono ?_; rintro e w5 ⟨A2, k2, rfl, hB5⟩
        have HB5 := Lib.hid (HB4a.out.trans (hB5.mono HB4a.out.size))
        have HK5 := Lib.hid (HK4a.out.call hB5)
        have HV5 := Lib.hid (HV4.out.call hB5)
        clear hB5 HB4 HK4 HB4a HK4a HV4 a0 a1 a2 a3 l0
        have HB5a := Lib.hid (HB5.out.alloc HB5.out.size (.cells #[.int .i64 ov.kind, .int .i64 ov.num, .string ov.name, .slice A2 0 k2] 26))
        have HK5a := Lib.hid (HK5.out.al (.cells #[.int .i64 ov.kind, .int .i64 ov.num, .string ov.name, .slice A2 0 k2] 26))
        have v0 := HV5.out.c 0 (.int .i64 ov.kind) rfl
        have v1 := HV5.out.c 1 (.int .i64 ov.num) rfl
        have v2 := HV5.out.c 2 (.string ov.name) rfl
        have v3 := HV5.out.c 3 (.slice A1 0 k1) rfl
        have lv := HV5.out.lt
        by_cases hd : d = 0
        · have HSN := Lib.hid (HSM.out · · · · · hd)
          subst hd
          clear HSM HZR
          go_wp2_with fail
          refine (HSN.out _ _ _ _ _).mono ?_; rintro e w6 ⟨rfl, hB6⟩
          have HB6 := Lib.hid (HB5a.out.trans (hB6.mono HB5a.out.size))
          have HK6 := Lib.hid (HK5a.out.call hB6)
          clear hB6 HB5 HK5 HV5 HB5a HK5a v0 v1 v2 v3 lv HSN
          have a0 := HK6.out.cell 1 0 (g := w.heap.size) (v := .int .i64 f.q) rfl rfl
          have a1 := HK6.out.cell 1 1 (g := w.heap.size) (v := .int .i64 f.u) rfl rfl
          have a2 := HK6.out.cell 1 2 (g := w.heap.size) (v := .bool f.c) rfl rfl
          have a3 := HK6.out.cell 1 3 (g := w.heap.size) (v := .bool f.d) rfl rfl
          have b0 := HK6.out.cell 0 0 (g := w.heap.size + 1) (v := .int .i64 t.kind) rfl rfl
          have b1 := HK6.out.cell 0 1 (g := w.heap.size + 1) (v := .int .i64 t.num) rfl rfl
          have b2 := HK6.out.cell 0 2 (g := w.heap.size + 1) (v := .string t.name) rfl rfl
          have b3 := HK6.out.cell 0 3 (g := w.heap.size + 1) (v := .slice TA t.args.length cap) rfl rfl
          have l0 := HK6.out.lt 1 (g := w.heap.size) rfl
          have l1 := HK6.out.lt 0 (g := w.heap.size + 1) rfl
          go_wp2_with fail
          refine (HS1.out _ HB6.out).mono ?_; rintro e w7 ⟨rfl, hB7⟩
          have HB7 := Lib.hid (HB6.out.trans (hB7.mono HB6.out.size))
          have HK7 := Lib.hid (HK6.out.call hB7)
          clear hB7 a0 a1 a2 a3 b0 b1 b2 b3 l0 l1
          have a0 := HK7.out.cell 1 0 (g := w.heap.size) (v := .int .i64 f.q) rfl rfl
          have a1 := HK7.out.cell 1 1 (g := w.heap.size) (v := .int .i64 f.u) rfl rfl
          have a2 := HK7.out.cell 1 2 (g := w.heap.size) (v := .bool f.c) rfl rfl
          have a3 := HK7.out.cell 1 3 (g := w.heap.size) (v := .bool f.d) rfl rfl
          have b0 := HK7.out.cell 0 0 (g := w.heap.size + 1) (v := .int .i64 t.kind) rfl rfl
          have b1 := HK7.out.cell 0 1 (g := w.heap.size + 1) (v := .int .i64 t.num) rfl rfl
          have b2 := HK7.out.cell 0 2 (g := w.heap.size + 1) (v := .string t.name) rfl rfl
          have b3 := HK7.out.cell 0 3 (g := w.heap.size + 1) (v := .slice TA t.args.length cap) rfl rfl
          have l0 := HK7.out.lt 1 (g := w.heap.size) rfl
          have l1 := HK7.out.lt 0 (g := w.heap.size + 1) rfl
          have HB7a := Lib.hid (HB7.out.alloc HB7.out.size (.cells #[.int .i64 g.q, .int .i64 g.u, .bool g.c, .bool g.d] 23))
          have HV7 := Lib.hid (Bk.new w7 [.int .i64 g.q, .int .i64 g.u, .bool g.c, .bool g.d] 23)
          have hcc : w7.alloc (.cells [.int .i64 g.q, .int .i64 g.u, .bool g.c, .bool g.d].toArray 23) = w7.alloc (.cells #[.int .i64 g.q, .int .i64 g.u, .bool g.c, .bool g.d] 23) := rfl
          rw [hcc] at HV7
          clear hcc
          go_wp2_with fail
          refine (HS2.out _ HB7a.out).mono ?_; rintro e w8 ⟨rfl, hB8⟩
          have HB8 := Lib.hid (HB7a.out.trans (hB8.mono HB7a.out.size))
          have HV8 := Lib.hid (HV7.out.call hB8)
          have HB8a := Lib.hid (HB8.out.alloc HB8.out.size (.cells #[.int .i64 g.q, .int .i64 g.u, .bool g.c, .bool g.d] 23))
          clear hB8 HB7 HK7 HB7a HV7 a0 a1 a2 a3 b0 b1 b2 b3 l0 l1
          have g0 := HV8.out.c 0 (.int .i64 g.q) rfl
          have g1 := HV8.out.c 1 (.int .i64 g.u) rfl
          have g2 := HV8.out.c 2 (.bool g.c) rfl
          have g3 := HV8.out.c 3 (.bool g.d) rfl
          have lg := HV8.out.lt
          go_wp2_with fail
          refine (law_example _).mono ?_; rintro e w9 ⟨rfl, hB9⟩
          have HB9 := Lib.hid (HB8a.out.trans (hB9.mono HB8a.out.size))
          go_wp2_with fail
          go_ret
          exact ⟨rfl, HB9.out⟩
        · have HZN := Lib.hid (HZR.out · · · hd)
          clear HSM HZR
          go_wp2_with fail
          refine (HZN.out _ _ _).mono ?_; rintro e w6 ⟨rfl, hB6⟩
          have HB6 := Lib.hid (HB5a.out.trans (hB6.mono HB5a.out.size))
          have HK6 := Lib.hid (HK5a.out.call hB6)
          clear hB6 HB5 HK5 HV5 HB5a HK5a v0 v1 v2 v3 lv HZN
          have a0 := HK6.out.cell 1 0 (g := w.heap.size) (v := .int .i64 f.q) rfl rfl
          have a1 := HK6.out.cell 1 1 (g := w.heap.size) (v := .int .i64 f.u) rfl rfl
          have a2 := HK6.out.cell 1 2 (g := w.heap.size) (v := .bool f.c) rfl rfl
          have a3 := HK6.out.cell 1 3 (g := w.heap.size) (v := .bool f.d) rfl rfl
          have b0 := HK6.out.cell 0 0 (g := w.heap.size + 1) (v := .int .i64 t.kind) rfl rfl
          have b1 := HK6.out.cell 0 1 (g := w.heap.size + 1) (v := .int .i64 t.num) rfl rfl
          have b2 := HK6.out.cell 0 2 (g := w.heap.size + 1) (v := .string t.name) rfl rfl
          have b3 := HK6.out.cell 0 3 (g := w.heap.size + 1) (v := .slice TA t.args.length cap) rfl rfl
          have l0 := HK6.out.lt 1 (g := w.heap.size) rfl
          have l1 := HK6.out.lt 0 (g := w.heap.size + 1) rfl
          go_wp2_with fail
          refine (HS1.out _ HB6.out).mono ?_; rintro e w7 ⟨rfl, hB7⟩
          have HB7 := Lib.hid (HB6.out.trans (hB7.mono HB6.out.size))
          have HK7 := Lib.hid (HK6.out.call hB7)
          clear hB7 a0 a1 a2 a3 b0 b1 b2 b3 l0 l1
          have a0 := HK7.out.cell 1 0 (g := w.heap.size) (v := .int .i64 f.q) rfl rfl
          have a1 := HK7.out.cell 1 1 (g := w.heap.size) (v := .int .i64 f.u) rfl rfl
          have a2 := HK7.out.cell 1 2 (g := w.heap.size) (v := .bool f.c) rfl rfl
          have a3 := HK7.out.cell 1 3 (g := w.heap.size) (v := .bool f.d) rfl rfl
          have b0 := HK7.out.cell 0 0 (g := w.heap.size + 1) (v := .int .i64 t.kind) rfl rfl
          have b1 := HK7.out.cell 0 1 (g := w.heap.size + 1) (v := .int .i64 t.num) rfl rfl
          have b2 := HK7.out.cell 0 2 (g := w.heap.size + 1) (v := .string t.name) rfl rfl
          have b3 := HK7.out.cell 0 3 (g := w.heap.size + 1) (v := .slice TA t.args.length cap) rfl rfl
          have l0 := HK7.out.lt 1 (g := w.heap.size) rfl
          have l1 := HK7.out.lt 0 (g := w.heap.size + 1) rfl
          have HB7a := Lib.hid (HB7.out.alloc HB7.out.size (.cells #[.int .i64 g.q, .int .i64 g.u, .bool g.c, .bool g.d] 23))
          have HV7 := Lib.hid (Bk.new w7 [.int .i64 g.q, .int .i64 g.u, .bool g.c, .bool g.d] 23)
          have hcc : w7.alloc (.cells [.int .i64 g.q, .int .i64 g.u, .bool g.c, .bool g.d].toArray 23) = w7.alloc (.cells #[.int .i64 g.q, .int .i64 g.u, .bool g.c, .bool g.d] 23) := rfl
          rw [hcc] at HV7
          clear hcc
          go_wp2_with fail
          refine (HS2.out _ HB7a.out).mono ?_; rintro e w8 ⟨rfl, hB8⟩
          have HB8 := Lib.hid (HB7a.out.trans (hB8.mono HB7a.out.size))
          have HV8 := Lib.hid (HV7.out.call hB8)
          have HB8a := Lib.hid (HB8.out.alloc HB8.out.size (.cells #[.int .i64 g.q, .int .i64 g.u, .bool g.c, .bool g.d] 23))
          clear hB8 HB7 HK7 HB7a HV7 a0 a1 a2 a3 b0 b1 b2 b3 l0 l1
          have g0 := HV8.out.c 0 (.int .i64 g.q) rfl
          have g1 := HV8.out.c 1 (.int .i64 g.u) rfl
          have g2 := HV8.out.c 2 (.bool g.c) rfl
          have g3 := HV8.out.c 3 (.bool g.d) rfl
          have lg := HV8.out.lt
          go_wp2_with fail
          refine (law_example _).mono ?_; rintro e w9 ⟨rfl, hB9⟩
          have HB9 := Lib.hid (HB8a.out.trans (hB9.mono HB8a.out.size))
          go_wp2_with fail
          go_ret
          exact ⟨rfl, HB9.out⟩
end Go.Proofs.YtfkhcpeahdkafaaGreat
