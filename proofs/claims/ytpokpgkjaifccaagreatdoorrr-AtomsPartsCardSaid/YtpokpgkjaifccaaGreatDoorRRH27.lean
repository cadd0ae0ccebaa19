/- Parts of the proof. -/
import Derived.Test.YtpokpgkjaifccaaGreatDoorRRH01
import Derived.Test.YtpokpgkjaifccaaGreatDoorRRH26
namespace Go.Proofs.YtpokpgkjaifccaaGreatDoorRR
open Go.RowKit Hb Go.Shelf
set_option maxRecDepth 100000
set_option linter.unusedSimpArgs false
set_option maxHeartbeats 1600000 in
theorem a_call (A : Option Addr) (c : Nat) (g : Tm) (w : World) (hD : DoorOk w) (hI : ∀ x ∈ g.args, I64 x.num) (hc : g.args.length ≤ c) (hT : TmsAt w.heap.size w A g.args) :
  Calls Tryz.prog 21 #[tmV g A c] w fun e w' => Below w.heap.size w w' ∧ RC w' e (callA g) := by
 have HVL0 := zq (fun W h => t_valid g A c W h)
 have HCN0 := zq (fun W h => t_canon g A c W h)
 have HSM0 := zq (fun W qa qc h h2 => t_same g (canT g) A qa c qc W h h2)
 obtain ⟨LA, HLA⟩ := lz (callA g)
 rw [← HLA.out]
 unfold tmV at *
 obtain ⟨na, HNA⟩ := lz (g.args.length)
 obtain ⟨k0, HK0⟩ := lz (g.kind)
 obtain ⟨n0, HN0⟩ := lz (g.num)
 obtain ⟨s0, HS0⟩ := lz (g.name)
 rw [← HNA.out, ← HK0.out, ← HN0.out, ← HS0.out] at HVL0 HCN0 HSM0 ⊢
 have HTA := zq hT
 have HDO := zq hD
 have HII := zq hI
 have HCA := zq hc
 clear hT hD hI hc
 obtain ⟨vb, HVB⟩ := lz (validT g)
 rw [← HVB.out] at HVL0
 obtain ⟨cv, HCV⟩ := lz (sameT g (canT g))
 rw [← HCV.out] at HSM0
 have HB1 : Hid (Below w.heap.size w ((((w.alloc (.cells #[.int .i64 k0, .int .i64 n0, .string s0, .slice A na c] 32)).alloc (.cells #[.slice none 0 0] 30)).alloc (.cells #[.int .i64 0, .int .i64 0, .string ⟨#[]⟩, .slice none 0 0] 32)).alloc (.cells #[.int .i64 0] 36))) := zq (((((Below.refl _ w).alloc (Nat.le_refl _) _).alloc (by simp) _).alloc (by simp; omega) _).alloc (by simp; omega) _)
 have HK1 : Hid (Bks ((((w.alloc (.cells #[.int .i64 k0, .int .i64 n0, .string s0, .slice A na c] 32)).alloc (.cells #[.slice none 0 0] 30)).alloc (.cells #[.int .i64 0, .int .i64 0, .string ⟨#[]⟩, .slice none 0 0] 32)).alloc (.cells #[.int .i64 0] 36)) [(w.heap.size + 1 + 1 + 1, [.int .i64 0]), (w.heap.size + 1 + 1, [.int .i64 0, .int .i64 0, .string ⟨#[]⟩, .slice none 0 0]), (w.heap.size + 1, [.slice none 0 0]), (w.heap.size, [.int .i64 k0, .int .i64 n0, .string s0, .slice A na c])]) := zq (((((Bks.nil w).new [.int .i64 k0, .int .i64 n0, .string s0, .slice A na c] 32 rfl).new [.slice none 0 0] 30 (by simp)).new [.int .i64 0, .int .i64 0, .string ⟨#[]⟩, .slice none 0 0] 32 (by simp)).new [.int .i64 0] 36 (by simp))
 go_enter_defers Tryz.func21, Tryz.ntmps21
 go_upto_region 1 with fail
 obtain ⟨w1, HW1⟩ := lz ((((w.alloc (.cells #[.int .i64 k0, .int .i64 n0, .string s0, .slice A na c] 32)).alloc (.cells #[.slice none 0 0] 30)).alloc (.cells #[.int .i64 0, .int .i64 0, .string ⟨#[]⟩, .slice none 0 0] 32)).alloc (.cells #[.int .i64 0] 36))
 rw [← HW1.out] at HB1 HK1 ⊢
 clear HW1
 have HVL : Hid (∀ W, Below w1.heap.size w1 W → Calls Tryz.prog 31 #[.agg #[.int .i64 k0, .int .i64 n0, .string s0, .slice A na c]] W fun e w' => e = .returned (.bool vb) ∧ Below W.heap.size W w') := zq fun W h => HVL0.out W ((HTA.out.keep (HB1.out.trans (h.mono HB1.out.size))).mono (HB1.out.trans (h.mono HB1.out.size)).size)
 have HCN : Hid (∀ W, Below w1.heap.size w1 W → Calls Tryz.prog 33 #[.agg #[.int .i64 k0, .int .i64 n0, .string s0, .slice A na c]] W fun e w' => ∃ a c, e = .returned (.agg #[.int .i64 (canT g).kind, .int .i64 (canT g).num, .string (canT g).name, .slice a (canT g).args.length c]) ∧ Below W.heap.size W w' ∧ NewT W w' a (canT g).args) := zq fun W h => HCN0.out W ((HTA.out.keep (HB1.out.trans (h.mono HB1.out.size))).mono (HB1.out.trans (h.mono HB1.out.size)).size)
 have HSM : Hid (∀ W qa qc, Below w1.heap.size w1 W → TmsAt W.heap.size W qa (canT g).args → Calls Tryz.prog 32 #[.agg #[.int .i64 k0, .int .i64 n0, .string s0, .slice A na c], .agg #[.int .i64 (canT g).kind, .int .i64 (canT g).num, .string (canT g).name, .slice qa (canT g).args.length qc]] W fun e w' => e = .returned (.bool cv) ∧ Below W.heap.size W w') := zq fun W qa qc h h2 => HSM0.out W qa qc ((HTA.out.keep (HB1.out.trans (h.mono HB1.out.size))).mono (HB1.out.trans (h.mono HB1.out.size)).size) h2
 clear HVL0 HCN0 HSM0
 cases vb
 ·have HE : Hid (LA = .err 1) := zq (by rw [HLA.out]; unfold callA canonA; rw [← HVB.out]; rfl)
  clear HLA HVB HCV HCN HSM HNA HK0 HN0 HS0
  refine region_own (w0 := w1) [rVal [] [0] (fun | [v] => v = .agg #[.int .i64 k0, .int .i64 n0, .string s0, .slice A na c] | _ => False),
    rVal [0] [1] (fun | [v] => v = .bool false | _ => False),
    rPure [0, 1] [2] (fun | [v] => v = .bool true | _ => False),
    rPure (List.range 3) [3] (fun | [v] => v = .bool true | _ => False),
    rVal (List.range 4) [4] (fun | [v] => v = undef | _ => False),
    rVal (List.range 4) [5] (fun | [v] => v = undef | _ => False),
    rVal [0, 1, 2, 3, 5] [6] (fun | [v] => v = undef | _ => False),
    rVal (List.range 7) [7] (fun | [v] => v = undef | _ => False),
    rPure (List.range 8) [8] (fun | [v] => v = undef | _ => False),
    rPure (List.range 9) [9] (fun | [v] => v = .bool true | _ => False)]
    [some 9, some 10, some 11, some 12, some 13, some 14, some 15, some 16, some 17, some 18] (fun _ => True) (w1.heap.size) (by kernel_rfl) (Nat.le_refl _) (by kernel_rfl) (by kernel_rfl) (by kernel_rfl) (fun j o ho => ?srv1) (fun val Y N hv HF => ?fin1)
  case srv1 =>
    have hlt : j < 10 := (Array.getElem?_eq_some_iff.1 ho).1
    rcases (show j = 0 ∨ j = 1 ∨ j = 2 ∨ j = 3 ∨ j = 4 ∨ j = 5 ∨ j = 6 ∨ j = 7 ∨ j = 8 ∨ j = 9 by omega) with rfl | rfl | rfl | rfl | rfl | rfl | rfl | rfl | rfl | rfl
    ·cases ho
     refine srv_val rfl rfl (fun _ _ _ => trivial) (fun val E X hE hB hA => ?_)
     have e1 := hE.t 1 (.pointer (some ⟨w.heap.size, 0, none⟩)) rfl
     have hb0 := (HK1.out.call hB).cell 3 0 rfl rfl
     have hb1 := (HK1.out.call hB).cell 3 1 rfl rfl
     have hb2 := (HK1.out.call hB).cell 3 2 rfl rfl
     have hb3 := (HK1.out.call hB).cell 3 3 rfl rfl
     exact ⟨.agg #[.int .i64 k0, .int .i64 n0, .string s0, .slice A na c], by simp [execOp, go_sem, e1, hb0, hb1, hb2, hb3], rfl⟩
    ·cases ho
     refine srv_calV rfl rfl (fun _ _ _ => trivial) (fun val E X hE hB hA => ?_)
     have e9 := hE.t 9 (val 0) rfl
     have h0 : val 0 = .agg #[.int .i64 k0, .int .i64 n0, .string s0, .slice A na c] := hA 0 (oz rfl)
     exact ⟨_, _, _, by simp [execOp, go_sem, hE.f, e9, h0] <;> rfl, HVL.out X hB, rfl⟩
    ·cases ho
     refine srv_pure rfl rfl (fun val E hE hA => ?_)
     have e10 := hE.t 10 (val 1) rfl
     have h1 : val 1 = .bool false := hA 1 (oz rfl)
     exact ⟨.bool true, fun X => by simp [execOp, go_sem, e10, h1], rfl⟩
    ·cases ho
     refine srv_pure rfl rfl (fun val E hE hA => ?_)
     have e11 := hE.t 11 (val 2) rfl
     have h2 : val 2 = .bool true := hA 2 (oz rfl)
     exact ⟨.bool true, fun X => by simp [execOp, go_sem, e11, h2], rfl⟩
    ·cases ho
     exact srv_valG true rfl rfl (fun _ _ _ => trivial) (fun val hA => hA 3 (oz rfl)) (fun h => by cases h) fun _ val hA => rfl
    ·cases ho
     exact srv_valG true rfl rfl (fun _ _ _ => trivial) (fun val hA => hA 3 (oz rfl)) (fun h => by cases h) fun _ val hA => rfl
    ·cases ho
     exact srv_calVG true rfl rfl (fun _ _ _ => trivial) (fun val hA => hA 3 (oz rfl)) (fun h => by cases h) fun _ val hA => rfl
    ·cases ho
     exact srv_calVG true rfl rfl (fun _ _ _ => trivial) (fun val hA => hA 3 (oz rfl)) (fun h => by cases h) fun _ val hA => rfl
    ·cases ho
     exact srv_pureG true rfl rfl (fun val hA => hA 3 (oz rfl)) (fun h => by cases h) fun _ val hA => rfl
    ·cases ho
     refine srv_pure rfl rfl (fun val E hE hA => ?_)
     have e12 := hE.t 12 (val 3) rfl
     have h3 : val 3 = .bool true := hA 3 (oz rfl)
     have e17 := hE.t 17 (val 8) rfl
     have h8 : val 8 = undef := hA 8 (oz rfl)
     exact ⟨.bool true, fun X => by simp [execOp, go_sem, hE.c, e12, h3, e17, h8], rfl⟩
  case fin1 =>
   have h0 : val 0 = .agg #[.int .i64 k0, .int .i64 n0, .string s0, .slice A na c] := hv 0 (by decide)
   have h1 : val 1 = .bool false := hv 1 (by decide)
   have h2 : val 2 = .bool true := hv 2 (by decide)
   have h3 : val 3 = .bool true := hv 3 (by decide)
   have h4 : val 4 = undef := hv 4 (by decide)
   have h5 : val 5 = undef := hv 5 (by decide)
   have h6 : val 6 = undef := hv 6 (by decide)
   have h7 : val 7 = undef := hv 7 (by decide)
   have h8 : val 8 = undef := hv 8 (by decide)
   have h9 : val 9 = .bool true := hv 9 (by decide)
   simp only [fillD, List.set_cons_zero, List.set_cons_succ, Nat.reduceAdd, Nat.zero_add, h0, h1, h2, h3, h4, h5, h6, h7, h8, h9]
   have HB2 := zq (HB1.out.trans (HF.bel.mono HB1.out.size))
   have HK2 := zq (HK1.out.call HF.bel)
   clear hv h0 h1 h2 h3 h4 h5 h6 h7 h8 h9 HF HB1 HK1
   have cc := HK2.out.all
   simp only [bksAll, bkAll, Nat.zero_add, Nat.reduceAdd, and_true] at cc
   go_wp2_with fail
   obtain ⟨wz, HWZ, hbz, hkz, hlz, hoz, hsz⟩ := boxes_put HB2.out HK2.out (Nat.le_refl _) (.slice none 0 0) (.int .i64 0) (.int .i64 0) (.string ⟨#[]⟩) (.slice none 0 0) (.int .i64 1)
   rw [← HWZ]
   have HKZ := zq hkz
   have HBZ := zq hbz
   clear HWZ hkz hbz hlz hoz hsz cc
   have cz := HKZ.out.all
   simp only [bksAll, bkAll, Nat.zero_add, Nat.reduceAdd, and_true] at cz
   refine ⟨.tuple #[.slice none 0 0, .agg #[.int .i64 0, .int .i64 0, .string ⟨#[]⟩, .slice none 0 0], .int .i64 1], by simp [results, Tryz.results21, go_sem, cz], HBZ.out, by rw [HE.out]; rfl⟩
 refine region_own (w0 := w1) [rVal [] [0] (fun | [v] => v = .agg #[.int .i64 k0, .int .i64 n0, .string s0, .slice A na c] | _ => False),
   rVal [0] [1] (fun | [v] => v = .bool true | _ => False),
   rPure [0, 1] [2] (fun | [v] => v = .bool false | _ => False),
   rPure (List.range 3) [3] (fun | [v] => v = .bool false | _ => False),
   rVal (List.range 4) [4] (fun | [v] => v = .agg #[.int .i64 k0, .int .i64 n0, .string s0, .slice A na c] | _ => False),
   rVal (List.range 4) [5] (fun | [v] => v = .agg #[.int .i64 k0, .int .i64 n0, .string s0, .slice A na c] | _ => False),
   rTm [0, 1, 2, 3, 5] 6 w1.heap.size (canT g),
   rVal (List.range 7) [7] (fun | [v] => v = .bool cv | _ => False),
   rPure (List.range 8) [8] (fun | [v] => v = .bool (!cv) | _ => False),
   rPure (List.range 9) [9] (fun | [v] => v = .bool (!cv) | _ => False)]
   [some 9, some 10, some 11, some 12, some 13, some 14, some 15, some 16, some 17, some 18] (fun _ => True) (w1.heap.size) (by kernel_rfl) (Nat.le_refl _) (by kernel_rfl) (by kernel_rfl) (by kernel_rfl) (fun j o ho => ?srv1) (fun val Y N hv HF => ?fin1)
 case srv1 =>
   have hlt : j < 10 := (Array.getElem?_eq_some_iff.1 ho).1
   rcases (show j = 0 ∨ j = 1 ∨ j = 2 ∨ j = 3 ∨ j = 4 ∨ j = 5 ∨ j = 6 ∨ j = 7 ∨ j = 8 ∨ j = 9 by omega) with rfl | rfl | rfl | rfl | rfl | rfl | rfl | rfl | rfl | rfl
   ·cases ho
    refine srv_val rfl rfl (fun _ _ _ => trivial) (fun val E X hE hB hA => ?_)
    have e1 := hE.t 1 (.pointer (some ⟨w.heap.size, 0, none⟩)) rfl
    have hb0 := (HK1.out.call hB).cell 3 0 rfl rfl
    have hb1 := (HK1.out.call hB).cell 3 1 rfl rfl
    have hb2 := (HK1.out.call hB).cell 3 2 rfl rfl
    have hb3 := (HK1.out.call hB).cell 3 3 rfl rfl
    exact ⟨.agg #[.int .i64 k0, .int .i64 n0, .string s0, .slice A na c], by simp [execOp, go_sem, e1, hb0, hb1, hb2, hb3], rfl⟩
   ·cases ho
    refine srv_calV rfl rfl (fun _ _ _ => trivial) (fun val E X hE hB hA => ?_)
    have e9 := hE.t 9 (val 0) rfl
    have h0 : val 0 = .agg #[.int .i64 k0, .int .i64 n0, .string s0, .slice A na c] := hA 0 (oz rfl)
    exact ⟨_, _, _, by simp [execOp, go_sem, hE.f, e9, h0] <;> rfl, HVL.out X hB, rfl⟩
   ·cases ho
    refine srv_pure rfl rfl (fun val E hE hA => ?_)
    have e10 := hE.t 10 (val 1) rfl
    have h1 : val 1 = .bool true := hA 1 (oz rfl)
    exact ⟨.bool false, fun X => by simp [execOp, go_sem, e10, h1], rfl⟩
   ·cases ho
    refine srv_pure rfl rfl (fun val E hE hA => ?_)
    have e11 := hE.t 11 (val 2) rfl
    have h2 : val 2 = .bool false := hA 2 (oz rfl)
    exact ⟨.bool false, fun X => by simp [execOp, go_sem, e11, h2], rfl⟩
   ·cases ho
    refine srv_valG (false) rfl rfl (fun _ _ _ => trivial) (fun val hA => hA 3 (oz rfl)) (fun _ val E X hE hB hA => ?_) (fun h => absurd rfl h)
    have e1 := hE.t 1 (.pointer (some ⟨w.heap.size, 0, none⟩)) rfl
    have hb0 := (HK1.out.call hB).cell 3 0 rfl rfl
    have hb1 := (HK1.out.call hB).cell 3 1 rfl rfl
    have hb2 := (HK1.out.call hB).cell 3 2 rfl rfl
    have hb3 := (HK1.out.call hB).cell 3 3 rfl rfl
    exact ⟨.agg #[.int .i64 k0, .int .i64 n0, .string s0, .slice A na c], by simp [execOp, go_sem, e1, hb0, hb1, hb2, hb3], rfl⟩
   ·cases ho
    refine srv_valG (false) rfl rfl (fun _ _ _ => trivial) (fun val hA => hA 3 (oz rfl)) (fun _ val E X hE hB hA => ?_) (fun h => absurd rfl h)
    have e1 := hE.t 1 (.pointer (some ⟨w.heap.size, 0, none⟩)) rfl
    have hb0 := (HK1.out.call hB).cell 3 0 rfl rfl
    have hb1 := (HK1.out.call hB).cell 3 1 rfl rfl
    have hb2 := (HK1.out.call hB).cell 3 2 rfl rfl
    have hb3 := (HK1.out.call hB).cell 3 3 rfl rfl
    exact ⟨.agg #[.int .i64 k0, .int .i64 n0, .string s0, .slice A na c], by simp [execOp, go_sem, e1, hb0, hb1, hb2, hb3], rfl⟩
   ·cases ho
    refine srv_calG rfl rfl (fun val hA => hA 3 (oz rfl)) fun val E X N hE hC hA hc => ?_
    have e14 := hE.t 14 (val 5) rfl
    have h5 : val 5 = .agg #[.int .i64 k0, .int .i64 n0, .string s0, .slice A na c] := hA 5 (oz rfl)
    exact ⟨_, _, by simp [execOp, go_sem, hE.f, e14, h5] <;> rfl, (HCN.out X hC.bel).mono fun e w' h => by
     obtain ⟨a, c, he, hB, hN⟩ := h
     exact ⟨_, he, hB, ⟨a, c, rfl⟩, fun N' _ h2 => ⟨a, c, rfl, hN.keep (fun _ _ => rfl) (fun b hb => ⟨h2 b hb.1 hb.2, Nat.le_trans hC.bel.size hb.1⟩)⟩⟩⟩
   ·cases ho
    refine srv_calG rfl rfl (fun val hA => hA 3 (oz rfl)) fun val E X N hE hC hA hc => ?_
    have e13 := hE.t 13 (val 4) rfl
    have h4 : val 4 = .agg #[.int .i64 k0, .int .i64 n0, .string s0, .slice A na c] := hA 4 (oz rfl)
    obtain ⟨qa, qc, h6, ht⟩ : ∃ a c, val 6 = .agg #[.int .i64 (canT g).kind, .int .i64 (canT g).num, .string (canT g).name, .slice a (canT g).args.length c] ∧ TmsK (fun b => N b ∧ w1.heap.size ≤ b) X a (canT g).args := hc 6 (oz rfl) rfl
    have e15 := hE.t 15 (val 6) rfl
    exact ⟨_, _, by simp [execOp, go_sem, hE.f, e13, h4, e15, h6] <;> rfl, (HSM.out X qa qc hC.bel (ht.keep (fun _ _ => rfl) (fun b hb => hC.lt b hb.1))).mono fun e w' h => ⟨_, h.1, h.2, rfl, fun _ _ _ => trivial⟩⟩
   ·cases ho
    refine srv_pureG (false) rfl rfl (fun val hA => hA 3 (oz rfl)) (fun _ val E hE hA => ?_) (fun h => absurd rfl h)
    have e16 := hE.t 16 (val 7) rfl
    have h7 : val 7 = .bool cv := hA 7 (oz rfl)
    exact ⟨.bool (!cv), fun X => by simp [execOp, go_sem, e16, h7], rfl⟩
   ·cases ho
    refine srv_pure rfl rfl (fun val E hE hA => ?_)
    have e12 := hE.t 12 (val 3) rfl
    have h3 : val 3 = .bool false := hA 3 (oz rfl)
    have e17 := hE.t 17 (val 8) rfl
    have h8 : val 8 = .bool (!cv) := hA 8 (oz rfl)
    exact ⟨.bool (!cv), fun X => by simp [execOp, go_sem, hE.c, e12, h3, e17, h8], rfl⟩
 case fin1 =>
  have h0 : val 0 = .agg #[.int .i64 k0, .int .i64 n0, .string s0, .slice A na c] := hv 0 (by decide)
  have h1 : val 1 = .bool true := hv 1 (by decide)
  have h2 : val 2 = .bool false := hv 2 (by decide)
  have h3 : val 3 = .bool false := hv 3 (by decide)
  have h4 : val 4 = .agg #[.int .i64 k0, .int .i64 n0, .string s0, .slice A na c] := hv 4 (by decide)
  have h5 : val 5 = .agg #[.int .i64 k0, .int .i64 n0, .string s0, .slice A na c] := hv 5 (by decide)
  obtain ⟨_, _, h6⟩ : ∃ a c, val 6 = .agg #[.int .i64 (canT g).kind, .int .i64 (canT g).num, .string (canT g).name, .slice a (canT g).args.length c] := hv 6 (by decide)
  have h7 : val 7 = .bool cv := hv 7 (by decide)
  have h8 : val 8 = .bool (!cv) := hv 8 (by decide)
  have h9 : val 9 = .bool (!cv) := hv 9 (by decide)
  simp only [fillD, List.set_cons_zero, List.set_cons_succ, Nat.reduceAdd, Nat.zero_add, h0, h1, h2, h3, h4, h5, h6, h7, h8, h9]
  have HB2 := zq (HB1.out.trans (HF.bel.mono HB1.out.size))
  have HK2 := zq (HK1.out.call HF.bel)
  clear hv h0 h1 h2 h3 h4 h5 h6 h7 h8 h9 HF HB1 HK1 HVL HCN HSM
  have cc := HK2.out.all
  simp only [bksAll, bkAll, Nat.zero_add, Nat.reduceAdd, and_true] at cc
  cases cv
  ·have HE : Hid (LA = .err 1) := zq (by rw [HLA.out]; unfold callA canonA; rw [← HVB.out, ← HCV.out]; rfl)
   clear HLA HVB HCV HNA HK0 HN0 HS0
   go_wp2_with fail
   obtain ⟨wz, HWZ, hbz, hkz, hlz, hoz, hsz⟩ := boxes_put HB2.out HK2.out (Nat.le_refl _) (.slice none 0 0) (.int .i64 0) (.int .i64 0) (.string ⟨#[]⟩) (.slice none 0 0) (.int .i64 1)
   rw [← HWZ]
   have HKZ := zq hkz
   have HBZ := zq hbz
   clear HWZ hkz hbz hlz hoz hsz cc
   have cz := HKZ.out.all
   simp only [bksAll, bkAll, Nat.zero_add, Nat.reduceAdd, and_true] at cz
   refine ⟨.tuple #[.slice none 0 0, .agg #[.int .i64 0, .int .i64 0, .string ⟨#[]⟩, .slice none 0 0], .int .i64 1], by simp [results, Tryz.results21, go_sem, cz], HBZ.out, by rw [HE.out]; rfl⟩
  have HL1 : Hid (LA = if ¬ k0 = 3 then .err 4 else ansA s0 (predA s0 g.args)) := zq (by rw [HLA.out]; unfold callA canonA; rw [← HVB.out, ← HCV.out, HK0.out, HS0.out]; rfl)
  have HVG : Hid (validT g = true) := zq HVB.out.symm
  have HSS : Hid (s0.size ≤ 100) := zq (by rw [HS0.out]; exact name_small HVG.out)
  clear HLA HVB HCV
  by_cases hk3 : k0 = 3
  rotate_left
  ·have HE : Hid (LA = .err 4) := zq (by rw [HL1.out, if_pos hk3])
   have hk4 : (k0 == 3) = false := by simpa using hk3
   clear HL1 HNA HK0 HN0 HS0
   go_wp2_with fail
   obtain ⟨wz, HWZ, hbz, hkz, hlz, hoz, hsz⟩ := boxes_put HB2.out HK2.out (Nat.le_refl _) (.slice none 0 0) (.int .i64 0) (.int .i64 0) (.string ⟨#[]⟩) (.slice none 0 0) (.int .i64 4)
   rw [← HWZ]
   have HKZ := zq hkz
   have HBZ := zq hbz
   clear HWZ hkz hbz hlz hoz hsz cc
   have cz := HKZ.out.all
   simp only [bksAll, bkAll, Nat.zero_add, Nat.reduceAdd, and_true] at cz
   refine ⟨.tuple #[.slice none 0 0, .agg #[.int .i64 0, .int .i64 0, .string ⟨#[]⟩, .slice none 0 0], .int .i64 4], by simp [results, Tryz.results21, go_sem, cz], HBZ.out, by rw [HE.out]; rfl⟩
  have HL2 : Hid (LA = ansA s0 (predA s0 g.args)) := zq (by rw [HL1.out, if_neg (by simpa using hk3)])
  clear HL1
  subst hk3
  obtain ⟨fo, HFO⟩ := lz (findA s0 (na : Int))
  have HHA : Hid (∀ W, Calls Tryz.prog 10 #[.string s0, .int .i64 na] W fun e w' => e = .returned (.bool fo.isSome) ∧ Below W.heap.size W w') := zq fun W => by rw [HFO.out]; exact a_Has s0 na (by have := HSS.out; unfold maxLen; omega) W
  have HFI : Hid (∀ W, Calls Tryz.prog 26 #[.string s0, .int .i64 na] W fun e w' => e = .returned (fnV fo) ∧ Below W.heap.size W w') := zq fun W => by rw [HFO.out]; exact a_find s0 na (by have := HSS.out; unfold maxLen; omega) W
  cases fo with
  | none =>
   have HE : Hid (LA = .err 4) := zq (by rw [HL2.out, pred_none s0 g.args (by rw [← HNA.out]; exact HFO.out.symm)]; rfl)
   clear HL2 HNA HK0 HN0 HS0 HFO HFI
   go_wp2_with fail
   refine (HHA.out _).mono ?_; rintro e w3 ⟨rfl, hB⟩
   have HB3 := bz HB2 hB
   have HK3 := zq (HK2.out.call hB)
   clear hB HB2 HK2 cc
   have cc := HK3.out.all
   simp only [bksAll, bkAll, Nat.zero_add, Nat.reduceAdd, and_true] at cc
   go_wp2_with fail
   obtain ⟨wz, HWZ, hbz, hkz, hlz, hoz, hsz⟩ := boxes_put HB3.out HK3.out (Nat.le_refl _) (.slice none 0 0) (.int .i64 0) (.int .i64 0) (.string ⟨#[]⟩) (.slice none 0 0) (.int .i64 4)
   rw [← HWZ]
   have HKZ := zq hkz
   have HBZ := zq hbz
   clear HWZ hkz hbz hlz hoz hsz cc
   have cz := HKZ.out.all
   simp only [bksAll, bkAll, Nat.zero_add, Nat.reduceAdd, and_true] at cz
   refine ⟨.tuple #[.slice none 0 0, .agg #[.int .i64 0, .int .i64 0, .string ⟨#[]⟩, .slice none 0 0], .int .i64 4], by simp [results, Tryz.results21, go_sem, cz], HBZ.out, by rw [HE.out]; rfl⟩
  | some f =>
   have HPR : Hid (∃ ra, predA s0 g.args = some ra ∧ ∀ W, Below w.heap.size w W → Calls Tryz.prog f #[.slice A na c] W fun e w' => Below W.heap.size W w' ∧ RAns w' e ra) := zq (by
    have h0 : 0 < g.args.length := by
     have h := HFO.out
     rw [HNA.out] at h
     unfold findA at h
     by_cases h2 : (g.args.length : Int) = 2
     ·omega
     rw [if_neg h2] at h
     by_cases h3 : (g.args.length : Int) = 3
     ·omega
     rw [if_neg h3] at h
     by_cases h5 : (g.args.length : Int) = 5
     ·omega
     rw [if_neg h5] at h; cases h
    obtain ⟨b, off, rs, rfl, hrs, hAA⟩ := HTA.out.args h0
    have hv : ∀ r ∈ rs, validT r.1 = true := fun r hr => by
     have hm : r.1 ∈ g.args := by rw [← hrs]; exact List.mem_map_of_mem hr
     obtain ⟨j, hj, e⟩ := List.getElem_of_mem hm
     rw [← e]; exact validT_arg HVG.out j hj
    have hn : ∀ r ∈ rs, I64 r.1.num := fun r hr => HII.out r.1 (by rw [← hrs]; exact List.mem_map_of_mem hr)
    have key : ∀ W, Below w.heap.size w W → ∃ ra, predA s0 g.args = some ra ∧ Calls Tryz.prog f #[.slice (some ⟨b, off, none⟩) na c] W fun e w' => Below W.heap.size W w' ∧ RAns w' e ra := fun W hW => by
     have := a_pred s0 f b off c rs W (by rw [hrs, ← HNA.out]; exact HFO.out.symm) hv hn (HDO.out.below hW) (by rw [hrs]; exact HCA.out) (hAA.keep hW)
     rw [hrs, ← HNA.out] at this
     exact this
    obtain ⟨ra, h1, _⟩ := key w (Below.refl _ _)
    refine ⟨ra, h1, fun W hW => ?_⟩
    obtain ⟨ra2, h2, h3⟩ := key W hW
    rw [h1] at h2; cases h2
    exact h3)
   obtain ⟨ra, hra, hpr⟩ := HPR.out
   have HPC := zq hpr
   have HPW := zq (pred_rows hra)
   have HL3 : Hid (LA = ansA s0 (some ra)) := zq (by rw [HL2.out, hra])
   have HEN := zq (find_enters HFO.out.symm)
   have HNP : Hid (0 < na) := zq (by
    have h := HFO.out
    unfold findA at h
    by_cases h2 : (na : Int) = 2
    ·omega
    rw [if_neg h2] at h
    by_cases h3 : (na : Int) = 3
    ·omega
    rw [if_neg h3] at h
    by_cases h5 : (na : Int) = 5
    ·omega
    rw [if_neg h5] at h; cases h)
   clear hra hpr HPR HL2 HK0 HN0 HS0 HFO HII HVG HTA HDO HCA
   unfold fnV at HFI
   have hmf : ∀ (fn : Fn) (first cap : Array Value) (w : World), (Instr.makeFunc fn first cap).run Tryz.prog w = .ok (.func fn first cap) w := fun _ _ _ _ => rfl
   go_wp2_with fail
   refine (HHA.out _).mono ?_; rintro e w3 ⟨rfl, hB⟩
   have HB3 := bz HB2 hB
   have HK3 := zq (HK2.out.call hB)
   clear hB HB2 HK2 cc HHA
   have cc := HK3.out.all
   simp only [bksAll, bkAll, Nat.zero_add, Nat.reduceAdd, and_true] at cc
   go_wp2_with fail
   rename_i K9 hK9
   refine region_pre (m := 8) (w0 := w3) [rPure [] [0] (fun | [v] => v = .pointer (some ⟨w.heap.size, 2, none⟩) | _ => False),
     rVal [0] [1] (fun | [v] => v = .string s0 | _ => False),
     rPure [] [2] (fun | [v] => v = .pointer (some ⟨w.heap.size, 3, none⟩) | _ => False),
     rVal [2] [3] (fun | [v] => v = .slice A na c | _ => False),
     rPure [2, 3] [4] (fun | [v] => v = .int .i64 na | _ => False),
     rVal (List.range 5) [5] (fun | [v] => v = .func (.func f) #[] #[] | _ => False),
     rPure [] [6] (fun | [v] => v = .pointer (some ⟨w.heap.size, 3, none⟩) | _ => False),
     rVal [6] [7] (fun | [v] => v = .slice A na c | _ => False)]
     [some 34, some 35, some 36, some 37, some 38, some 39, some 40, some 41] (fun _ => True) (w3.heap.size) (by kernel_rfl) (by kernel_rfl) (Nat.le_refl _) (by kernel_rfl) (by kernel_rfl) (by kernel_rfl) (fun j o ho => ?srv6) (fun val Y N hv HF => ?fin6)
   case srv6 =>
     have hlt : j < 8 := (Array.getElem?_eq_some_iff.1 ho).1
     rcases (show j = 0 ∨ j = 1 ∨ j = 2 ∨ j = 3 ∨ j = 4 ∨ j = 5 ∨ j = 6 ∨ j = 7 by omega) with rfl | rfl | rfl | rfl | rfl | rfl | rfl | rfl
     ·cases ho
      refine srv_pure rfl rfl (fun val E hE hA => ?_)
      have e1 := hE.t 1 (.pointer (some ⟨w.heap.size, 0, none⟩)) rfl
      exact ⟨.pointer (some ⟨w.heap.size, 2, none⟩), fun X => by simp [execOp, go_sem, e1], rfl⟩
     ·cases ho
      refine srv_val rfl rfl (fun _ _ _ => trivial) (fun val E X hE hB hA => ?_)
      have e34 := hE.t 34 (val 0) rfl
      have h0 : val 0 = .pointer (some ⟨w.heap.size, 2, none⟩) := hA 0 (oz rfl)
      have hb2 := (HK3.out.call hB).cell 3 2 rfl rfl
      exact ⟨.string s0, by simp [execOp, go_sem, e34, h0, hb2], rfl⟩
     ·cases ho
      refine srv_pure rfl rfl (fun val E hE hA => ?_)
      have e1 := hE.t 1 (.pointer (some ⟨w.heap.size, 0, none⟩)) rfl
      exact ⟨.pointer (some ⟨w.heap.size, 3, none⟩), fun X => by simp [execOp, go_sem, e1], rfl⟩
     ·cases ho
      refine srv_val rfl rfl (fun _ _ _ => trivial) (fun val E X hE hB hA => ?_)
      have e36 := hE.t 36 (val 2) rfl
      have h2 : val 2 = .pointer (some ⟨w.heap.size, 3, none⟩) := hA 2 (oz rfl)
      have hb3 := (HK3.out.call hB).cell 3 3 rfl rfl
      exact ⟨.slice A na c, by simp [execOp, go_sem, e36, h2, hb3], rfl⟩
     ·cases ho
      refine srv_pure rfl rfl (fun val E hE hA => ?_)
      have e37 := hE.t 37 (val 3) rfl
      have h3 : val 3 = .slice A na c := hA 3 (oz rfl)
      exact ⟨.int .i64 na, fun X => by simp [execOp, go_sem, e37, h3], rfl⟩
     ·cases ho
      refine srv_calV rfl rfl (fun _ _ _ => trivial) (fun val E X hE hB hA => ?_)
      have e35 := hE.t 35 (val 1) rfl
      have h1 : val 1 = .string s0 := hA 1 (oz rfl)
      have e38 := hE.t 38 (val 4) rfl
      have h4 : val 4 = .int .i64 na := hA 4 (oz rfl)
      exact ⟨_, _, _, by simp [execOp, go_sem, hE.f, e35, h1, e38, h4] <;> rfl, HFI.out X, rfl⟩
     ·cases ho
      refine srv_pure rfl rfl (fun val E hE hA => ?_)
      have e1 := hE.t 1 (.pointer (some ⟨w.heap.size, 0, none⟩)) rfl
      exact ⟨.pointer (some ⟨w.heap.size, 3, none⟩), fun X => by simp [execOp, go_sem, e1], rfl⟩
     ·cases ho
      refine srv_val rfl rfl (fun _ _ _ => trivial) (fun val E X hE hB hA => ?_)
      have e40 := hE.t 40 (val 6) rfl
      have h6 : val 6 = .pointer (some ⟨w.heap.size, 3, none⟩) := hA 6 (oz rfl)
      have hb3 := (HK3.out.call hB).cell 3 3 rfl rfl
      exact ⟨.slice A na c, by simp [execOp, go_sem, e40, h6, hb3], rfl⟩
   case fin6 =>
    have h0 : val 0 = .pointer (some ⟨w.heap.size, 2, none⟩) := hv 0 (by decide)
    have h1 : val 1 = .string s0 := hv 1 (by decide)
    have h2 : val 2 = .pointer (some ⟨w.heap.size, 3, none⟩) := hv 2 (by decide)
    have h3 : val 3 = .slice A na c := hv 3 (by decide)
    have h4 : val 4 = .int .i64 na := hv 4 (by decide)
    have h5 : val 5 = .func (.func f) #[] #[] := hv 5 (by decide)
    have h6 : val 6 = .pointer (some ⟨w.heap.size, 3, none⟩) := hv 6 (by decide)
    have h7 : val 7 = .slice A na c := hv 7 (by decide)
    simp only [fillD, List.set_cons_zero, List.set_cons_succ, Nat.reduceAdd, Nat.zero_add, h0, h1, h2, h3, h4, h5, h6, h7]
    have HB4 := zq (HB3.out.trans (HF.bel.mono HB3.out.size))
    have HK4 := zq (HK3.out.call HF.bel)
    clear hv h0 h1 h2 h3 h4 h5 h6 h7 HF HB3 HK3 cc HFI
    change wpAny _ _ _ _ 2 _ _ _
    refine wpAny_one (k := 1) (i := 8) (by kernel_rfl) rfl rfl (wp_calE (f := f) (args := #[.slice A na c]) (by simp [execOp, go_sem, HEN.out]) ?_)
    refine (HPC.out _ HB4.out).mono ?_; rintro e w5 ⟨hB, hr⟩
    cases ra with
    | ball b =>
     obtain ⟨BA, bc, rfl, hbt⟩ := hr
     have HE : Hid (LA = .ball b) := HL3
     have HB5 := bz HB4 hB
     have HK5 := zq (HK4.out.call hB)
     have HBT := zq hbt
     clear hbt hB HB4 HK4 HL3 HPW HPC HNA HNP hK9
     refine .inr ⟨_, rfl, ?_⟩
     have k2 : Bk w5 (w.heap.size + 1) [.slice none 0 0] := HK5.out.at 2 _ _ rfl
     have k3 : Bk w5 (w.heap.size + 1 + 1) [.int .i64 0, .int .i64 0, .string ⟨#[]⟩, .slice none 0 0] := HK5.out.at 1 _ _ rfl
     have k4 : Bk w5 (w.heap.size + 1 + 1 + 1) [.int .i64 0] := HK5.out.at 0 _ _ rfl
     have n23 : w.heap.size + 1 ≠ w.heap.size + 1 + 1 := Nat.ne_of_lt (Nat.lt_succ_self _)
     have n34 : w.heap.size + 1 + 1 ≠ w.heap.size + 1 + 1 + 1 := Nat.ne_of_lt (Nat.lt_succ_self _)
     have n24 : w.heap.size + 1 ≠ w.heap.size + 1 + 1 + 1 := Nat.ne_of_lt (Nat.lt_succ_of_lt (Nat.lt_succ_self _))
     obtain ⟨e2, j2⟩ := k2
     obtain ⟨e3, j3⟩ := k3
     obtain ⟨e4, j4⟩ := k4
     show bodyPostD _ _ _ (.panic _) _ _
     refine leaves_cons (f := 34) (args := #[.pointer (some ⟨w.heap.size + 1, 0, none⟩), .pointer (some ⟨w.heap.size + 1 + 1, 0, none⟩), .pointer (some ⟨w.heap.size + 1 + 1 + 1, 0, none⟩)]) (by simp) (by simp [go_sem]) ?_
     refine (catch_ball _ _ _ b.kind b.num b.name BA b.args.length bc w5 e2 e3 e4 j2 j3 j4 n23 n24 n34).mono ?_
     rintro e u' wq ⟨rfl, rfl, hwq⟩
     obtain ⟨q2, q3, q4, hx⟩ := catch_boxes ⟨e2, j2⟩ ⟨e3, j3⟩ ⟨e4, j4⟩ n23 n24 n34 hwq
     clear hwq
     have HBQ : Hid (Below w.heap.size w wq) := zq (hx.cons HB5.out HB5.out.size (Nat.le_succ _) (Nat.le_succ_of_le (Nat.le_succ _)) (Nat.le_succ_of_le (Nat.le_succ_of_le (Nat.le_succ _))))
     have HTQ : Hid (NoV b.args → TmsAt wq.heap.size wq BA b.args) := zq fun hn => by
      have h1 := TmsK.off ⟨e4, j4⟩ (TmsK.off ⟨e2, j2⟩ HBT.out)
      exact (TmsK.offZ ⟨e3, j3⟩ (fun s' h => by cases h) h1 hn).keep (fun b hb => hx.block b hb.1.1.1 hb.1.1.2 hb.2 hb.1.2) (fun b hb => Nat.lt_of_lt_of_le hb.1.1.1 hx.size)
     have c20 := q2.c 0 _ rfl
     have c30 := q3.c 0 _ rfl
     have c31 := q3.c 1 _ rfl
     have c32 := q3.c 2 _ rfl
     have c33 := q3.c 3 _ rfl
     have c40 := q4.c 0 _ rfl
     exact ⟨.tuple #[.slice none 0 0, .agg #[.int .i64 b.kind, .int .i64 b.num, .string b.name, .slice BA b.args.length bc], .int .i64 8], by simp [results, Tryz.results21, go_sem, c20, c30, c31, c32, c33, c40], HBQ.out, by rw [HE.out]; exact ⟨BA, bc, rfl, HTQ.out⟩⟩
    | ok rows =>
     obtain ⟨RA, rc, rfl, hrow⟩ := hr
     have HRO := zq hrow
     have HL4 : Hid (LA = if 1000 < rows.length then .err 2 else if rows.all (fun r => validT (.mk 3 0 s0 r)) = true then .ok (rows.map fun r => .mk 3 0 s0 r) else .err 2) := HL3
     have HPL : Hid (∀ r ∈ rows, r.length = g.args.length) := HPW
     have HB5 := bz HB4 hB
     have HK5 := zq (HK4.out.call hB)
     clear hrow hB HB4 HK4 HL3 HPW HPC
     refine .inl ⟨_, rfl, ?_⟩
     refine wpAny_one (k := 0) (i := 9) (by kernel_rfl) rfl rfl (RunsTo.wp (R := fun v w' => v = .slice RA rows.length rc ∧ w' = w5) (.inl ⟨_, _, by simp [execOp, go_sem, Act.put] <;> rfl, rfl, rfl⟩) ?_)
     rintro _ w9 ⟨rfl, hw9⟩
     rw [hw9]
     clear hw9
     refine wpAny_end (by kernel_rfl) (hK9 _ _ ?_)
     simp only [Act.put, List.setIfInBounds_toArray]
     clear hK9
     obtain ⟨nr, HNR⟩ := lz (rows.length)
     rw [← HNR.out] at HL4 ⊢
     have cc := HK5.out.all
     simp only [bksAll, bkAll, Nat.zero_add, Nat.reduceAdd, and_true] at cc
     by_cases hlen : 1000 < nr
     ·have HE : Hid (LA = .err 2) := zq (by rw [HL4.out, if_pos hlen])
      have hl1 : (1000 : Int) < (nr : Int) := by omega
      clear HL4 HNA HNP HRO HPL HNR
      go_wp2_with fail
      obtain ⟨wz, HWZ, hbz, hkz, hlz, hoz, hsz⟩ := boxes_put HB5.out HK5.out (Nat.le_refl _) (.slice none 0 0) (.int .i64 0) (.int .i64 0) (.string ⟨#[]⟩) (.slice none 0 0) (.int .i64 2)
      rw [← HWZ]
      have HKZ := zq hkz
      have HBZ := zq hbz
      clear HWZ hkz hbz hlz hoz hsz cc
      refine leaves_cons (f := 34) (args := #[.pointer (some ⟨w.heap.size + 1, 0, none⟩), .pointer (some ⟨w.heap.size + 1 + 1, 0, none⟩), .pointer (some ⟨w.heap.size + 1 + 1 + 1, 0, none⟩)]) (by simp) (by simp [go_sem]) ?_
      refine (catch_idle _ _ _ _).mono ?_
      rintro e u' wq ⟨rfl, rfl, hBq⟩
      have HKQ := zq (HKZ.out.call hBq)
      have HBQ := bz HBZ hBq
      have cz := HKQ.out.all
      simp only [bksAll, bkAll, Nat.zero_add, Nat.reduceAdd, and_true] at cz
      refine ⟨.tuple #[.slice none 0 0, .agg #[.int .i64 0, .int .i64 0, .string ⟨#[]⟩, .slice none 0 0], .int .i64 2], by simp [results, Tryz.results21, go_sem, cz], HBQ.out, by rw [HE.out]; rfl⟩
     have HL5 : Hid (LA = if rows.all (fun r => validT (.mk 3 0 s0 r)) = true then .ok (rows.map fun r => .mk 3 0 s0 r) else .err 2) := zq (by rw [HL4.out, if_neg hlen])
     have hl1 : ¬ (1000 : Int) < (nr : Int) := by omega
     have HNL : Hid (nr ≤ 1000) := zq (by omega)
     clear HL4 hlen
     go_wp2_with fail
     obtain ⟨wl, HWL⟩ := lz (w5)
     rw [← HWL.out] at HB5 HK5 HRO ⊢
     clear HWL cc
     have HLO : Hid (w.heap.size + 1 + 1 + 1 < wl.heap.size) := zq (HK5.out.at 0 _ _ rfl).lt
     have HRW : Hid (∀ j (hj : j < rows.length), ∃ b off A' c', RA = some ⟨b, off, none⟩ ∧ b < wl.heap.size ∧ b ≠ w.heap.size + 1 ∧ wl.cell? ⟨b, off + j, none⟩ = some (.slice A' rows[j].length c') ∧ TmsK (fun x => x < wl.heap.size ∧ x ≠ w.heap.size + 1) wl A' rows[j]) := zq fun j hj => by
      obtain ⟨b, off, A', c', e, hb, hcl, ht⟩ := HRO.out j hj
      have hk := HK5.out.at 2 _ _ rfl
      refine ⟨b, off, A', c', e, hb, fun e2 => ?_, hcl, TmsK.off hk ht⟩
      subst e2
      have hl := HPL.out rows[j] (List.getElem_mem hj)
      by_cases h0 : off + j = 0
      ·rw [h0, hk.c 0 _ rfl] at hcl
       injection hcl with hcl
       injection hcl with _ hcl _
       have := HNA.out
       have := HNP.out
       omega
      ·rw [hk.cellNone _ (by simp; omega)] at hcl
       cases hcl
     clear HRO HPL HNA HNP
     obtain ⟨lo, HLOE⟩ := lz (wl.heap.size)
     rw [← HLOE.out] at HLO
     have HLW : Hid (lo ≤ wl.heap.size) := zq (Nat.le_of_eq HLOE.out)
     have HRW2 : Hid (∀ j (hj : j < rows.length), ∃ b off A' c', RA = some ⟨b, off, none⟩ ∧ b < lo ∧ b ≠ w.heap.size + 1 ∧ wl.cell? ⟨b, off + j, none⟩ = some (.slice A' rows[j].length c') ∧ TmsK (fun x => x < lo ∧ x ≠ w.heap.size + 1) wl A' rows[j]) := zq (by rw [HLOE.out]; exact HRW.out)
     clear HRW
     go_loopw [49] (fun i wr => ∃ (k : Nat) (v : Value) (rs : List TR), k ≤ nr ∧ i = .int .i64 k ∧ Hid (Below w.heap.size w wr) ∧ Hid (Bks wr [(w.heap.size + 1 + 1 + 1, [.int .i64 0]), (w.heap.size + 1 + 1, [.int .i64 0, .int .i64 0, .string ⟨#[]⟩, .slice none 0 0]), (w.heap.size + 1, [v]), (w.heap.size, [.int .i64 3, .int .i64 n0, .string s0, .slice A na c])]) ∧ Hid (Bx (w.heap.size + 1) lo wl wr) ∧ Hid (OwnR lo 32 wr v rs) ∧ Hid (rs.map (fun r : TR => r.1) = (rows.take k).map fun r => Tm.mk 3 0 s0 r) ∧ Hid (∀ j (hj : j < rows.length), j < k → validT (.mk 3 0 s0 rows[j]) = true) ∧ Hid (lo ≤ wr.heap.size)) (fun i _ => nr - (intOf i).toNat)
     case atStart => exact ⟨0, .slice none 0 0, [], Nat.zero_le _, rfl, HB5, HK5, zq (Bx.refl _ _ _), zq (OwnR.nul _ _ _), zq rfl, zq (fun j hj h => absurd h (Nat.not_lt_zero _)), HLW⟩
     case round =>
      obtain ⟨k, av, rs, hk, rfl, HBR, HKR, HXR, HOR, HRS, HVS, HLR⟩ := hrel
      by_cases hlt : k < nr
      ·have hkr : k < rows.length := by rw [← HNR.out]; exact hlt
       obtain ⟨b, off, A', c', hRA, hbl, hbn, hcl, htk⟩ := HRW2.out k hkr
       obtain ⟨row, HRO⟩ := lz (rows[k])
       rw [← HRO.out] at hcl htk
       obtain ⟨rn, HRN⟩ := lz (row.length)
       rw [← HRN.out] at hcl
       obtain ⟨k0, k2, hw2⟩ := loopK hlt HNL.out
       have hc1 : wr.cell? ⟨b, off + k, none⟩ = some (.slice A' rn c') := (HXR.out.cell (p := ⟨b, off + k, none⟩) hbl hbn).trans hcl
       have HTR : Hid (TmsAt wr.heap.size wr A' row) := zq (htk.keep (fun x hx => HXR.out.block x hx.1 hx.2) (fun x hx => Nat.lt_of_lt_of_le hx.1 HLR.out))
       subst hRA
       clear hcl htk hbl hbn
       have cc := HKR.out.all
       simp only [bksAll, bkAll, Nat.zero_add, Nat.reduceAdd, and_true] at cc
       have hz := (Below.refl wr.heap.size wr).alloc (Nat.le_refl _) (.cells #[.int .i64 3, .int .i64 0, .string s0, .slice A' rn c'] 32)
       obtain ⟨wv, HWV⟩ := lz (wr.alloc (.cells #[.int .i64 3, .int .i64 0, .string s0, .slice A' rn c'] 32))
       have HZV : Hid (Below wr.heap.size wr wv) := zq (by rw [HWV.out]; exact hz)
       have HBV := zq (HBR.out.trans (HZV.out.mono HBR.out.size))
       have HKV := zq (HKR.out.call HZV.out)
       have H8V : Hid (Bk wv wr.heap.size [.int .i64 3, .int .i64 0, .string s0, .slice A' rn c']) := zq (by rw [HWV.out]; exact Bk.new wr [.int .i64 3, .int .i64 0, .string s0, .slice A' rn c'] 32)
       have HTV := zq ((HTR.out.keep HZV.out).mono HZV.out.size)
       have HXV := zq (HXR.out.trans (Bx.of (HZV.out.mono HLR.out)))
       have HOV := zq (HOR.out.below HZV.out)
       have HLV := zq (Nat.le_trans HLR.out HZV.out.size)
       obtain ⟨xt, HXT⟩ := lz (Tm.mk 3 0 s0 row)
       have HVX : Hid (∀ W, Below wv.heap.size wv W → Calls Tryz.prog 31 #[.agg #[.int .i64 3, .int .i64 0, .string s0, .slice A' rn c']] W fun e w' => e = .returned (.bool (validT xt)) ∧ Below W.heap.size W w') := zq fun W hW => by
        have := t_valid (.mk 3 0 s0 row) A' c' W ((HTV.out.keep hW).mono hW.size)
        rw [HXT.out]
        unfold tmV at this
        rw [show (Tm.mk 3 0 s0 row).args.length = rn from HRN.out.symm] at this
        exact this
       obtain ⟨vv, HVV⟩ := lz (validT xt)
       rw [← HVV.out] at HVX
       clear hz HTR HXR HOR HBR HKR HZV HLR
       go_wp2_with fail
       rw [← HWV.out]
       clear cc hc1 HWV
       refine (HVX.out _ (Below.refl _ _)).mono ?_; rintro e w6 ⟨rfl, hB⟩
       have HB6 := bz HBV hB
       have HK6 := zq (HKV.out.call hB)
       have H86 := zq (H8V.out.call hB)
       have HT6 := zq ((HTV.out.keep hB).mono hB.size)
       have HX6 := zq (HXV.out.trans (Bx.of (hB.mono HLV.out)))
       have HO6 := zq (HOV.out.below hB)
       have HL6 := zq (Nat.le_trans HLV.out hB.size)
       clear hB HBV HKV H8V HTV HXV HOV HLV HVX
       have cc := HK6.out.all
       simp only [bksAll, bkAll, Nat.zero_add, Nat.reduceAdd, and_true] at cc
       cases vv
       ·have HE : Hid (LA = .err 2) := zq (by
         rw [HL5.out, if_neg]
         intro h
         have h1 := List.all_eq_true.1 h rows[k] (List.getElem_mem hkr)
         rw [← HRO.out, ← HXT.out, ← HVV.out] at h1
         cases h1)
        clear HL5 HRS HVS HX6 HO6 HT6 H86
        go_wp2_with fail
        obtain ⟨wz, HWZ, hbz, hkz, hlz, hoz, hsz⟩ := boxes_put HB6.out HK6.out (Nat.le_refl _) (.slice none 0 0) (.int .i64 0) (.int .i64 0) (.string ⟨#[]⟩) (.slice none 0 0) (.int .i64 2)
        rw [← HWZ]
        have HKZ := zq hkz
        have HBZ := zq hbz
        clear HWZ hkz hbz hlz hoz hsz cc
        refine leaves_cons (f := 34) (args := #[.pointer (some ⟨w.heap.size + 1, 0, none⟩), .pointer (some ⟨w.heap.size + 1 + 1, 0, none⟩), .pointer (some ⟨w.heap.size + 1 + 1 + 1, 0, none⟩)]) (by simp) (by simp [go_sem]) ?_
        refine (catch_idle _ _ _ _).mono ?_
        rintro e u' wq ⟨rfl, rfl, hBq⟩
        have HKQ := zq (HKZ.out.call hBq)
        have HBQ := bz HBZ hBq
        have cz := HKQ.out.all
        simp only [bksAll, bkAll, Nat.zero_add, Nat.reduceAdd, and_true] at cz
        refine ⟨.tuple #[.slice none 0 0, .agg #[.int .i64 0, .int .i64 0, .string ⟨#[]⟩, .slice none 0 0], .int .i64 2], by simp [results, Tryz.results21, go_sem, cz], HBQ.out, by rw [HE.out]; rfl⟩
       ·have HVS2 : Hid (∀ j (hj : j < rows.length), j < k + 1 → validT (.mk 3 0 s0 rows[j]) = true) := zq fun j hj h => by
         by_cases hjk : j < k
         ·exact HVS.out j hj hjk
         ·have e : j = k := by omega
          subst e
          rw [← HRO.out, ← HXT.out, ← HVV.out]
        have HRS2 : Hid ((rows.take (k + 1)).map (fun r => Tm.mk 3 0 s0 r) = (rows.take k).map (fun r => Tm.mk 3 0 s0 r) ++ [xt]) := zq (by
         rw [List.take_succ_eq_append_getElem hkr, List.map_append, HXT.out, HRO.out]; rfl)
        have HCL : Hid (∀ W, Below w6.heap.size w6 W → Calls Tryz.prog 35 #[.agg #[.int .i64 3, .int .i64 0, .string s0, .slice A' rn c']] W fun e w' => ∃ a c, e = .returned (.agg #[.int .i64 xt.kind, .int .i64 xt.num, .string xt.name, .slice a xt.args.length c]) ∧ Below W.heap.size W w' ∧ NewT W w' a xt.args) := zq fun W hW => by
         have := t_clone (.mk 3 0 s0 row) A' c' W ((HT6.out.keep hW).mono hW.size)
         have hcl : cloneT (.mk 3 0 s0 row) = xt := by
          unfold cloneT
          rw [← HXT.out, ← HVV.out, if_pos rfl]
         rw [hcl] at this
         unfold tmV at this
         rw [show (Tm.mk 3 0 s0 row).args.length = rn from HRN.out.symm] at this
         exact this
        obtain ⟨VA, vc, hav, _⟩ := HO6.out.tms
        subst hav
        obtain ⟨rl, HRLE⟩ := lz (rs.length)
        rw [← HRLE.out] at HK6 HO6
        have hrl : rs.length = k := by
         have h1 := congrArg List.length HRS.out
         rw [List.length_map, List.length_map, List.length_take] at h1
         omega
        have HRLK : Hid (rl ≤ 1000) := zq (by rw [HRLE.out, hrl]; exact Nat.le_trans (Nat.le_of_lt hlt) HNL.out)
        clear hrl HT6 HVS HVV cc
        have cc := HK6.out.all
        simp only [bksAll, bkAll, Nat.zero_add, Nat.reduceAdd, and_true] at cc
        go_wp2_with fail
        clear cc
        refine region_pre (m := 5) (w0 := w6) [rVal [] [0] (fun | [v] => v = .slice VA rl vc | _ => False),
          rVal [] [1] (fun | [v] => v = .agg #[.int .i64 3, .int .i64 0, .string s0, .slice A' rn c'] | _ => False),
          rTm [1] 2 w6.heap.size xt,
          rPure [0] [3] (fun | [v] => v = .int .i64 rl | _ => False),
          rOne [] 4 w6.heap.size tm0]
          [some 61, some 62, some 63, some 64, some 65] (fun _ => True) (w6.heap.size) (by kernel_rfl) (by kernel_rfl) (Nat.le_refl _) (by kernel_rfl) (by kernel_rfl) (by kernel_rfl) (fun j o ho => ?srv5) (fun val Y N hv HF => ?fin5)
        case srv5 =>
          have hlt : j < 5 := (Array.getElem?_eq_some_iff.1 ho).1
          rcases (show j = 0 ∨ j = 1 ∨ j = 2 ∨ j = 3 ∨ j = 4 by omega) with rfl | rfl | rfl | rfl | rfl
          ·cases ho
           refine srv_val rfl rfl (fun _ _ _ => trivial) (fun val E X hE hB hA => ?_)
           have e2 := hE.t 2 (.pointer (some ⟨w.heap.size + 1, 0, none⟩)) rfl
           have hx0 := (HK6.out.call hB).cell 2 0 rfl rfl
           exact ⟨.slice VA rl vc, by simp [execOp, go_sem, e2, hx0], rfl⟩
          ·cases ho
           refine srv_val rfl rfl (fun _ _ _ => trivial) (fun val E X hE hB hA => ?_)
           have e8 := hE.t 8 (.pointer (some ⟨wr.heap.size, 0, none⟩)) rfl
           have hy0 := (H86.out.call hB).c 0 _ rfl
           have hy1 := (H86.out.call hB).c 1 _ rfl
           have hy2 := (H86.out.call hB).c 2 _ rfl
           have hy3 := (H86.out.call hB).c 3 _ rfl
           exact ⟨.agg #[.int .i64 3, .int .i64 0, .string s0, .slice A' rn c'], by simp [execOp, go_sem, e8, hy0, hy1, hy2, hy3], rfl⟩
          ·cases ho
           refine srv_cal rfl rfl fun val E X N hE hC hA hc => ?_
           have e62 := hE.t 62 (val 1) rfl
           have h1 : val 1 = .agg #[.int .i64 3, .int .i64 0, .string s0, .slice A' rn c'] := hA 1 (oz rfl)
           exact ⟨_, _, by simp [execOp, go_sem, hE.f, e62, h1] <;> rfl, (HCL.out X hC.bel).mono fun e w' h => by
            obtain ⟨a, c, he, hB, hN⟩ := h
            exact ⟨_, he, hB, ⟨a, c, rfl⟩, fun N' _ h2 => ⟨a, c, rfl, hN.keep (fun _ _ => rfl) (fun b hb => ⟨h2 b hb.1 hb.2, Nat.le_trans hC.bel.size hb.1⟩)⟩⟩⟩
          ·cases ho
           refine srv_pure rfl rfl (fun val E hE hA => ?_)
           have e61 := hE.t 61 (val 0) rfl
           have h0 : val 0 = .slice VA rl vc := hA 0 (oz rfl)
           exact ⟨.int .i64 rl, fun X => by simp [execOp, go_sem, e61, h0], rfl⟩
          ·cases ho
           refine srv_mk rfl rfl fun val E X N hE hC hA hc => ?_
           have hal := (Below.refl X.heap.size X).alloc (Nat.le_refl _) (.cells #[.int .i64 0, .int .i64 0, .string ⟨#[]⟩, .slice none 0 0] 32)
           exact ⟨.slice (some ⟨X.heap.size, 0, none⟩) 1 1, X.alloc (.cells #[.int .i64 0, .int .i64 0, .string ⟨#[]⟩, .slice none 0 0] 32), by simp [execOp, go_sem, hE.c], hal, ⟨_, rfl⟩, fun N' h1 h2 => ⟨_, none, 0, rfl, h2 _ (Nat.le_refl _) (by simp), Bk.new X [.int .i64 0, .int .i64 0, .string ⟨#[]⟩, .slice none 0 0] 32, TmsK.nil⟩⟩
        case fin5 =>
         have h0 : val 0 = .slice VA rl vc := hv 0 (by decide)
         have h1 : val 1 = .agg #[.int .i64 3, .int .i64 0, .string s0, .slice A' rn c'] := hv 1 (by decide)
         obtain ⟨qa, qc, h2, ht2⟩ : ∃ qa qc, val 2 = .agg #[.int .i64 xt.kind, .int .i64 xt.num, .string xt.name, .slice qa xt.args.length qc] ∧ TmsK (fun b => N b ∧ w6.heap.size ≤ b) Y qa xt.args := HF.vcs 2 (by decide) rfl
         have h3 : val 3 = .int .i64 rl := hv 3 (by decide)
         obtain ⟨gz, za, zc, h4, hgz, hbz, _⟩ : ∃ g a c, val 4 = .slice (some ⟨g, 0, none⟩) 1 1 ∧ N g ∧ Bk Y g (rowC (tm0, a, c)) ∧ TmsK (fun b => N b ∧ w6.heap.size ≤ b) Y a tm0.args := HF.vcs 4 (by decide) rfl
         have HB7 := zq (HB6.out.trans (HF.bel.mono HB6.out.size))
         have HK7 := zq (HK6.out.call HF.bel)
         have HX7 := zq (HX6.out.trans (Bx.of (HF.bel.mono HL6.out)))
         have HO7 := zq (HO6.out.below HF.bel)
         have HL7 := zq (Nat.le_trans HL6.out HF.bel.size)
         have HT7 : Hid (TmsK (fun x => lo ≤ x ∧ x < Y.heap.size ∧ (Value.slice VA rl vc).ownBlock ≠ some x) Y qa xt.args) := zq (ht2.keep (fun _ _ => rfl) (fun x hx => ⟨Nat.le_trans HL6.out hx.2, HF.lt x hx.1, fun e' => Nat.lt_irrefl _ (Nat.lt_of_lt_of_le (HO6.out.own.lt x e').2 hx.2)⟩))
         have HZ7 : Hid (Bk Y gz [.int .i64 0, .int .i64 0, .string ⟨#[]⟩, .slice za 0 zc]) := zq hbz
         simp only [fillD, List.set_cons_zero, List.set_cons_succ, Nat.reduceAdd, Nat.zero_add, h0, h1, h2, h3, h4]
         clear hv h0 h1 h2 h3 h4 HF HB6 HK6 HX6 HO6 HL6 HCL ht2 hgz hbz H86
         change wpAny _ _ _ _ 4 _ _ _
         obtain ⟨i, hi, hz0, hz1, hz2⟩ := info_parts infoTm
         refine wpAny_one (k := 3) (i := 5) (by kernel_rfl) rfl rfl (RunsTo.wp (R := fun v' w' => ∃ g' cp, v' = .slice (some ⟨g', 0, none⟩) (rl + 1) cp ∧ w'.ownsRow lo 32 4 v' (rl + 1) (rowsC rs ++ [.int .i64 0, .int .i64 0, .string ⟨#[]⟩, .slice za 0 zc]) ∧ Y.grownBy w' (Value.slice VA rl vc).ownBlock ∧ ((Value.slice VA rl vc).ownBlock = some g' ∨ g' = Y.heap.size))
          (app_runs (.tmp 61) (.tmp 65) 30 rfl lo 32 i _ 4 56 Tryz.underlying30 hi hz0 hz1 hz2 rfl (by decide) (.slice VA rl vc) rl (rowsC rs) rfl (by rw [HRLE.out]; rw [HRLE.out] at HO7; exact HO7.out.own) ⟨gz, 0, none⟩ 1 1 [.int .i64 0, .int .i64 0, .string ⟨#[]⟩, .slice za 0 zc] rfl rfl (fun j u hu => by rw [addr_add, Nat.zero_add]; exact HZ7.out.c j u hu) (rowC_one (tm0, za, zc)) (by have := HRLK.out; unfold maxLen; omega) (by have := HRLK.out; omega) HL7.out (fun v' w' h1 h2 h3 => by
           obtain ⟨g', cp, hv'⟩ : ∃ g' cp, v' = .slice (some ⟨g', 0, none⟩) (rl + 1) cp := by
            rcases h1.2 with ⟨_, h0⟩ | ⟨g', cp, cur', h', _⟩
            ·exact absurd h0 (Nat.succ_ne_zero _)
            ·exact ⟨g', cp, h'⟩
           refine ⟨g', cp, hv', h1, h2, ?_⟩
           subst hv'
           rcases h3 with h3 | h3
           ·exact .inl (h3.symm.trans (by simp [Value.ownBlock]))
           ·exact .inr (by simpa [Value.ownBlock] using h3))) ?_)
         rintro _ w8 ⟨g', cp, rfl, hw1, hw2, hw3⟩
         simp only [Act.put, List.setIfInBounds_toArray]
         have hrl0 : (0 : Int) ≤ (rl : Int) := Int.natCast_nonneg _
         have hrl1 : (rl : Int) < ((rl : Int) + 1) := Int.lt_succ _
         obtain ⟨HA1, HA2⟩ := after78 (xt, qa, qc) (.int .i64 0) (.int .i64 0) (.string ⟨#[]⟩) (.slice za 0 zc) HK7.out (fun x hx => by
          have := HLO.out
          simp only [List.mem_cons, List.mem_nil_iff, or_false] at hx
          rcases hx with rfl | rfl | rfl | rfl <;> simp only <;> omega) HX7.out HO7.out HT7.out HL7.out (by rw [HRLE.out] at hw1; exact hw1) hw2 hw3
         rw [← HRLE.out] at HA1 HA2
         have HD1 := zq HA1
         have HD2 := zq HA2
         have HBg := zq (HB7.out.grown hw2 HB7.out.size (fun k hk => Nat.le_trans (Nat.le_of_lt (by have := HLO.out; omega)) (HO7.out.own.lt k hk).1))
         have hlr : (rowsC rs).length = rl * 4 := by rw [rowsC_len, HRLE.out]
         have gc : ∀ q u, [.int .i64 0, .int .i64 0, .string ⟨#[]⟩, .slice za 0 zc][q]? = some u → w8.cell? ⟨g', rl * 4 + q, none⟩ = some u := fun q u hu => by
          have h := hw1.cells (g := g') rfl (rl * 4 + q) u (by rw [List.getElem?_append_right (by omega), hlr, Nat.add_sub_cancel_left]; exact hu)
          rw [addr_add] at h
          simpa using h
         have c0 := gc 0 _ rfl
         have c1 := gc 1 _ rfl
         have c2 := gc 2 _ rfl
         have c3 := gc 3 _ rfl
         have f0 := hw1.frozenAt (rl * 4)
         have f1 := hw1.frozenAt (rl * 4 + 1)
         have f2 := hw1.frozenAt (rl * 4 + 2)
         have f3 := hw1.frozenAt (rl * 4 + 3)
         rw [Nat.add_zero] at c0
         have hgl : lo ≤ g' := by
          rcases hw3 with h | h
          ·exact (HO7.out.own.lt g' h).1
          ·rw [h]; exact HL7.out
         have hne : w.heap.size + 1 ≠ g' := by have := HLO.out; omega
         have hne' : g' ≠ w.heap.size + 1 := hne.symm
         have hk8 : Bk w8 (w.heap.size + 1) [.slice VA rl vc] := (HK7.out.at 2 _ _ rfl).keeps (hw2.block _ (HK7.out.lt 2 rfl) (fun e' => by
          have := (HO7.out.own.lt _ e'.symm).1
          have := HLO.out
          omega))
         have b0 := hk8.c 0 _ rfl
         have bf := hk8.f 0
         clear gc hlr hk8 hw1 hw2 hw3 HA1 HA2 HBg HK7 HO7 HT7 HX7 HB7 HZ7 hi hz0 hz1 hz2 hgl
         refine wpAny_two (k := 2) (i := 6) (j := 8) (by kernel_rfl) rfl rfl rfl rfl ?s6 ?s86
         case s6 =>
          refine RunsTo.wp (R := fun v w' => v = .pointer (some ⟨g', rl * 4, none⟩) ∧ w' = w8) (.inl ⟨_, _, by simp [execOp, go_sem, hrl0, hrl1] <;> rfl, rfl, rfl⟩) ?_
          rintro _ w9 ⟨rfl, hw9⟩
          rw [hw9]
          clear hw9
          simp only [Act.put, List.setIfInBounds_toArray]
          refine wpAny_two (k := 1) (i := 7) (j := 8) (by kernel_rfl) rfl rfl rfl rfl ?s7 ?s8
          case s7 =>
           refine RunsTo.wp (R := fun v w' => v = undef ∧ w' = ((((w8.setCell ⟨g', rl * 4, none⟩ (.int .i64 xt.kind)).setCell ⟨g', rl * 4 + 1, none⟩ (.int .i64 xt.num)).setCell ⟨g', rl * 4 + 2, none⟩ (.string xt.name)).setCell ⟨g', rl * 4 + 3, none⟩ (.slice qa xt.args.length qc))) (.inr (.inl ⟨((((w8.setCell ⟨g', rl * 4, none⟩ (.int .i64 xt.kind)).setCell ⟨g', rl * 4 + 1, none⟩ (.int .i64 xt.num)).setCell ⟨g', rl * 4 + 2, none⟩ (.string xt.name)).setCell ⟨g', rl * 4 + 3, none⟩ (.slice qa xt.args.length qc)), by simp [execOp, go_sem, c0, c1, c2, c3, f0, f1, f2, f3], rfl, rfl⟩)) ?_
           rintro _ w9 ⟨rfl, hw9⟩
           rw [hw9]
           clear hw9
           simp only [Act.put]
           refine wpAny_one (k := 0) (i := 8) (by kernel_rfl) rfl rfl (RunsTo.wp (R := fun v w' => v = undef ∧ w' = ((((w8.setCell ⟨g', rl * 4, none⟩ (.int .i64 xt.kind)).setCell ⟨g', rl * 4 + 1, none⟩ (.int .i64 xt.num)).setCell ⟨g', rl * 4 + 2, none⟩ (.string xt.name)).setCell ⟨g', rl * 4 + 3, none⟩ (.slice qa xt.args.length qc)).setCell ⟨w.heap.size + 1, 0, none⟩ (.slice (some ⟨g', 0, none⟩) (rl + 1) cp)) (.inr (.inl ⟨((((w8.setCell ⟨g', rl * 4, none⟩ (.int .i64 xt.kind)).setCell ⟨g', rl * 4 + 1, none⟩ (.int .i64 xt.num)).setCell ⟨g', rl * 4 + 2, none⟩ (.string xt.name)).setCell ⟨g', rl * 4 + 3, none⟩ (.slice qa xt.args.length qc)).setCell ⟨w.heap.size + 1, 0, none⟩ (.slice (some ⟨g', 0, none⟩) (rl + 1) cp), by simp [execOp, go_sem, b0, bf, hne, hne'], rfl, rfl⟩)) ?_)
           rintro _ w9 ⟨rfl, hw9⟩
           rw [hw9]
           clear hw9
           simp only [Act.put]
           refine wpAny_end (by kernel_rfl) ?_
           obtain ⟨wf, HWF⟩ := lz (((((w8.setCell ⟨g', rl * 4, none⟩ (.int .i64 xt.kind)).setCell ⟨g', rl * 4 + 1, none⟩ (.int .i64 xt.num)).setCell ⟨g', rl * 4 + 2, none⟩ (.string xt.name)).setCell ⟨g', rl * 4 + 3, none⟩ (.slice qa xt.args.length qc)).setCell ⟨w.heap.size + 1, 0, none⟩ (.slice (some ⟨g', 0, none⟩) (rl + 1) cp))
           rw [← HWF.out] at HD1 ⊢
           clear HWF HD2 c0 c1 c2 c3 f0 f1 f2 f3 b0 bf hne hne'
           have HBF : Hid (Below w.heap.size w wf) := zq (HB5.out.trans (HD1.out.bx.low (Nat.le_succ _) (Nat.le_trans (Nat.le_succ_of_le (Nat.le_succ_of_le (Nat.le_succ _))) (Nat.le_of_lt HLO.out))))
           have HKF := zq HD1.out.bks
           have HXF := zq HD1.out.bx
           have HOF := zq HD1.out.own
           have HLF : Hid (lo ≤ wf.heap.size) := zq (Nat.le_trans HLW.out HD1.out.bx.size)
           have HRS3 : Hid ((rs ++ [((xt, qa, qc) : TR)]).map (fun r : TR => r.1) = (rows.take (k + 1)).map fun r => Tm.mk 3 0 s0 r) := zq (by rw [HRS2.out, List.map_append, HRS.out]; rfl)
           clear HD1
           go_wp2_with fail
           go_roundw
           case rel => exact ⟨k + 1, _, _, Nat.succ_le_of_lt hlt, by go_num, HBF, HKF, HXF, HOF, HRS3, HVS2, HLF⟩
           case measure => first | exact spM k _ _ hw2 hlt | exact spM k _ _ rfl hlt
          case s8 =>
           refine RunsTo.wp (R := fun v w' => v = undef ∧ w' = (w8.setCell ⟨w.heap.size + 1, 0, none⟩ (.slice (some ⟨g', 0, none⟩) (rl + 1) cp))) (.inr (.inl ⟨(w8.setCell ⟨w.heap.size + 1, 0, none⟩ (.slice (some ⟨g', 0, none⟩) (rl + 1) cp)), by simp [execOp, go_sem, b0, bf], rfl, rfl⟩)) ?_
           rintro _ w9 ⟨rfl, hw9⟩
           rw [hw9]
           clear hw9
           simp only [Act.put]
           refine wpAny_one (k := 0) (i := 7) (by kernel_rfl) rfl rfl (RunsTo.wp (R := fun v w' => v = undef ∧ w' = (((((w8.setCell ⟨w.heap.size + 1, 0, none⟩ (.slice (some ⟨g', 0, none⟩) (rl + 1) cp)).setCell ⟨g', rl * 4, none⟩ (.int .i64 xt.kind)).setCell ⟨g', rl * 4 + 1, none⟩ (.int .i64 xt.num)).setCell ⟨g', rl * 4 + 2, none⟩ (.string xt.name)).setCell ⟨g', rl * 4 + 3, none⟩ (.slice qa xt.args.length qc))) (.inr (.inl ⟨(((((w8.setCell ⟨w.heap.size + 1, 0, none⟩ (.slice (some ⟨g', 0, none⟩) (rl + 1) cp)).setCell ⟨g', rl * 4, none⟩ (.int .i64 xt.kind)).setCell ⟨g', rl * 4 + 1, none⟩ (.int .i64 xt.num)).setCell ⟨g', rl * 4 + 2, none⟩ (.string xt.name)).setCell ⟨g', rl * 4 + 3, none⟩ (.slice qa xt.args.length qc)), by simp [execOp, go_sem, c0, c1, c2, c3, f0, f1, f2, f3, hne, hne'], rfl, rfl⟩)) ?_)
           rintro _ w9 ⟨rfl, hw9⟩
           rw [hw9]
           clear hw9
           simp only [Act.put]
           refine wpAny_end (by kernel_rfl) ?_
           obtain ⟨wf, HWF⟩ := lz ((((((w8.setCell ⟨w.heap.size + 1, 0, none⟩ (.slice (some ⟨g', 0, none⟩) (rl + 1) cp)).setCell ⟨g', rl * 4, none⟩ (.int .i64 xt.kind)).setCell ⟨g', rl * 4 + 1, none⟩ (.int .i64 xt.num)).setCell ⟨g', rl * 4 + 2, none⟩ (.string xt.name)).setCell ⟨g', rl * 4 + 3, none⟩ (.slice qa xt.args.length qc)))
           rw [← HWF.out] at HD2 ⊢
           clear HWF HD1 c0 c1 c2 c3 f0 f1 f2 f3 b0 bf hne hne'
           have HBF : Hid (Below w.heap.size w wf) := zq (HB5.out.trans (HD2.out.bx.low (Nat.le_succ _) (Nat.le_trans (Nat.le_succ_of_le (Nat.le_succ_of_le (Nat.le_succ _))) (Nat.le_of_lt HLO.out))))
           have HKF := zq HD2.out.bks
           have HXF := zq HD2.out.bx
           have HOF := zq HD2.out.own
           have HLF : Hid (lo ≤ wf.heap.size) := zq (Nat.le_trans HLW.out HD2.out.bx.size)
           have HRS3 : Hid ((rs ++ [((xt, qa, qc) : TR)]).map (fun r : TR => r.1) = (rows.take (k + 1)).map fun r => Tm.mk 3 0 s0 r) := zq (by rw [HRS2.out, List.map_append, HRS.out]; rfl)
           clear HD2
           go_wp2_with fail
           go_roundw
           case rel => exact ⟨k + 1, _, _, Nat.succ_le_of_lt hlt, by go_num, HBF, HKF, HXF, HOF, HRS3, HVS2, HLF⟩
           case measure => first | exact spM k _ _ hw2 hlt | exact spM k _ _ rfl hlt
         case s86 =>
          refine RunsTo.wp (R := fun v w' => v = undef ∧ w' = (w8.setCell ⟨w.heap.size + 1, 0, none⟩ (.slice (some ⟨g', 0, none⟩) (rl + 1) cp))) (.inr (.inl ⟨(w8.setCell ⟨w.heap.size + 1, 0, none⟩ (.slice (some ⟨g', 0, none⟩) (rl + 1) cp)), by simp [execOp, go_sem, b0, bf], rfl, rfl⟩)) ?_
          rintro _ w9 ⟨rfl, hw9⟩
          rw [hw9]
          clear hw9
          simp only [Act.put]
          refine wpAny_one (k := 1) (i := 6) (by kernel_rfl) rfl rfl (RunsTo.wp (R := fun v w' => v = .pointer (some ⟨g', rl * 4, none⟩) ∧ w' = (w8.setCell ⟨w.heap.size + 1, 0, none⟩ (.slice (some ⟨g', 0, none⟩) (rl + 1) cp))) (.inl ⟨_, _, by simp [execOp, go_sem, hrl0, hrl1] <;> rfl, rfl, rfl⟩) ?_)
          rintro _ w9 ⟨rfl, hw9⟩
          rw [hw9]
          clear hw9
          simp only [Act.put, List.setIfInBounds_toArray]
          refine wpAny_one (k := 0) (i := 7) (by kernel_rfl) rfl rfl (RunsTo.wp (R := fun v w' => v = undef ∧ w' = (((((w8.setCell ⟨w.heap.size + 1, 0, none⟩ (.slice (some ⟨g', 0, none⟩) (rl + 1) cp)).setCell ⟨g', rl * 4, none⟩ (.int .i64 xt.kind)).setCell ⟨g', rl * 4 + 1, none⟩ (.int .i64 xt.num)).setCell ⟨g', rl * 4 + 2, none⟩ (.string xt.name)).setCell ⟨g', rl * 4 + 3, none⟩ (.slice qa xt.args.length qc))) (.inr (.inl ⟨(((((w8.setCell ⟨w.heap.size + 1, 0, none⟩ (.slice (some ⟨g', 0, none⟩) (rl + 1) cp)).setCell ⟨g', rl * 4, none⟩ (.int .i64 xt.kind)).setCell ⟨g', rl * 4 + 1, none⟩ (.int .i64 xt.num)).setCell ⟨g', rl * 4 + 2, none⟩ (.string xt.name)).setCell ⟨g', rl * 4 + 3, none⟩ (.slice qa xt.args.length qc)), by simp [execOp, go_sem, c0, c1, c2, c3, f0, f1, f2, f3, hne, hne'], rfl, rfl⟩)) ?_)
          rintro _ w9 ⟨rfl, hw9⟩
          rw [hw9]
          clear hw9
          simp only [Act.put]
          refine wpAny_end (by kernel_rfl) ?_
          obtain ⟨wf, HWF⟩ := lz ((((((w8.setCell ⟨w.heap.size + 1, 0, none⟩ (.slice (some ⟨g', 0, none⟩) (rl + 1) cp)).setCell ⟨g', rl * 4, none⟩ (.int .i64 xt.kind)).setCell ⟨g', rl * 4 + 1, none⟩ (.int .i64 xt.num)).setCell ⟨g', rl * 4 + 2, none⟩ (.string xt.name)).setCell ⟨g', rl * 4 + 3, none⟩ (.slice qa xt.args.length qc)))
          rw [← HWF.out] at HD2 ⊢
          clear HWF HD1 c0 c1 c2 c3 f0 f1 f2 f3 b0 bf hne hne'
          have HBF : Hid (Below w.heap.size w wf) := zq (HB5.out.trans (HD2.out.bx.low (Nat.le_succ _) (Nat.le_trans (Nat.le_succ_of_le (Nat.le_succ_of_le (Nat.le_succ _))) (Nat.le_of_lt HLO.out))))
          have HKF := zq HD2.out.bks
          have HXF := zq HD2.out.bx
          have HOF := zq HD2.out.own
          have HLF : Hid (lo ≤ wf.heap.size) := zq (Nat.le_trans HLW.out HD2.out.bx.size)
          have HRS3 : Hid ((rs ++ [((xt, qa, qc) : TR)]).map (fun r : TR => r.1) = (rows.take (k + 1)).map fun r => Tm.mk 3 0 s0 r) := zq (by rw [HRS2.out, List.map_append, HRS.out]; rfl)
          clear HD2
          go_wp2_with fail
          go_roundw
          case rel => exact ⟨k + 1, _, _, Nat.succ_le_of_lt hlt, by go_num, HBF, HKF, HXF, HOF, HRS3, HVS2, HLF⟩
          case measure => first | exact spM k _ _ hw2 hlt | exact spM k _ _ rfl hlt
      ·have hkn : k = nr := Nat.le_antisymm hk (Nat.le_of_not_lt hlt)
       subst hkn
       have htk : rows.take k = rows := List.take_of_length_le (Nat.le_of_eq HNR.out.symm)
       have HE : Hid (LA = .ok (rows.map fun r => Tm.mk 3 0 s0 r)) := zq (by
        rw [HL5.out, if_pos]
        refine List.all_eq_true.2 fun r hr => ?_
        obtain ⟨j, hj, e⟩ := List.getElem_of_mem hr
        rw [← e]
        exact HVS.out j hj (by rw [HNR.out]; exact hj))
       have HRS2 : Hid (rs.map (fun r : TR => r.1) = rows.map fun r => Tm.mk 3 0 s0 r) := zq (by rw [HRS.out, htk])
       obtain ⟨VA, vc, hav, hvt⟩ := HOR.out.tms
       subst hav
       have HVT := zq hvt
       obtain ⟨rl, HRLE⟩ := lz (rs.length)
       rw [← HRLE.out] at HKR
       have HRLN : Hid ((rows.map fun r => Tm.mk 3 0 s0 r).length = rl) := zq (by rw [← HRS2.out, List.length_map, HRLE.out])
       clear hvt htk HL5 HRS HVS HOR HXR HRW2 HRLE
       have cc := HKR.out.all
       simp only [bksAll, bkAll, Nat.zero_add, Nat.reduceAdd, and_true] at cc
       go_wp2_with fail
       obtain ⟨wz, HWZ, hbz, hkz, hlz, hoz, hsz⟩ := boxes_put HBR.out HKR.out (Nat.le_refl _) (.slice VA rl vc) (.int .i64 0) (.int .i64 0) (.string ⟨#[]⟩) (.slice none 0 0) (.int .i64 0)
       rw [← HWZ]
       have HKZ := zq hkz
       have HBZ := zq hbz
       have HTZ : Hid (TmsAt wz.heap.size wz VA (rows.map fun r => Tm.mk 3 0 s0 r)) := zq (by
        rw [← HRS2.out]
        exact HVT.out.keep (fun x hx => hoz x (Nat.lt_of_lt_of_le HLO.out hx.1)) (fun x hx => by rw [hsz]; exact hx.2))
       clear HWZ hkz hbz hlz hoz hsz cc
       refine leaves_cons (f := 34) (args := #[.pointer (some ⟨w.heap.size + 1, 0, none⟩), .pointer (some ⟨w.heap.size + 1 + 1, 0, none⟩), .pointer (some ⟨w.heap.size + 1 + 1 + 1, 0, none⟩)]) (by simp) (by simp [go_sem]) ?_
       refine (catch_idle _ _ _ _).mono ?_
       rintro e u' wq ⟨rfl, rfl, hBq⟩
       have HKQ := zq (HKZ.out.call hBq)
       have HBQ := bz HBZ hBq
       have cz := HKQ.out.all
       simp only [bksAll, bkAll, Nat.zero_add, Nat.reduceAdd, and_true] at cz
       refine ⟨.tuple #[.slice VA rl vc, .agg #[.int .i64 0, .int .i64 0, .string ⟨#[]⟩, .slice none 0 0], .int .i64 0], by simp [results, Tryz.results21, go_sem, cz], HBQ.out, by rw [HE.out]; exact ⟨VA, vc, by rw [HRLN.out], (HTZ.out.keep hBq).mono hBq.size⟩⟩
end Go.Proofs.YtpokpgkjaifccaaGreatDoorRR
namespace Hb
open Go Go.RowKit
def varT (n:Int):Tm:=.mk 0 n ⟨#[]⟩ []
def strT (s:ByteArray) (l:List Tm):Tm:=.mk 3 0 s l
theorem row_new (W:World) (rs:List TR) (e:TypeId) (hm:rs.length≤maxLen) (h:∀r∈rs,TmsAt W.heap.size W r.2.1 r.1.args):TmsAt (W.alloc (.cells (rowsC rs).toArray e)).heap.size (W.alloc (.cells (rowsC rs).toArray e)) (some ⟨W.heap.size,0,none⟩) (rs.map (fun r:TR=>r.1)):=(ArgsAt.new W rs e h).tms hm
end Hb
namespace Go.Proofs.YtpokpgkjaifccaaGreatDoorRR
open Go.RowKit Hb Go.Shelf
set_option maxRecDepth 100000
theorem l_x (n:Int) (w:World):Calls Tryz.prog 18 #[.int .i64 n] w fun e w'=>e=.returned (.agg #[.int .i64 0,.int .i64 n,.string ⟨#[]⟩,.slice none 0 0])∧Below w.heap.size w w':=by
 have hB:=zq ((Below.refl w.heap.size w).alloc (Nat.le_refl _) (.cells #[.int .i64 0,.int .i64 n,.string ⟨#[]⟩,.slice none 0 0] 32))
 go_enter Tryz.func18,Tryz.ntmps18
 go_wp2_with fail
 exact bodyPost_ret (v:=.agg #[.int .i64 0,.int .i64 n,.string ⟨#[]⟩,.slice none 0 0]) (by simp [results,Tryz.results18,go_sem]) rfl ⟨rfl,hB.out⟩
theorem l_n (n:Int) (w:World):Calls Tryz.prog 23 #[.int .i64 n] w fun e w'=>e=.returned (.agg #[.int .i64 1,.int .i64 n,.string ⟨#[]⟩,.slice none 0 0])∧Below w.heap.size w w':=by
 have hB:=zq ((Below.refl w.heap.size w).alloc (Nat.le_refl _) (.cells #[.int .i64 1,.int .i64 n,.string ⟨#[]⟩,.slice none 0 0] 32))
 go_enter Tryz.func23,Tryz.ntmps23
 go_wp2_with fail
 exact bodyPost_ret (v:=.agg #[.int .i64 1,.int .i64 n,.string ⟨#[]⟩,.slice none 0 0]) (by simp [results,Tryz.results23,go_sem]) rfl ⟨rfl,hB.out⟩
theorem l_a (s:ByteArray) (w:World):Calls Tryz.prog 17 #[.string s] w fun e w'=>e=.returned (.agg #[.int .i64 2,.int .i64 0,.string s,.slice none 0 0])∧Below w.heap.size w w':=by
 have hB:=zq ((Below.refl w.heap.size w).alloc (Nat.le_refl _) (.cells #[.int .i64 2,.int .i64 0,.string s,.slice none 0 0] 32))
 go_enter Tryz.func17,Tryz.ntmps17
 go_wp2_with fail
 exact bodyPost_ret (v:=.agg #[.int .i64 2,.int .i64 0,.string s,.slice none 0 0]) (by simp [results,Tryz.results17,go_sem]) rfl ⟨rfl,hB.out⟩
theorem l_f (s:ByteArray) (A:Option Addr) (n c:Nat) (w:World):Calls Tryz.prog 16 #[.string s,.slice A n c] w fun e w'=>e=.returned (.agg #[.int .i64 3,.int .i64 0,.string s,.slice A n c])∧Below w.heap.size w w':=by
 have hB:=zq ((Below.refl w.heap.size w).alloc (Nat.le_refl _) (.cells #[.int .i64 3,.int .i64 0,.string s,.slice A n c] 32))
 go_enter Tryz.func16,Tryz.ntmps16
 go_wp2_with fail
 exact bodyPost_ret (v:=.agg #[.int .i64 3,.int .i64 0,.string s,.slice A n c]) (by simp [results,Tryz.results16,go_sem]) rfl ⟨rfl,hB.out⟩
theorem l_same (t u:Tm) (A B:Option Addr) (c d:Nat) (w:World) (hT:TmsAt w.heap.size w A t.args) (hU:TmsAt w.heap.size w B u.args):Calls Tryz.prog 24 #[tmV t A c,tmV u B d] w fun e w'=>e=.returned (.bool (sameT t u))∧Below w.heap.size w w':=by
 have HS:=zq (fun W (h:Below w.heap.size w W)=>r3_same t u A B c d W ((hT.keep h).mono h.size) ((hU.keep h).mono h.size))
 have HB:=zq (((Below.refl w.heap.size w).alloc (Nat.le_refl _) (.cells #[.int .i64 t.kind,.int .i64 t.num,.string t.name,.slice A t.args.length c] 32)).alloc (by simp) (.cells #[.int .i64 u.kind,.int .i64 u.num,.string u.name,.slice B u.args.length d] 32))
 clear hT hU
 unfold tmV at *
 generalize t.kind=t0 at *
 generalize t.num=t1 at *
 generalize t.name=t2 at *
 generalize t.args.length=t3 at *
 generalize u.kind=u0 at *
 generalize u.num=u1 at *
 generalize u.name=u2 at *
 generalize u.args.length=u3 at *
 go_enter Tryz.func24,Tryz.ntmps24
 go_wp2_with fail
 refine (HS.out _ HB.out).mono ?_;rintro e w1 ⟨rfl,hB⟩
 have HB1:=bz HB hB
 clear hB HB
 go_wp2_with fail
 go_ret
 exact ⟨rfl,HB1.out⟩
end Go.Proofs.YtpokpgkjaifccaaGreatDoorRR
