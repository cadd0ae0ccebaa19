/- The reference's writer: into, fourth part. The reference's writer: every valid term; Tokens. Tokens and Term, of the program and of the reference. The laws' small functions: pieces, atom, number, structure; a literal row of terms. -/
import Derived.Test.YtgapnafkelokaaaGreatDoorM23
import Derived.Test.YtgapnafkelokaaaGreatDoorM04
namespace Go.Proofs.YtgapnafkelokaaaGreatDoor
open Go.RowKit Hb
set_option maxRecDepth 100000
set_option maxHeartbeats 6400000 in
theorem i_op {o : WO} {T : List OpR} {TA : Option Addr} {TN TC : Nat} {w0 : World} {t : Tm} (hk : t.kind = 3) (hok : Tm.All Okf t) (few : TN ≤ 400) (hTab : Tab w0 TA TN TC T) (hnum : isNum o t = false) (hls : condList t = false) (hcu : condCur o t = false) {p : OpR} {c : Int} (hcl : operW o T t = (p, c)) (hc0 : 1 ≤ c ∧ c ≤ 3) (hS : ∀ A cap W, Below w0.heap.size w0 W → TmsAt w0.heap.size w0 A t.args → Calls Tryz.prog 92 #[rwV o TA TN TC, tmV t A cap, opV p, .int .i64 c] W fun e w' => ∃ v', e = .returned v' ∧ Below W.heap.size W w' ∧ OwnS 9 W.heap.size w' v' (str o T t).1) : IOK o T TA TN TC w0 t := by
  intro max opd hmx A cap w v xs hB hT hO hlen
  obtain ⟨i, hi, hz0, hz1, hz2⟩ := info_parts infoStr
  have HI := Lib.hid hi
  have HZ0 := Lib.hid hz0
  have HZ1 := Lib.hid hz1
  have HZ2 := Lib.hid hz2
  clear hi hz0 hz1 hz2
  obtain ⟨LN, HL⟩ : ∃ LN, Hid (LN = t.args.length) := ⟨_, Lib.hid rfl⟩
  have HX := Lib.hid (Rf2.start w o TA TN TC t A cap LN 70 24 HL.out)
  have HBX := HX.out.bel
  have hp1 := t.nodes_pos
  have HB := Lib.hid hB
  have HB0 := Lib.hid (fun W (h : Below w.heap.size w W) => hB.trans (h.mono hB.size))
  have hs0 := hB.size
  have HG0 := Lib.hid ((Gro.start hO).bel HBX)
  have HLEN := Lib.hid hlen
  have h0 : ¬ t.kind = 0 := by omega
  have h1 : ¬ t.kind = 1 := by omega
  have h2 : ¬ t.kind = 2 := by omega
  have HP0 : Hid (pcs o T t max opd = brk (str o T t).1 (decide (max < (str o T t).2.prec))) := Lib.hid (by unfold pcs placeW; rw [if_neg h0, if_neg h1, if_neg h2])
  have HST := Lib.hid (str_eq o T (Okf.k4 hok))
  have HNUM := Lib.hid (fun W (h : Below w.heap.size w W) => r_numbered o TA TN TC t (List.all_eq_true.2 fun x hx => (hok.sub x hx).here.2) A cap W ((hT.keep (HB0.out W h)).mono (HB0.out W h).size))
  have hps : p = (str o T t).2 := by rw [HST.out, ← oper_str hk, hcl]
  have HP : Hid (pcs o T t max opd = brk (str o T t).1 (decide (max < p.prec))) := Lib.hid (by rw [HP0.out, hps])
  have HOW : Hid (operW o T t = (p, c)) := Lib.hid hcl
  have HSS := Lib.hid (fun W (h : Below w.heap.size w W) => hS A cap W (HB0.out W h) hT)
  have hrl := str_len o T (Okf.k4 hok)
  have hrp := str_pos o T t
  have hct0 : (c == 0) = false := by simp; omega
  have hct1 : ¬ c = 0 := by omega
  have HVLT : Hid (∀ k, v.ownBlock = some k → k < w.heap.size) := Lib.hid (fun k hk => (hO.low hk).2)
  have HOO := Lib.hid hO
  have hxl : xs.length ≤ 99991 := by omega
  have hways := name_ways t.name LN o.ig (fun h => by unfold condList Tm.isNm at hls; rw [h.1, ← HL.out, h.2] at hls; revert hls; decide) (fun h => by unfold condCur Tm.isNm at hcu; rw [h.1, h.2.1, ← HL.out, h.2.2] at hcu; revert hcu; decide)
  have HOPR0 := Lib.hid (fun W (h : Below w.heap.size w W) => r_operator o T TA TN TC t (List.all_eq_true.2 fun x hx => (hok.sub x hx).here.2) A cap W few (hTab.below (HB0.out W h)) ((hT.keep (HB0.out W h)).mono (HB0.out W h).size))
  rw [HP.out]
  unfold tmV rwV opV at *
  rw [← HL.out] at HNUM HOPR0 HSS ⊢
  rw [hnum] at HNUM
  rw [hk] at HX HBX HG0 HNUM HOPR0 HSS ⊢
  have HKK := Lib.hid hk
  rw [HOW.out] at HOPR0
  have HOPR : Hid (∀ W, Below w.heap.size w W → Calls Tryz.prog 90 #[.agg #[.slice TA TN TC, .bool o.q, .bool o.ig, .bool o.nu], .agg #[.int .i64 3, .int .i64 t.num, .string t.name, .slice A LN cap]] W fun e w' => e = .returned (.tuple #[.agg #[.string p.name, .int .i64 p.typ, .int .i64 p.prec], .int .i64 c]) ∧ Below W.heap.size W w') := Lib.hid HOPR0.out
  obtain ⟨nm0, HN0⟩ : ∃ nm0, Hid (nm0 = numW o t) := ⟨_, Lib.hid rfl⟩
  rw [← HN0.out] at HNUM
  obtain ⟨R, HR⟩ : ∃ R, Hid (R = (str o T t).1) := ⟨_, Lib.hid rfl⟩
  rw [← HR.out] at HSS hrl hrp ⊢
  have hrl2 : R.length ≤ 99998 := by omega
  have hrl3 : xs.length + R.length + 3 ≤ 100000 := by omega
  clear hok hB hT hO HB hmx h0 h1 h2 hnum hls hcu hk HP HP0 HST HLEN HOPR0 HOW HN0 HR few hTab hlen hp1 hS hcl hps hc0 hrl
  rcases hways with ⟨hw1, hw2⟩ | ⟨hw1, hw2⟩ | ⟨hw1, rfl, hw2⟩ | ⟨hw1, hw2⟩
  · have hw1b : (t.name.toList == [46]) = true := by rw [hw1]; rfl
    have hw3 : ¬ t.name.toList = [123, 125] := by rw [hw1]; decide
    have hw3b : (t.name.toList == [123, 125]) = false := by rw [hw1]; rfl
    have l1 : ((LN : Int) == 2) = false := by simp <;> omega
    have l2 : ¬ ((LN : Int) = 2) := by omega
    go_enter Tryz.func59, Tryz.ntmps59
    go_wp2_with fail
    refine (HNUM.out _ HBX).mono ?_; rintro e w1 ⟨rfl, hB1⟩
    have HX1 := Lib.hid (HX.out.call hB1)
    have y0 := HX1.out.wb.c0
    have y1 := HX1.out.wb.c1
    have y2 := HX1.out.wb.c2
    have y3 := HX1.out.wb.c3
    have z0 := HX1.out.tb.c0
    have z1 := HX1.out.tb.c1
    have z2 := HX1.out.tb.c2
    have z3 := HX1.out.tb.c3
    rw [← HL.out] at z3
    rw [HKK.out] at z0
    have hb1 := HX1.out.bel
    have GW1 := Lib.hid (HG0.out.bel hB1)
    clear HX HG0 HBX HNUM hB1
    go_wp2_with fail
    refine (HOPR.out _ hb1).mono ?_; rintro e w2 ⟨rfl, hB2⟩
    have hB2a := hB2.alloc hB2.size (.cells #[.string p.name, .int .i64 p.typ, .int .i64 p.prec] 80)
    have HXR := Lib.hid (HX1.out.call hB2a)
    have GW := Lib.hid (Gro.start (GW1.out.bel hB2a).own)
    have hbR := HXR.out.bel
    have HOB := Lib.hid ((BoxG.start w2 p 80))
    clear y0 y1 y2 y3 z0 z1 z2 z3 HX1 HOPR hB2 hB2a GW1 hb1
    go_upto_region 20 with fail
    have b0 := HOB.out.c0
    have b1 := HOB.out.c1
    have b2 := HOB.out.c2
    generalize w2.alloc (.cells #[.string p.name, .int .i64 p.typ, .int .i64 p.prec] 80) = wR at *
    have y0 := HXR.out.wb.c0
    have y1 := HXR.out.wb.c1
    have y2 := HXR.out.wb.c2
    have y3 := HXR.out.wb.c3
    have z0 := HXR.out.tb.c0
    have z1 := HXR.out.tb.c1
    have z2 := HXR.out.tb.c2
    have z3 := HXR.out.tb.c3
    rw [← HL.out] at z3
    rw [HKK.out] at z0
    have hlo := HOB.out.lt
    go_wp2_with fail
    refine (HSS.out _ hbR).mono ?_; rintro e w5 ⟨v5, rfl, hB5, hO5⟩
    have G5 := Lib.hid (GW.out.bel hB5)
    have b5 := (hB5.cell (p := ⟨w2.heap.size, 2, none⟩) hlo).trans b2
    have hFG : w.grownBy w5 v.ownBlock := bel_grown hbR G5.out.gro
    have HFA : Hid (∀ v', AtB wR v v' → AtB w v v') := Lib.hid (fun v' h => h.imp id fun ⟨k, h1, h2⟩ => ⟨k, h1, Nat.le_trans hbR.size h2⟩)
    have HFG : Hid (∀ X, wR.grownBy X v.ownBlock → w.grownBy X v.ownBlock) := Lib.hid (fun X h => bel_grown hbR h)
    have hs5 : w0.heap.size ≤ w5.heap.size := Nat.le_trans (HB0.out _ hbR).size hB5.size
    have HO5 := Lib.hid hO5
    clear b0 b1 b2 y0 y1 y2 y3 z0 z1 z2 z3 hO5 HXR HSS GW HOB hFG
    by_cases hmp : max < p.prec
    · have hmp1 : decide (max < p.prec) = true := by simpa using hmp
      have HIN := Lib.hid (r_inO w5 HO5.out (by omega))
      go_wp2_with fail
      refine HIN.out.mono ?_; rintro e w6 ⟨v6, rfl, hB6, hO6⟩
      obtain ⟨g6, c6, rfl⟩ := own_sliceN hO6 (by simp [brk])
      have G6 := Lib.hid (G5.out.bel hB6)
      have hs6 : w0.heap.size ≤ w6.heap.size := Nat.le_trans hs5 hB6.size
      have HPB : Hid (brk R (decide (max < p.prec)) = brk R true) := Lib.hid (by rw [hmp1])
      have hbl : (brk R true).length ≤ R.length + 2 := brk_le _ _
      have hbp : 0 < (brk R true).length := by simp [brk]
      have HQ := Lib.hid (own_cellsW hO6)
      obtain ⟨Q, HQE⟩ : ∃ Q, Hid (Q = brk R true) := ⟨_, Lib.hid rfl⟩
      rw [← HQE.out] at HQ hbl hbp HPB ⊢
      obtain ⟨QN, HQN⟩ : ∃ QN, Hid (QN = Q.length) := ⟨_, Lib.hid rfl⟩
      rw [← HQN.out] at hbl hbp ⊢
      clear hO6 hB6 b5 HIN G5 HO5 hB5 HQE
      go_wp2_with ((with_reducible refine at_appSS ?_); go_must (refine wpList_append_own_at _ rfl _ _ 28 rfl w0.heap.size 9 i _ 1 16 Tryz.underlying28 HI.out HZ0.out HZ1.out HZ2.out rfl (by decide) _ xs.length (xs.map Value.string) rfl G6.out.own ⟨g6, 0, none⟩ QN c6 (Q.map Value.string) rfl (by rw [List.length_map, HQN.out, Nat.mul_one]) HQ.out (strs_one _) (by unfold maxLen; omega) (by omega) hs6 ?_; intro v8 w8 ho8 hg8 _ hat8))
      have G8 := Lib.hid (G6.out.step (OwnS.join (xs := xs) (ys := Q) (by rw [HQN.out]) ho8) hg8 (AtB.of_new hat8))
      go_ret
      exact ⟨_, rfl, by rw [HPB.out]; exact G8.out.own, HFG.out _ G8.out.gro, HFA.out _ G8.out.atb⟩
    · have hmp1 : decide (max < p.prec) = false := by simpa using hmp
      have HPB : Hid (brk R (decide (max < p.prec)) = R) := Lib.hid (by rw [hmp1]; rfl)
      obtain ⟨g5, c5, rfl⟩ := own_sliceN HO5.out hrp
      have HQ := Lib.hid (own_cellsW HO5.out)
      obtain ⟨QN, HQN⟩ : ∃ QN, Hid (QN = R.length) := ⟨_, Lib.hid rfl⟩
      rw [← HQN.out] at hrl3 hrp ⊢
      clear HO5 hB5
      go_wp2_with ((with_reducible refine at_appSS ?_); go_must (refine wpList_append_own_at _ rfl _ _ 28 rfl w0.heap.size 9 i _ 1 16 Tryz.underlying28 HI.out HZ0.out HZ1.out HZ2.out rfl (by decide) _ xs.length (xs.map Value.string) rfl G5.out.own ⟨g5, 0, none⟩ QN c5 (R.map Value.string) rfl (by rw [List.length_map, HQN.out, Nat.mul_one]) HQ.out (strs_one _) (by unfold maxLen; omega) (by omega) hs5 ?_; intro v8 w8 ho8 hg8 _ hat8))
      have G8 := Lib.hid (G5.out.step (OwnS.join (xs := xs) (ys := R) (by rw [HQN.out]) ho8) hg8 (AtB.of_new hat8))
      go_ret
      exact ⟨_, rfl, by rw [HPB.out]; exact G8.out.own, HFG.out _ G8.out.gro, HFA.out _ G8.out.atb⟩
  · have hw1b : (t.name.toList == [123, 125]) = true := by rw [hw1]; rfl
    have hw3 : ¬ t.name.toList = [46] := by rw [hw1]; decide
    have hw3b : (t.name.toList == [46]) = false := by rw [hw1]; rfl
    have l1 : ((LN : Int) == 1) = false := by simp <;> omega
    have l2 : ¬ ((LN : Int) = 1) := by omega
    go_enter Tryz.func59, Tryz.ntmps59
    go_wp2_with fail
    refine (HNUM.out _ HBX).mono ?_; rintro e w1 ⟨rfl, hB1⟩
    have HX1 := Lib.hid (HX.out.call hB1)
    have y0 := HX1.out.wb.c0
    have y1 := HX1.out.wb.c1
    have y2 := HX1.out.wb.c2
    have y3 := HX1.out.wb.c3
    have z0 := HX1.out.tb.c0
    have z1 := HX1.out.tb.c1
    have z2 := HX1.out.tb.c2
    have z3 := HX1.out.tb.c3
    rw [← HL.out] at z3
    rw [HKK.out] at z0
    have hb1 := HX1.out.bel
    have GW1 := Lib.hid (HG0.out.bel hB1)
    clear HX HG0 HBX HNUM hB1
    go_wp2_with fail
    refine (HOPR.out _ hb1).mono ?_; rintro e w2 ⟨rfl, hB2⟩
    have hB2a := hB2.alloc hB2.size (.cells #[.string p.name, .int .i64 p.typ, .int .i64 p.prec] 80)
    have HXR := Lib.hid (HX1.out.call hB2a)
    have GW := Lib.hid (Gro.start (GW1.out.bel hB2a).own)
    have hbR := HXR.out.bel
    have HOB := Lib.hid ((BoxG.start w2 p 80))
    clear y0 y1 y2 y3 z0 z1 z2 z3 HX1 HOPR hB2 hB2a GW1 hb1
    go_upto_region 20 with fail
    have b0 := HOB.out.c0
    have b1 := HOB.out.c1
    have b2 := HOB.out.c2
    generalize w2.alloc (.cells #[.string p.name, .int .i64 p.typ, .int .i64 p.prec] 80) = wR at *
    have y0 := HXR.out.wb.c0
    have y1 := HXR.out.wb.c1
    have y2 := HXR.out.wb.c2
    have y3 := HXR.out.wb.c3
    have z0 := HXR.out.tb.c0
    have z1 := HXR.out.tb.c1
    have z2 := HXR.out.tb.c2
    have z3 := HXR.out.tb.c3
    rw [← HL.out] at z3
    rw [HKK.out] at z0
    have hlo := HOB.out.lt
    go_wp2_with fail
    refine (HSS.out _ hbR).mono ?_; rintro e w5 ⟨v5, rfl, hB5, hO5⟩
    have G5 := Lib.hid (GW.out.bel hB5)
    have b5 := (hB5.cell (p := ⟨w2.heap.size, 2, none⟩) hlo).trans b2
    have hFG : w.grownBy w5 v.ownBlock := bel_grown hbR G5.out.gro
    have HFA : Hid (∀ v', AtB wR v v' → AtB w v v') := Lib.hid (fun v' h => h.imp id fun ⟨k, h1, h2⟩ => ⟨k, h1, Nat.le_trans hbR.size h2⟩)
    have HFG : Hid (∀ X, wR.grownBy X v.ownBlock → w.grownBy X v.ownBlock) := Lib.hid (fun X h => bel_grown hbR h)
    have hs5 : w0.heap.size ≤ w5.heap.size := Nat.le_trans (HB0.out _ hbR).size hB5.size
    have HO5 := Lib.hid hO5
    clear b0 b1 b2 y0 y1 y2 y3 z0 z1 z2 z3 hO5 HXR HSS GW HOB hFG
    by_cases hmp : max < p.prec
    · have hmp1 : decide (max < p.prec) = true := by simpa using hmp
      have HIN := Lib.hid (r_inO w5 HO5.out (by omega))
      go_wp2_with fail
      refine HIN.out.mono ?_; rintro e w6 ⟨v6, rfl, hB6, hO6⟩
      obtain ⟨g6, c6, rfl⟩ := own_sliceN hO6 (by simp [brk])
      have G6 := Lib.hid (G5.out.bel hB6)
      have hs6 : w0.heap.size ≤ w6.heap.size := Nat.le_trans hs5 hB6.size
      have HPB : Hid (brk R (decide (max < p.prec)) = brk R true) := Lib.hid (by rw [hmp1])
      have hbl : (brk R true).length ≤ R.length + 2 := brk_le _ _
      have hbp : 0 < (brk R true).length := by simp [brk]
      have HQ := Lib.hid (own_cellsW hO6)
      obtain ⟨Q, HQE⟩ : ∃ Q, Hid (Q = brk R true) := ⟨_, Lib.hid rfl⟩
      rw [← HQE.out] at HQ hbl hbp HPB ⊢
      obtain ⟨QN, HQN⟩ : ∃ QN, Hid (QN = Q.length) := ⟨_, Lib.hid rfl⟩
      rw [← HQN.out] at hbl hbp ⊢
      clear hO6 hB6 b5 HIN G5 HO5 hB5 HQE
      go_wp2_with ((with_reducible refine at_appSS ?_); go_must (refine wpList_append_own_at _ rfl _ _ 28 rfl w0.heap.size 9 i _ 1 16 Tryz.underlying28 HI.out HZ0.out HZ1.out HZ2.out rfl (by decide) _ xs.length (xs.map Value.string) rfl G6.out.own ⟨g6, 0, none⟩ QN c6 (Q.map Value.string) rfl (by rw [List.length_map, HQN.out, Nat.mul_one]) HQ.out (strs_one _) (by unfold maxLen; omega) (by omega) hs6 ?_; intro v8 w8 ho8 hg8 _ hat8))
      have G8 := Lib.hid (G6.out.step (OwnS.join (xs := xs) (ys := Q) (by rw [HQN.out]) ho8) hg8 (AtB.of_new hat8))
      go_ret
      exact ⟨_, rfl, by rw [HPB.out]; exact G8.out.own, HFG.out _ G8.out.gro, HFA.out _ G8.out.atb⟩
    · have hmp1 : decide (max < p.prec) = false := by simpa using hmp
      have HPB : Hid (brk R (decide (max < p.prec)) = R) := Lib.hid (by rw [hmp1]; rfl)
      obtain ⟨g5, c5, rfl⟩ := own_sliceN HO5.out hrp
      have HQ := Lib.hid (own_cellsW HO5.out)
      obtain ⟨QN, HQN⟩ : ∃ QN, Hid (QN = R.length) := ⟨_, Lib.hid rfl⟩
      rw [← HQN.out] at hrl3 hrp ⊢
      clear HO5 hB5
      go_wp2_with ((with_reducible refine at_appSS ?_); go_must (refine wpList_append_own_at _ rfl _ _ 28 rfl w0.heap.size 9 i _ 1 16 Tryz.underlying28 HI.out HZ0.out HZ1.out HZ2.out rfl (by decide) _ xs.length (xs.map Value.string) rfl G5.out.own ⟨g5, 0, none⟩ QN c5 (R.map Value.string) rfl (by rw [List.length_map, HQN.out, Nat.mul_one]) HQ.out (strs_one _) (by unfold maxLen; omega) (by omega) hs5 ?_; intro v8 w8 ho8 hg8 _ hat8))
      have G8 := Lib.hid (G5.out.step (OwnS.join (xs := xs) (ys := R) (by rw [HQN.out]) ho8) hg8 (AtB.of_new hat8))
      go_ret
      exact ⟨_, rfl, by rw [HPB.out]; exact G8.out.own, HFG.out _ G8.out.gro, HFA.out _ G8.out.atb⟩
  · have hw1b : (t.name.toList == [123, 125]) = true := by rw [hw1]; rfl
    have hw3 : ¬ t.name.toList = [46] := by rw [hw1]; decide
    have hw3b : (t.name.toList == [46]) = false := by rw [hw1]; rfl
    have HIG := Lib.hid hw2
    rw [hw2] at HX HBX HG0 HNUM HOPR HSS ⊢
    clear hw2
    go_enter Tryz.func59, Tryz.ntmps59
    go_wp2_with fail
    refine (HNUM.out _ HBX).mono ?_; rintro e w1 ⟨rfl, hB1⟩
    have HX1 := Lib.hid (HX.out.call hB1)
    have y0 := HX1.out.wb.c0
    have y1 := HX1.out.wb.c1
    have y2 := HX1.out.wb.c2
    have y3 := HX1.out.wb.c3
    have z0 := HX1.out.tb.c0
    have z1 := HX1.out.tb.c1
    have z2 := HX1.out.tb.c2
    have z3 := HX1.out.tb.c3
    rw [← HL.out] at z3
    rw [HKK.out] at z0
    rw [HIG.out] at y2
    have hb1 := HX1.out.bel
    have GW1 := Lib.hid (HG0.out.bel hB1)
    clear HX HG0 HBX HNUM hB1
    go_wp2_with fail
    refine (HOPR.out _ hb1).mono ?_; rintro e w2 ⟨rfl, hB2⟩
    have hB2a := hB2.alloc hB2.size (.cells #[.string p.name, .int .i64 p.typ, .int .i64 p.prec] 80)
    have HXR := Lib.hid (HX1.out.call hB2a)
    have GW := Lib.hid (Gro.start (GW1.out.bel hB2a).own)
    have hbR := HXR.out.bel
    have HOB := Lib.hid ((BoxG.start w2 p 80))
    clear y0 y1 y2 y3 z0 z1 z2 z3 HX1 HOPR hB2 hB2a GW1 hb1
    go_upto_region 20 with fail
    have b0 := HOB.out.c0
    have b1 := HOB.out.c1
    have b2 := HOB.out.c2
    generalize w2.alloc (.cells #[.string p.name, .int .i64 p.typ, .int .i64 p.prec] 80) = wR at *
    have y0 := HXR.out.wb.c0
    have y1 := HXR.out.wb.c1
    have y2 := HXR.out.wb.c2
    have y3 := HXR.out.wb.c3
    have z0 := HXR.out.tb.c0
    have z1 := HXR.out.tb.c1
    have z2 := HXR.out.tb.c2
    have z3 := HXR.out.tb.c3
    rw [← HL.out] at z3
    rw [HKK.out] at z0
    rw [HIG.out] at y2
    have hlo := HOB.out.lt
    go_wp2_with fail
    refine (HSS.out _ hbR).mono ?_; rintro e w5 ⟨v5, rfl, hB5, hO5⟩
    have G5 := Lib.hid (GW.out.bel hB5)
    have b5 := (hB5.cell (p := ⟨w2.heap.size, 2, none⟩) hlo).trans b2
    have hFG : w.grownBy w5 v.ownBlock := bel_grown hbR G5.out.gro
    have HFA : Hid (∀ v', AtB wR v v' → AtB w v v') := Lib.hid (fun v' h => h.imp id fun ⟨k, h1, h2⟩ => ⟨k, h1, Nat.le_trans hbR.size h2⟩)
    have HFG : Hid (∀ X, wR.grownBy X v.ownBlock → w.grownBy X v.ownBlock) := Lib.hid (fun X h => bel_grown hbR h)
    have hs5 : w0.heap.size ≤ w5.heap.size := Nat.le_trans (HB0.out _ hbR).size hB5.size
    have HO5 := Lib.hid hO5
    clear b0 b1 b2 y0 y1 y2 y3 z0 z1 z2 z3 hO5 HXR HSS GW HOB hFG
    by_cases hmp : max < p.prec
    · have hmp1 : decide (max < p.prec) = true := by simpa using hmp
      have HIN := Lib.hid (r_inO w5 HO5.out (by omega))
      go_wp2_with fail
      refine HIN.out.mono ?_; rintro e w6 ⟨v6, rfl, hB6, hO6⟩
      obtain ⟨g6, c6, rfl⟩ := own_sliceN hO6 (by simp [brk])
      have G6 := Lib.hid (G5.out.bel hB6)
      have hs6 : w0.heap.size ≤ w6.heap.size := Nat.le_trans hs5 hB6.size
      have HPB : Hid (brk R (decide (max < p.prec)) = brk R true) := Lib.hid (by rw [hmp1])
      have hbl : (brk R true).length ≤ R.length + 2 := brk_le _ _
      have hbp : 0 < (brk R true).length := by simp [brk]
      have HQ := Lib.hid (own_cellsW hO6)
      obtain ⟨Q, HQE⟩ : ∃ Q, Hid (Q = brk R true) := ⟨_, Lib.hid rfl⟩
      rw [← HQE.out] at HQ hbl hbp HPB ⊢
      obtain ⟨QN, HQN⟩ : ∃ QN, Hid (QN = Q.length) := ⟨_, Lib.hid rfl⟩
      rw [← HQN.out] at hbl hbp ⊢
      clear hO6 hB6 b5 HIN G5 HO5 hB5 HQE
      go_wp2_with ((with_reducible refine at_appSS ?_); go_must (refine wpList_append_own_at _ rfl _ _ 28 rfl w0.heap.size 9 i _ 1 16 Tryz.underlying28 HI.out HZ0.out HZ1.out HZ2.out rfl (by decide) _ xs.length (xs.map Value.string) rfl G6.out.own ⟨g6, 0, none⟩ QN c6 (Q.map Value.string) rfl (by rw [List.length_map, HQN.out, Nat.mul_one]) HQ.out (strs_one _) (by unfold maxLen; omega) (by omega) hs6 ?_; intro v8 w8 ho8 hg8 _ hat8))
      have G8 := Lib.hid (G6.out.step (OwnS.join (xs := xs) (ys := Q) (by rw [HQN.out]) ho8) hg8 (AtB.of_new hat8))
      go_ret
      exact ⟨_, rfl, by rw [HPB.out]; exact G8.out.own, HFG.out _ G8.out.gro, HFA.out _ G8.out.atb⟩
    · have hmp1 : decide (max < p.prec) = false := by simpa using hmp
      have HPB : Hid (brk R (decide (max < p.prec)) = R) := Lib.hid (by rw [hmp1]; rfl)
      obtain ⟨g5, c5, rfl⟩ := own_sliceN HO5.out hrp
      have HQ := Lib.hid (own_cellsW HO5.out)
      obtain ⟨QN, HQN⟩ : ∃ QN, Hid (QN = R.length) := ⟨_, Lib.hid rfl⟩
      rw [← HQN.out] at hrl3 hrp ⊢
      clear HO5 hB5
      go_wp2_with ((with_reducible refine at_appSS ?_); go_must (refine wpList_append_own_at _ rfl _ _ 28 rfl w0.heap.size 9 i _ 1 16 Tryz.underlying28 HI.out HZ0.out HZ1.out HZ2.out rfl (by decide) _ xs.length (xs.map Value.string) rfl G5.out.own ⟨g5, 0, none⟩ QN c5 (R.map Value.string) rfl (by rw [List.length_map, HQN.out, Nat.mul_one]) HQ.out (strs_one _) (by unfold maxLen; omega) (by omega) hs5 ?_; intro v8 w8 ho8 hg8 _ hat8))
      have G8 := Lib.hid (G5.out.step (OwnS.join (xs := xs) (ys := R) (by rw [HQN.out]) ho8) hg8 (AtB.of_new hat8))
      go_ret
      exact ⟨_, rfl, by rw [HPB.out]; exact G8.out.own, HFG.out _ G8.out.gro, HFA.out _ G8.out.atb⟩
  · have hw1b : (t.name.toList == [46]) = false := by simpa using hw1
    have hw2b : (t.name.toList == [123, 125]) = false := by simpa using hw2
    go_enter Tryz.func59, Tryz.ntmps59
    go_wp2_with fail
    refine (HNUM.out _ HBX).mono ?_; rintro e w1 ⟨rfl, hB1⟩
    have HX1 := Lib.hid (HX.out.call hB1)
    have y0 := HX1.out.wb.c0
    have y1 := HX1.out.wb.c1
    have y2 := HX1.out.wb.c2
    have y3 := HX1.out.wb.c3
    have z0 := HX1.out.tb.c0
    have z1 := HX1.out.tb.c1
    have z2 := HX1.out.tb.c2
    have z3 := HX1.out.tb.c3
    rw [← HL.out] at z3
    rw [HKK.out] at z0
    have hb1 := HX1.out.bel
    have GW1 := Lib.hid (HG0.out.bel hB1)
    clear HX HG0 HBX HNUM hB1
    go_wp2_with fail
    refine (HOPR.out _ hb1).mono ?_; rintro e w2 ⟨rfl, hB2⟩
    have hB2a := hB2.alloc hB2.size (.cells #[.string p.name, .int .i64 p.typ, .int .i64 p.prec] 80)
    have HXR := Lib.hid (HX1.out.call hB2a)
    have GW := Lib.hid (Gro.start (GW1.out.bel hB2a).own)
    have hbR := HXR.out.bel
    have HOB := Lib.hid ((BoxG.start w2 p 80))
    clear y0 y1 y2 y3 z0 z1 z2 z3 HX1 HOPR hB2 hB2a GW1 hb1
    go_upto_region 20 with fail
    have b0 := HOB.out.c0
    have b1 := HOB.out.c1
    have b2 := HOB.out.c2
    generalize w2.alloc (.cells #[.string p.name, .int .i64 p.typ, .int .i64 p.prec] 80) = wR at *
    have y0 := HXR.out.wb.c0
    have y1 := HXR.out.wb.c1
    have y2 := HXR.out.wb.c2
    have y3 := HXR.out.wb.c3
    have z0 := HXR.out.tb.c0
    have z1 := HXR.out.tb.c1
    have z2 := HXR.out.tb.c2
    have z3 := HXR.out.tb.c3
    rw [← HL.out] at z3
    rw [HKK.out] at z0
    have hlo := HOB.out.lt
    go_wp2_with fail
    refine (HSS.out _ hbR).mono ?_; rintro e w5 ⟨v5, rfl, hB5, hO5⟩
    have G5 := Lib.hid (GW.out.bel hB5)
    have b5 := (hB5.cell (p := ⟨w2.heap.size, 2, none⟩) hlo).trans b2
    have hFG : w.grownBy w5 v.ownBlock := bel_grown hbR G5.out.gro
    have HFA : Hid (∀ v', AtB wR v v' → AtB w v v') := Lib.hid (fun v' h => h.imp id fun ⟨k, h1, h2⟩ => ⟨k, h1, Nat.le_trans hbR.size h2⟩)
    have HFG : Hid (∀ X, wR.grownBy X v.ownBlock → w.grownBy X v.ownBlock) := Lib.hid (fun X h => bel_grown hbR h)
    have hs5 : w0.heap.size ≤ w5.heap.size := Nat.le_trans (HB0.out _ hbR).size hB5.size
    have HO5 := Lib.hid hO5
    clear b0 b1 b2 y0 y1 y2 y3 z0 z1 z2 z3 hO5 HXR HSS GW HOB hFG
    by_cases hmp : max < p.prec
    · have hmp1 : decide (max < p.prec) = true := by simpa using hmp
      have HIN := Lib.hid (r_inO w5 HO5.out (by omega))
      go_wp2_with fail
      refine HIN.out.mono ?_; rintro e w6 ⟨v6, rfl, hB6, hO6⟩
      obtain ⟨g6, c6, rfl⟩ := own_sliceN hO6 (by simp [brk])
      have G6 := Lib.hid (G5.out.bel hB6)
      have hs6 : w0.heap.size ≤ w6.heap.size := Nat.le_trans hs5 hB6.size
      have HPB : Hid (brk R (decide (max < p.prec)) = brk R true) := Lib.hid (by rw [hmp1])
      have hbl : (brk R true).length ≤ R.length + 2 := brk_le _ _
      have hbp : 0 < (brk R true).length := by simp [brk]
      have HQ := Lib.hid (own_cellsW hO6)
      obtain ⟨Q, HQE⟩ : ∃ Q, Hid (Q = brk R true) := ⟨_, Lib.hid rfl⟩
      rw [← HQE.out] at HQ hbl hbp HPB ⊢
      obtain ⟨QN, HQN⟩ : ∃ QN, Hid (QN = Q.length) := ⟨_, Lib.hid rfl⟩
      rw [← HQN.out] at hbl hbp ⊢
      clear hO6 hB6 b5 HIN G5 HO5 hB5 HQE
      go_wp2_with ((with_reducible refine at_appSS ?_); go_must (refine wpList_append_own_at _ rfl _ _ 28 rfl w0.heap.size 9 i _ 1 16 Tryz.underlying28 HI.out HZ0.out HZ1.out HZ2.out rfl (by decide) _ xs.length (xs.map Value.string) rfl G6.out.own ⟨g6, 0, none⟩ QN c6 (Q.map Value.string) rfl (by rw [List.length_map, HQN.out, Nat.mul_one]) HQ.out (strs_one _) (by unfold maxLen; omega) (by omega) hs6 ?_; intro v8 w8 ho8 hg8 _ hat8))
      have G8 := Lib.hid (G6.out.step (OwnS.join (xs := xs) (ys := Q) (by rw [HQN.out]) ho8) hg8 (AtB.of_new hat8))
      go_ret
      exact ⟨_, rfl, by rw [HPB.out]; exact G8.out.own, HFG.out _ G8.out.gro, HFA.out _ G8.out.atb⟩
    · have hmp1 : decide (max < p.prec) = false := by simpa using hmp
      have HPB : Hid (brk R (decide (max < p.prec)) = R) := Lib.hid (by rw [hmp1]; rfl)
      obtain ⟨g5, c5, rfl⟩ := own_sliceN HO5.out hrp
      have HQ := Lib.hid (own_cellsW HO5.out)
      obtain ⟨QN, HQN⟩ : ∃ QN, Hid (QN = R.length) := ⟨_, Lib.hid rfl⟩
      rw [← HQN.out] at hrl3 hrp ⊢
      clear HO5 hB5
      go_wp2_with ((with_reducible refine at_appSS ?_); go_must (refine wpList_append_own_at _ rfl _ _ 28 rfl w0.heap.size 9 i _ 1 16 Tryz.underlying28 HI.out HZ0.out HZ1.out HZ2.out rfl (by decide) _ xs.length (xs.map Value.string) rfl G5.out.own ⟨g5, 0, none⟩ QN c5 (R.map Value.string) rfl (by rw [List.length_map, HQN.out, Nat.mul_one]) HQ.out (strs_one _) (by unfold maxLen; omega) (by omega) hs5 ?_; intro v8 w8 ho8 hg8 _ hat8))
      have G8 := Lib.hid (G5.out.step (OwnS.join (xs := xs) (ys := R) (by rw [HQN.out]) ho8) hg8 (AtB.of_new hat8))
      go_ret
      exact ⟨_, rfl, by rw [HPB.out]; exact G8.out.own, HFG.out _ G8.out.gro, HFA.out _ G8.out.atb⟩
end Go.Proofs.YtgapnafkelokaaaGreatDoor
namespace Hb
open Go Go.RowKit
theorem ba_eq {a b : ByteArray} (h : a.toList = b.toList) : a = b := by
  rw [tl_data, tl_data] at h
  exact ByteArray.ext (Array.ext' h)
theorem gets_name {T : List OpR} {s : ByteArray} {c : Int} (h : has T s c = true) : (gets T s c).name = s := by
  unfold has at h
  unfold gets
  obtain ⟨p, hp⟩ := Option.isSome_iff_exists.1 h
  rw [hp]
  unfold findR at hp
  split at hp
  · have hk := List.find?_some hp
    unfold isOp at hk
    rw [Bool.and_eq_true] at hk
    exact ba_eq (by simpa using hk.1)
  · cases hp
theorem cond_has {o : WO} {T : List OpR} {t : Tm} : (condIn o T t = true → has T t.name 2 = true ∧ t.args.length = 2) ∧ (condPre o T t = true → has T t.name 1 = true ∧ t.args.length = 1) ∧ (condPost o T t = true → has T t.name 3 = true ∧ t.args.length = 1) := by
  unfold condIn condPre condPost
  refine ⟨fun h => ?_, fun h => ?_, fun h => ?_⟩ <;> simp at h <;> exact ⟨h.2.1, h.2.2⟩
/-- What Tokens gives. -/
def wtokR (o : WO) (T : List OpR) (t : Tm) : List ByteArray × Int := if (validT t && opsValid T) = true then (pcs o T t 1200 false, 0) else ([], 1)
theorem wtokR_no {o : WO} {T : List OpR} {t : Tm} (h : (validT t && opsValid T) = false) : wtokR o T t = ([], 1) := by unfold wtokR; rw [h]; rfl
theorem wtokR_yes {o : WO} {T : List OpR} {t : Tm} (h : (validT t && opsValid T) = true) : wtokR o T t = (pcs o T t 1200 false, 0) := by unfold wtokR; rw [if_pos h]
theorem valid_few {T : List OpR} (h : opsValid T = true) : T.length ≤ 100 := by
  rcases Nat.lt_or_ge 100 T.length with h1 | h1
  · rw [opsValid_long T h1] at h; cases h
  · exact h1
/-- A term whose arguments are not too large. -/
def TopOk (t : Tm) : Prop := t.nodes ≤ 2000 ∨ (t.kind = 3 ∧ condList t = false ∧ t.nodes ≤ 5000 ∧ ∀ x ∈ t.args, x.nodes ≤ 2000)
theorem TopOk.nodes {t : Tm} (h : TopOk t) : t.nodes ≤ 5000 := by
  rcases h with h | ⟨_, _, h, _⟩
  · omega
  · exact h
theorem TopOk.args {t : Tm} (h : TopOk t) : ∀ x ∈ t.args, x.nodes ≤ 2000 := by
  rcases h with h | ⟨_, _, _, h⟩
  · exact fun x hx => by have := mem_nodes hx; omega
  · exact h
def WO.v (o : WO) : Value := .agg #[.bool o.q, .bool o.ig, .bool o.nu]
theorem Okf.of_valid {t : Tm} (h : validT t = true) (k : Tm.All (fun x => nodeFit x = true) t) : Tm.All Okf t ∧ t.nodes ≤ 2000 := by
  obtain ⟨h1, h2⟩ := (validT_iff t).1 h
  exact ⟨Okf.of h2 k, h1⟩
end Hb
namespace Go.Proofs.YtgapnafkelokaaaGreatDoor
open Go.RowKit Hb
set_option maxRecDepth 100000
/-- Every valid term goes into a row as the plain function says. -/
theorem r_into {o : WO} {T : List OpR} {TA : Option Addr} {TN TC : Nat} {w0 : World} (few : TN ≤ 400) (hTab : Tab w0 TA TN TC T) : ∀ (n : Nat) (t : Tm), t.nodes ≤ n → TopOk t → Tm.All Okf t → IOK o T TA TN TC w0 t
  | 0, t, h, _, _ => absurd h (by have := t.nodes_pos; omega)
  | n + 1, t, hn, h2, hok => by
    have hk4 := Okf.k4 hok
    rcases hk4.kind with hk | hk | hk | hk
    · exact i_var hk hok
    · exact i_int hk hok
    · exact i_atom hk few hTab hok
    · obtain ⟨e1, e2, e3⟩ := elems_less hk4
      obtain ⟨f1, f2⟩ := elems_all Okf.tm0 t.nodes t (Nat.le_refl _) hok
      have hx2 := h2.args
      have hargs : ∀ x ∈ t.args, IOK o T TA TN TC w0 x := fun x hx => r_into few hTab n x (by have := mem_nodes hx; omega) (.inl (hx2 x hx)) (hok.sub x hx)
      have harg : ∀ j, j < t.args.length → IOK o T TA TN TC w0 (t.arg j) := fun j hj => by rw [Tm.arg_get t j hj]; exact hargs _ (List.getElem_mem _)
      have hnj : ∀ j, j < t.args.length → (t.arg j).nodes ≤ 2000 := fun j hj => by rw [Tm.arg_get t j hj]; exact hx2 _ (List.getElem_mem _)
      have hnm := nodeOk_name hok.here.1
      cases c0 : isNum o t
      · cases c1 : condList t
        · cases c2 : condCur o t
          · have hop := oper_late (o := o) (T := T) hk c0 c1 c2
            obtain ⟨ch2, ch1, ch3⟩ := cond_has (o := o) (T := T) (t := t)
            cases c3 : condIn o T t
            · cases c4 : condPre o T t
              · cases c5 : condPost o T t
                · exact i_can hk hok few hTab c0 c1 c2 c3 c4 c5 hargs
                · obtain ⟨hh, hl⟩ := ch3 c5
                  rw [c3, c4, c5] at hop
                  have hs : (str o T t).1 = leftW o T (str o T) (t.arg 0) (gets T t.name 3) ++ [nmW o (gets T t.name 3).name] := by rw [str_eq o T hk4, st_5 c0 c1 c2 c3 c4 c5, rulePost_yes c5, gets_name hh]
                  have hb := left_len (o := o) (T := T) (str_len o T (hk4.arg 0)) (gets T t.name 3)
                  have hn0 := hnj 0 (by omega)
                  refine i_op hk hok few hTab c0 c1 c2 (c := 3) (p := gets T t.name 3) (by rw [hop]; rfl) (by decide) fun A' cap' W hB hT => ?_
                  rw [hs]
                  exact r_post (by rw [gets_name hh]; omega) hl (fun A2 c2 W2 hB2 hT2 => r_left few hTab (hok.arg Okf.tm0 0) (by omega) (r_term (by omega) (harg 0 (by omega))) _ (has_prec hh) A2 c2 W2 hB2 hT2) (left_pos (hk4.arg 0) _) (by omega) A' cap' W hB hT
              · obtain ⟨hh, hl⟩ := ch1 c4
                rw [c3, c4] at hop
                have hs : (str o T t).1 = nmW o (gets T t.name 1).name :: ((if spcW (gets T t.name 1).name (argPre o T (str o T) (t.arg 0) (gets T t.name 1)) = true then [s1 32] else []) ++ argPre o T (str o T) (t.arg 0) (gets T t.name 1)) := by rw [str_eq o T hk4, st_4 c0 c1 c2 c3 c4, rulePre_yes c4, gets_name hh]
                have hb := pcs_len o T (hk4.arg 0) (sideR (gets T t.name 1)) true
                have hp := pcs_pos o T (hk4.arg 0) (sideR (gets T t.name 1)) true
                have hn0 := hnj 0 (by omega)
                have hal : (argPre o T (str o T) (t.arg 0) (gets T t.name 1)).length ≤ (pcs o T (t.arg 0) (sideR (gets T t.name 1)) true).length + 2 := brk_len _ _
                have hap : 0 < (argPre o T (str o T) (t.arg 0) (gets T t.name 1)).length := brk_posW _ hp
                refine i_op hk hok few hTab c0 c1 c2 (c := 1) (p := gets T t.name 1) (by rw [hop]; rfl) (by decide) fun A' cap' W hB hT => ?_
                rw [hs]
                refine r_pre (by rw [gets_name hh]; omega) hl (fun A2 c2 W2 hB2 hT2 => r_right few hTab (hok.arg Okf.tm0 0) (by omega) (r_term (by omega) (harg 0 (by omega))) _ (has_prec hh) A2 c2 W2 hB2 hT2) (by rw [List.length_append]; omega) ?_ A' cap' W hB hT
                rw [List.length_append]
                split <;> simp only [List.length_cons, List.length_nil] <;> omega
            · obtain ⟨hh, hl⟩ := ch2 c3
              rw [c3] at hop
              have hs : (str o T t).1 = (leftW o T (str o T) (t.arg 0) (gets T t.name 2) ++ [signW o (gets T t.name 2).name]) ++ pcs o T (t.arg 1) (sideR (gets T t.name 2)) true := by rw [str_eq o T hk4, st_3 c0 c1 c2 c3, ruleIn_yes c3, gets_name hh]; rfl
              have hb := left_len (o := o) (T := T) (str_len o T (hk4.arg 0)) (gets T t.name 2)
              have hb1 := pcs_len o T (hk4.arg 1) (sideR (gets T t.name 2)) true
              have hn0 := hnj 0 (by omega)
              have hn1 := hnj 1 (by omega)
              refine i_op hk hok few hTab c0 c1 c2 (c := 2) (p := gets T t.name 2) (by rw [hop]; rfl) (by decide) fun A' cap' W hB hT => ?_
              rw [hs]
              exact r_inf (by rw [gets_name hh]; omega) (has_prec hh) hl (fun A2 c2 W2 hB2 hT2 => r_left few hTab (hok.arg Okf.tm0 0) (by omega) (r_term (by omega) (harg 0 (by omega))) _ (has_prec hh) A2 c2 W2 hB2 hT2) (fun A2 c2 W2 hB2 hT2 => r_term (by omega) (harg 1 (by omega)) _ true (sideR_nn _) A2 c2 W2 hB2 hT2) (pcs_pos o T (hk4.arg 1) _ true) (by omega) (left_pos (hk4.arg 0) _) (by omega) A' cap' W hB hT
          · have hl : t.args.length = 1 := by unfold condCur at c2; simp at c2; exact c2.2.2
            exact i_cur hk hok c0 c1 c2 (harg 0 (by omega))
        · have hc : t.isNm [46] = true ∧ t.args.length = 2 := by unfold condList at c1; simpa using c1
          have hcons : t.cons = true := by unfold Tm.cons; rw [hk, hc.1, hc.2]; rfl
          have h2k : t.nodes ≤ 2000 := by
            rcases h2 with h2 | ⟨_, h2, _, _⟩
            · exact h2
            · rw [c1] at h2; cases h2
          have h5 := (elems_k t.nodes t (Nat.le_refl _) hk4).2.2
          rw [if_pos hcons] at h5
          exact i_list hk hok c0 c1 (fun x hx => r_into few hTab n x (by have := (e1 x hx).2; omega) (.inl (by have := (e1 x hx).2; omega)) (f1 x hx)) (r_into few hTab n _ (by omega) (.inl (by omega)) f2)
      · exact i_num hk hok c0
theorem r_tok {o : WO} {T : List OpR} {TA : Option Addr} {TN TC : Nat} {w0 : World} {t : Tm} (few : TN ≤ 400) (hTab : Tab w0 TA TN TC T) (h2 : TopOk t) (hok : Tm.All Okf t) : TOK o T TA TN TC w0 t := r_term h2.nodes (r_into few hTab t.nodes t (Nat.le_refl _) h2 hok)
set_option maxHeartbeats 800000 in
theorem ops_validL (A : Option Addr) (n cap : Nat) (l : List OpR) (w : World) (hn : n = l.length) (_hm : n ≤ maxLen) (hp : OpsAt w A l) :
    Calls Tryz.prog 31 #[.slice A n cap] w fun e w' => e = .returned (.bool (opsValid l)) ∧ Below w.heap.size w w' := by
  by_cases c1 : 100 < n
  · have b1 : decide ((100 : Int) < n) = true := by simp; omega
    have HV := Lib.hid (opsValid_long l (by omega))
    clear hn hp c1
    go_enter Tryz.func31, Tryz.ntmps31
    go_wp2_with fail
    go_ret
    exact ⟨ret_bool HV.out.symm, Below.refl _ _⟩
  · exact ops_valid A n cap l w hn (by omega) hp
set_option maxHeartbeats 800000 in
theorem ref_validL (A : Option Addr) (n cap : Nat) (l : List OpR) (w : World) (hn : n = l.length) (_hm : n ≤ maxLen) (hp : OpsAt w A l) :
    Calls Tryz.prog 20 #[.slice A n cap] w fun e w' => e = .returned (.bool (opsValid l)) ∧ Below w.heap.size w w' := by
  by_cases c1 : 100 < n
  · have b1 : decide ((100 : Int) < n) = true := by simp; omega
    have HV := Lib.hid (opsValid_long l (by omega))
    clear hn hp c1
    go_enter Tryz.func20, Tryz.ntmps20
    go_wp2_with fail
    go_ret
    exact ⟨ret_bool HV.out.symm, Below.refl _ _⟩
  · exact ref_valid A n cap l w hn (by omega) hp
end Go.Proofs.YtgapnafkelokaaaGreatDoor
namespace Hb
open Go Go.RowKit
/-- Boxes of a term and of options. -/
structure TOp (w0 w : World) (t : Tm) (A : Option Addr) (cap : Nat) (o : WO) : Prop where
  bel : Below w0.heap.size w0 w
  tb : TBx w w0.heap.size t A cap
  olt : w0.heap.size + 1 < w.heap.size
  o0 : w.cell? ⟨w0.heap.size + 1, 0, none⟩ = some (.bool o.q)
  o1 : w.cell? ⟨w0.heap.size + 1, 1, none⟩ = some (.bool o.ig)
  o2 : w.cell? ⟨w0.heap.size + 1, 2, none⟩ = some (.bool o.nu)
theorem TOp.call {w0 w w' : World} {t : Tm} {A : Option Addr} {cap : Nat} {o : WO} (h : TOp w0 w t A cap o) (hB : Below w.heap.size w w') : TOp w0 w' t A cap o :=
  ⟨h.bel.trans (hB.mono h.bel.size), h.tb.call hB, Nat.lt_of_lt_of_le h.olt hB.size, (hB.cell (p := ⟨_, _, none⟩) h.olt).trans h.o0, (hB.cell (p := ⟨_, _, none⟩) h.olt).trans h.o1, (hB.cell (p := ⟨_, _, none⟩) h.olt).trans h.o2⟩
theorem TOp.start (w : World) (t : Tm) (A : Option Addr) (cap LN : Nat) (o : WO) (e1 e2 : TypeId) (hL : LN = t.args.length) :
    TOp w ((w.alloc (.cells #[.int .i64 t.kind, .int .i64 t.num, .string t.name, .slice A LN cap] e1)).alloc (.cells #[.bool o.q, .bool o.ig, .bool o.nu] e2)) t A cap o := by
  have h1 := TBx.start w t A cap LN e1 hL
  obtain ⟨W1, hW1⟩ : ∃ W1, W1 = w.alloc (.cells #[.int .i64 t.kind, .int .i64 t.num, .string t.name, .slice A LN cap] e1) := ⟨_, rfl⟩
  rw [← hW1] at h1 ⊢
  have s1 : W1.heap.size = w.heap.size + 1 := by rw [hW1]; simp
  have hB1 : Below w.heap.size w W1 := by rw [hW1]; exact (Below.refl _ _).alloc (Nat.le_refl _) _
  have hB2 : Below W1.heap.size W1 (W1.alloc (.cells #[.bool o.q, .bool o.ig, .bool o.nu] e2)) := (Below.refl _ _).alloc (Nat.le_refl _) _
  have b : ∀ j, (W1.alloc (.cells #[.bool o.q, .bool o.ig, .bool o.nu] e2)).cell? ⟨w.heap.size + 1, j, none⟩ = (#[.bool o.q, .bool o.ig, .bool o.nu] : Array Value)[j]? := fun j => by
    have := World.cell?_alloc_new W1 #[.bool o.q, .bool o.ig, .bool o.nu] e2 j
    rw [s1] at this; exact this
  exact ⟨hB1.trans (hB2.mono (by omega)), h1.call hB2, by simp; omega, b 0, b 1, b 2⟩
theorem tok_small {o : WO} {T : List OpR} {t : Tm} (hfit : Tm.All (fun x => nodeFit x = true) t) : (∀ s ∈ (wtokR o T t).1, s.size ≤ 1000000) ∧ (wtokR o T t).1.length ≤ 20000 := by
  cases h : (validT t && opsValid T)
  · rw [wtokR_no h]; exact ⟨fun s hs => (by cases hs), by decide⟩
  · have hv : validT t = true := by rw [Bool.and_eq_true] at h; exact h.1
    obtain ⟨h1, h2⟩ := Okf.of_valid hv hfit
    have h3 := pcs_len o T (Okf.k4 h1) 1200 false
    rw [wtokR_yes h]
    refine ⟨fun s hs => ?_, by show (pcs o T t 1200 false).length ≤ _; omega⟩
    have := pcs_small o T h1 1200 false s hs
    omega
/-- A text that is not too long. -/
def limR (s : ByteArray) : ByteArray × Int := if s.size ≤ 16384 then (s, 0) else (⟨#[]⟩, 2)
def joinB (l : List ByteArray) : ByteArray := ⟨(joinN (bts l)).toArray⟩
/-- What Term gives. -/
def txtR (o : WO) (T : List OpR) (t : Tm) : ByteArray × Int := if (validT t && opsValid T) = true then limR (joinB (pcs o T t 1200 false)) else (⟨#[]⟩, 1)
theorem txtR_no {o : WO} {T : List OpR} {t : Tm} (h : (validT t && opsValid T) = false) : txtR o T t = (⟨#[]⟩, 1) := by unfold txtR; rw [h]; rfl
theorem txtR_yes {o : WO} {T : List OpR} {t : Tm} (h : (validT t && opsValid T) = true) : txtR o T t = limR (joinB (pcs o T t 1200 false)) := by unfold txtR; rw [if_pos h]
theorem limR_yes {s : ByteArray} (h : s.size ≤ 16384) : limR s = (s, 0) := if_pos h
theorem limR_no {s : ByteArray} (h : ¬ s.size ≤ 16384) : limR s = (⟨#[]⟩, 2) := if_neg h
end Hb
namespace Go.Proofs.YtgapnafkelokaaaGreatDoor
open Go.RowKit Hb
set_option maxRecDepth 100000
set_option maxHeartbeats 1600000 in
theorem w_tokens {o : WO} {T : List OpR} {TA : Option Addr} {TN TC : Nat} {t : Tm} (hfit : Tm.All (fun x => nodeFit x = true) t) (A : Option Addr) (cap : Nat) (w : World) (hD : DoorOk w) (hm : TN ≤ maxLen) (hTab : Tab w TA TN TC T) (hT : TmsAt w.heap.size w A t.args) :
    Calls Tryz.prog 10 #[tmV t A cap, .slice TA TN TC, o.v] w fun e w' => ∃ v, e = .returned (.tuple #[v, .int .i64 (wtokR o T t).2]) ∧ Below w.heap.size w w' ∧ OwnS 9 w.heap.size w' v (wtokR o T t).1 := by
  have HX := Lib.hid (TOp.start w t A cap t.args.length o 24 27 rfl)
  have HV1 := Lib.hid (fun W (h : TOp w W t A cap o) => (t_valid t A cap W ((hT.keep h.bel).mono h.bel.size)).mono fun _ _ hh => (⟨hh.1, h.call hh.2⟩ : _ ∧ TOp w _ t A cap o))
  have HV2 := Lib.hid (fun W (h : TOp w W t A cap o) => (ops_validL TA TN TC T W hTab.len hm (hTab.below h.bel).ops).mono fun _ _ hh => (⟨hh.1, h.call hh.2⟩ : _ ∧ TOp w _ t A cap o))
  have HTM := Lib.hid (fun (h1 : validT t = true) (h2 : opsValid T = true) W (h : TOp w W t A cap o) => (w_term (w_pok (o := o) (T := T) (TA := TA) (TN := TN) (TC := TC) (Okf.of_valid h1 hfit).2 (Okf.of_valid h1 hfit).1) 1200 A cap W ⟨hD.below h.bel, hTab.below h.bel, by have := valid_few h2; have := hTab.len; omega⟩ ((hT.keep h.bel).mono h.bel.size)).mono fun _ _ hh => (hh.imp fun _ hv => ⟨hv.1, h.bel.trans (hv.2.1.mono h.bel.size), hv.2.2.mono h.bel.size⟩ : ∃ v, _ ∧ Below w.heap.size w _ ∧ OwnS 9 w.heap.size _ v _))
  clear hT hTab hD hfit
  unfold tmV WO.v wrV at *
  generalize hLN : t.args.length = LN at *
  have HL := Lib.hid hLN
  clear hLN
  cases h1 : validT t
  · have HN := Lib.hid (wtokR_no (o := o) (T := T) (t := t) (by rw [h1]; rfl))
    rw [h1] at HV1
    rw [HN.out]
    clear HTM HV2 h1
    go_enter Tryz.func10, Tryz.ntmps10
    go_wp2_with fail
    refine (HV1.out _ HX.out).mono ?_; rintro e w1 ⟨rfl, hX1⟩
    have hbel := hX1.bel
    go_wp2_with fail
    exact bodyPost_ret (v := .tuple #[.slice none 0 0, .int .i64 1]) (by simp [results, Tryz.results10, go_sem]) rfl ⟨_, rfl, hbel, OwnS.nil _ _ _⟩
  · cases h2 : opsValid T
    · have HN := Lib.hid (wtokR_no (o := o) (T := T) (t := t) (by rw [h1, h2]; rfl))
      rw [h1] at HV1
      rw [h2] at HV2
      rw [HN.out]
      clear HTM h1 h2
      go_enter Tryz.func10, Tryz.ntmps10
      go_wp2_with fail
      refine (HV1.out _ HX.out).mono ?_; rintro e w1 ⟨rfl, hX1⟩
      go_wp2_with fail
      refine (HV2.out _ hX1).mono ?_; rintro e w2 ⟨rfl, hX2⟩
      have hbel := hX2.bel
      go_wp2_with fail
      exact bodyPost_ret (v := .tuple #[.slice none 0 0, .int .i64 1]) (by simp [results, Tryz.results10, go_sem]) rfl ⟨_, rfl, hbel, OwnS.nil _ _ _⟩
    · have HN := Lib.hid (wtokR_yes (o := o) (T := T) (t := t) (by rw [h1, h2]; rfl))
      have HTM := Lib.hid (HTM.out h1 h2)
      rw [h1] at HV1
      rw [h2] at HV2
      rw [HN.out]
      clear h1 h2
      go_enter Tryz.func10, Tryz.ntmps10
      go_wp2_with fail
      refine (HV1.out _ HX.out).mono ?_; rintro e w1 ⟨rfl, hX1⟩
      go_wp2_with fail
      refine (HV2.out _ hX1).mono ?_; rintro e w2 ⟨rfl, hX2⟩
      have c0 := hX2.tb.c0
      have c1 := hX2.tb.c1
      have c2 := hX2.tb.c2
      have c3 := hX2.tb.c3
      rw [HL.out] at c3
      have d0 := hX2.o0
      have d1 := hX2.o1
      have d2 := hX2.o2
      go_wp2_with fail
      refine (HTM.out _ hX2).mono ?_; rintro e w3 ⟨v, rfl, hB, hO⟩
      go_wp2_with fail
      exact bodyPost_ret (v := .tuple #[v, .int .i64 0]) (by simp [results, Tryz.results10, go_sem]) rfl ⟨_, rfl, hB, hO⟩
set_option maxHeartbeats 1600000 in
theorem r_tokens {o : WO} {T : List OpR} {TA : Option Addr} {TN TC : Nat} {t : Tm} (hfit : Tm.All (fun x => nodeFit x = true) t) (A : Option Addr) (cap : Nat) (w : World) (hm : TN ≤ maxLen) (hTab : Tab w TA TN TC T) (hT : TmsAt w.heap.size w A t.args) :
    Calls Tryz.prog 11 #[tmV t A cap, .slice TA TN TC, o.v] w fun e w' => ∃ v, e = .returned (.tuple #[v, .int .i64 (wtokR o T t).2]) ∧ Below w.heap.size w w' ∧ OwnS 9 w.heap.size w' v (wtokR o T t).1 := by
  have HX := Lib.hid (TOp.start w t A cap t.args.length o 24 27 rfl)
  have HV1 := Lib.hid (fun W (h : TOp w W t A cap o) => (ref_tvalid t A cap W ((hT.keep h.bel).mono h.bel.size)).mono fun _ _ hh => (⟨hh.1, h.call hh.2⟩ : _ ∧ TOp w _ t A cap o))
  have HV2 := Lib.hid (fun W (h : TOp w W t A cap o) => (ref_validL TA TN TC T W hTab.len hm (hTab.below h.bel).ops).mono fun _ _ hh => (⟨hh.1, h.call hh.2⟩ : _ ∧ TOp w _ t A cap o))
  have HTM := Lib.hid (fun (h1 : validT t = true) (h2 : opsValid T = true) W (h : TOp w W t A cap o) => ((r_tok (o := o) (w0 := w) (by have := valid_few h2; have := hTab.len; omega) hTab (.inl (Okf.of_valid h1 hfit).2) (Okf.of_valid h1 hfit).1) 1200 false (by decide) A cap W h.bel hT).mono fun _ _ hh => (hh.imp fun _ hv => ⟨hv.1, h.bel.trans (hv.2.1.mono h.bel.size), hv.2.2.mono h.bel.size⟩ : ∃ v, _ ∧ Below w.heap.size w _ ∧ OwnS 9 w.heap.size _ v _))
  clear hT hTab hfit
  unfold tmV WO.v rwV at *
  generalize hLN : t.args.length = LN at *
  have HL := Lib.hid hLN
  clear hLN
  cases h1 : validT t
  · have HN := Lib.hid (wtokR_no (o := o) (T := T) (t := t) (by rw [h1]; rfl))
    rw [h1] at HV1
    rw [HN.out]
    clear HTM HV2 h1
    go_enter Tryz.func11, Tryz.ntmps11
    go_wp2_with fail
    refine (HV1.out _ HX.out).mono ?_; rintro e w1 ⟨rfl, hX1⟩
    have hbel := hX1.bel
    go_wp2_with fail
    exact bodyPost_ret (v := .tuple #[.slice none 0 0, .int .i64 1]) (by simp [results, Tryz.results11, go_sem]) rfl ⟨_, rfl, hbel, OwnS.nil _ _ _⟩
  · cases h2 : opsValid T
    · have HN := Lib.hid (wtokR_no (o := o) (T := T) (t := t) (by rw [h1, h2]; rfl))
      rw [h1] at HV1
      rw [h2] at HV2
      rw [HN.out]
      clear HTM h1 h2
      go_enter Tryz.func11, Tryz.ntmps11
      go_wp2_with fail
      refine (HV1.out _ HX.out).mono ?_; rintro e w1 ⟨rfl, hX1⟩
      go_wp2_with fail
      refine (HV2.out _ hX1).mono ?_; rintro e w2 ⟨rfl, hX2⟩
      have hbel := hX2.bel
      go_wp2_with fail
      exact bodyPost_ret (v := .tuple #[.slice none 0 0, .int .i64 1]) (by simp [results, Tryz.results11, go_sem]) rfl ⟨_, rfl, hbel, OwnS.nil _ _ _⟩
    · have HN := Lib.hid (wtokR_yes (o := o) (T := T) (t := t) (by rw [h1, h2]; rfl))
      have HTM := Lib.hid (HTM.out h1 h2)
      rw [h1] at HV1
      rw [h2] at HV2
      rw [HN.out]
      clear h1 h2
      go_enter Tryz.func11, Tryz.ntmps11
      go_wp2_with fail
      refine (HV1.out _ HX.out).mono ?_; rintro e w1 ⟨rfl, hX1⟩
      go_wp2_with fail
      refine (HV2.out _ hX1).mono ?_; rintro e w2 ⟨rfl, hX2⟩
      have c0 := hX2.tb.c0
      have c1 := hX2.tb.c1
      have c2 := hX2.tb.c2
      have c3 := hX2.tb.c3
      rw [HL.out] at c3
      have d0 := hX2.o0
      have d1 := hX2.o1
      have d2 := hX2.o2
      go_wp2_with fail
      refine (HTM.out _ hX2).mono ?_; rintro e w3 ⟨v, rfl, hB, hO⟩
      go_wp2_with fail
      exact bodyPost_ret (v := .tuple #[v, .int .i64 0]) (by simp [results, Tryz.results11, go_sem]) rfl ⟨_, rfl, hB, hO⟩
theorem w_limited (s : ByteArray) (w : World) (hs : s.size ≤ maxLen) : Calls Tryz.prog 34 #[.string s] w fun e w' => e = .returned (.tuple #[.string (limR s).1, .int .i64 (limR s).2]) ∧ w = w' := by
  unfold maxLen at hs
  by_cases h : s.size ≤ 16384
  · have hb : decide ((16384 : Int) < (s.size : Int)) = false := by simp; omega
    rw [limR_yes h]
    go_enter Tryz.func34, Tryz.ntmps34
    go_wp2_with fail
    exact bodyPost_ret (v := .tuple #[.string s, .int .i64 0]) (by simp [results, Tryz.results34, go_sem]) rfl ⟨rfl, rfl⟩
  · have hb : decide ((16384 : Int) < (s.size : Int)) = true := by simp; omega
    rw [limR_no h]
    go_enter Tryz.func34, Tryz.ntmps34
    go_wp2_with fail
    exact bodyPost_ret (v := .tuple #[.string ⟨#[]⟩, .int .i64 2]) (by simp [results, Tryz.results34, go_sem]) rfl ⟨rfl, rfl⟩
theorem joinB_size {l : List ByteArray} (h : ∀ s ∈ l, s.size ≤ 1000000) (hn : l.length ≤ 50000) : (joinB l).size ≤ 50000050000 := by
  have h1 := joinN_len 1000000 l h
  unfold joinB
  rw [size_mk']
  refine Nat.le_trans h1 (Nat.le_trans (Nat.mul_le_mul_right _ hn) (by decide))
/-- Join, of a row of the call's own. -/
theorem w_joinO {b : Nat} {v : Value} {l : List ByteArray} (w : World) (h : OwnS 9 b w v l) (hn : l.length ≤ 50000) (hz : ∀ s ∈ l, s.size ≤ 1000000) :
    Calls Tryz.prog 35 #[v] w fun e w' => e = .returned (.string (joinB l)) ∧ Below w.heap.size w w' := by
  obtain ⟨A, c, rfl, hs, _⟩ := h.strs
  exact sp_join A l.length c l w rfl (by omega) hs hz
theorem r_joinO {b : Nat} {v : Value} {l : List ByteArray} (w : World) (h : OwnS 9 b w v l) (hn : l.length ≤ 50000) (hz : ∀ s ∈ l, s.size ≤ 1000000) :
    Calls Tryz.prog 18 #[v] w fun e w' => e = .returned (.string (joinB l)) ∧ Below w.heap.size w w' := by
  obtain ⟨A, c, rfl, hs, _⟩ := h.strs
  exact r11_join A l.length c l w rfl (by omega) hs hz
set_option maxHeartbeats 1600000 in
theorem w_text {o : WO} {T : List OpR} {TA : Option Addr} {TN TC : Nat} {t : Tm} (hfit : Tm.All (fun x => nodeFit x = true) t) (A : Option Addr) (cap : Nat) (w : World) (hD : DoorOk w) (hm : TN ≤ maxLen) (hTab : Tab w TA TN TC T) (hT : TmsAt w.heap.size w A t.args) :
    Calls Tryz.prog 12 #[tmV t A cap, .slice TA TN TC, o.v] w fun e w' => e = .returned (.tuple #[.string (txtR o T t).1, .int .i64 (txtR o T t).2]) ∧ Below w.heap.size w w' := by
  have HX := Lib.hid (TOp.start w t A cap t.args.length o 24 27 rfl)
  have HBX := HX.out.bel
  have HTK := Lib.hid ((w_tokens hfit (o := o) (TC := TC) A cap _ (hD.below HBX) hm (hTab.below HBX) ((hT.keep HBX).mono HBX.size)).mono fun _ _ hh => (hh.imp fun _ hv => ⟨hv.1, HBX.trans (hv.2.1.mono HBX.size), hv.2.2.mono HBX.size⟩ : ∃ v, _ ∧ Below w.heap.size w _ ∧ OwnS 9 w.heap.size _ v _))
  obtain ⟨hz, hl⟩ := tok_small (o := o) (T := T) hfit
  have HZ := Lib.hid hz
  clear hT hTab hD hfit hz HX HBX
  unfold tmV WO.v at *
  generalize hLN : t.args.length = LN at *
  have HL := Lib.hid hLN
  clear hLN
  cases h1 : (validT t && opsValid T)
  · rw [txtR_no h1]
    rw [wtokR_no h1] at HTK
    go_enter Tryz.func12, Tryz.ntmps12
    go_wp2_with fail
    refine HTK.out.mono ?_; rintro e w1 ⟨v1, rfl, hB1, hO1⟩
    go_wp2_with fail
    exact bodyPost_ret (v := .tuple #[.string ⟨#[]⟩, .int .i64 1]) (by simp [results, Tryz.results12, go_sem]) rfl ⟨rfl, hB1⟩
  · rw [txtR_yes h1]
    rw [wtokR_yes h1] at HTK HZ hl
    have HJ := Lib.hid (fun v W (h : OwnS 9 w.heap.size W v (pcs o T t 1200 false)) => w_joinO W h (by show (pcs o T t 1200 false).length ≤ _; exact Nat.le_trans hl (by decide)) HZ.out)
    have hjs : (joinB (pcs o T t 1200 false)).size ≤ 50000050000 := joinB_size HZ.out (Nat.le_trans hl (by decide))
    have HLM := Lib.hid (fun W => w_limited (joinB (pcs o T t 1200 false)) W (by unfold maxLen; omega))
    have HR : Hid ((limR (joinB (pcs o T t 1200 false))).2 = (limR (joinB (pcs o T t 1200 false))).2) := Lib.hid rfl
    clear hl HZ h1 hjs
    generalize limR (joinB (pcs o T t 1200 false)) = r at *
    generalize joinB (pcs o T t 1200 false) = js at *
    generalize pcs o T t 1200 false = ps at *
    clear HR
    go_enter Tryz.func12, Tryz.ntmps12
    go_wp2_with fail
    refine HTK.out.mono ?_; rintro e w1 ⟨v1, rfl, hB1, hO1⟩
    have HO1 := Lib.hid hO1
    clear hO1
    go_wp2_with fail
    refine (HJ.out _ _ HO1.out).mono ?_; rintro e w2 ⟨rfl, hB2⟩
    have hB3 := hB1.trans (hB2.mono hB1.size)
    go_wp2_with fail
    refine (HLM.out _).mono ?_; rintro e w3 ⟨rfl, rfl⟩
    go_wp2_with fail
    exact bodyPost_ret (v := .tuple #[.string r.1, .int .i64 r.2]) (by simp [results, Tryz.results12, go_sem]) rfl ⟨rfl, hB3⟩
set_option maxHeartbeats 1600000 in
theorem r_text {o : WO} {T : List OpR} {TA : Option Addr} {TN TC : Nat} {t : Tm} (hfit : Tm.All (fun x => nodeFit x = true) t) (A : Option Addr) (cap : Nat) (w : World) (hm : TN ≤ maxLen) (hTab : Tab w TA TN TC T) (hT : TmsAt w.heap.size w A t.args) :
    Calls Tryz.prog 13 #[tmV t A cap, .slice TA TN TC, o.v] w fun e w' => e = .returned (.tuple #[.string (txtR o T t).1, .int .i64 (txtR o T t).2]) ∧ Below w.heap.size w w' := by
  have HX := Lib.hid (TOp.start w t A cap t.args.length o 24 27 rfl)
  have HBX := HX.out.bel
  have HTK := Lib.hid ((r_tokens hfit (o := o) (TC := TC) A cap _ hm (hTab.below HBX) ((hT.keep HBX).mono HBX.size)).mono fun _ _ hh => (hh.imp fun _ hv => ⟨hv.1, HBX.trans (hv.2.1.mono HBX.size), hv.2.2.mono HBX.size⟩ : ∃ v, _ ∧ Below w.heap.size w _ ∧ OwnS 9 w.heap.size _ v _))
  obtain ⟨hz, hl⟩ := tok_small (o := o) (T := T) hfit
  have HZ := Lib.hid hz
  clear hT hTab hfit hz HX HBX
  unfold tmV WO.v at *
  generalize hLN : t.args.length = LN at *
  have HL := Lib.hid hLN
  clear hLN
  cases h1 : (validT t && opsValid T)
  · rw [txtR_no h1]
    rw [wtokR_no h1] at HTK
    go_enter Tryz.func13, Tryz.ntmps13
    go_wp2_with fail
    refine HTK.out.mono ?_; rintro e w1 ⟨v1, rfl, hB1, hO1⟩
    go_wp2_with fail
    exact bodyPost_ret (v := .tuple #[.string ⟨#[]⟩, .int .i64 1]) (by simp [results, Tryz.results13, go_sem]) rfl ⟨rfl, hB1⟩
  · rw [txtR_yes h1]
    rw [wtokR_yes h1] at HTK HZ hl
    have HJ := Lib.hid (fun v W (h : OwnS 9 w.heap.size W v (pcs o T t 1200 false)) => r_joinO W h (by show (pcs o T t 1200 false).length ≤ _; exact Nat.le_trans hl (by decide)) HZ.out)
    have hjs : (joinB (pcs o T t 1200 false)).size ≤ 50000050000 := joinB_size HZ.out (Nat.le_trans hl (by decide))
    have HLM := Lib.hid (limR_yes (s := joinB (pcs o T t 1200 false)))
    have HLN := Lib.hid (limR_no (s := joinB (pcs o T t 1200 false)))
    clear hl HZ h1
    generalize limR (joinB (pcs o T t 1200 false)) = r at *
    generalize joinB (pcs o T t 1200 false) = js at *
    generalize pcs o T t 1200 false = ps at *
    by_cases hc : js.size ≤ 16384
    · have hb : decide ((16384 : Int) < (js.size : Int)) = false := by simp; omega
      rw [HLM.out hc]
      go_enter Tryz.func13, Tryz.ntmps13
      go_wp2_with fail
      refine HTK.out.mono ?_; rintro e w1 ⟨v1, rfl, hB1, hO1⟩
      have HO1 := Lib.hid hO1
      clear hO1
      go_wp2_with fail
      refine (HJ.out _ _ HO1.out).mono ?_; rintro e w2 ⟨rfl, hB2⟩
      have hB3 := hB1.trans (hB2.mono hB1.size)
      go_wp2_with fail
      exact bodyPost_ret (v := .tuple #[.string js, .int .i64 0]) (by simp [results, Tryz.results13, go_sem]) rfl ⟨rfl, hB3⟩
    · have hb : decide ((16384 : Int) < (js.size : Int)) = true := by simp; omega
      rw [HLN.out hc]
      go_enter Tryz.func13, Tryz.ntmps13
      go_wp2_with fail
      refine HTK.out.mono ?_; rintro e w1 ⟨v1, rfl, hB1, hO1⟩
      have HO1 := Lib.hid hO1
      clear hO1
      go_wp2_with fail
      refine (HJ.out _ _ HO1.out).mono ?_; rintro e w2 ⟨rfl, hB2⟩
      have hB3 := hB1.trans (hB2.mono hB1.size)
      go_wp2_with fail
      exact bodyPost_ret (v := .tuple #[.string ⟨#[]⟩, .int .i64 2]) (by simp [results, Tryz.results13, go_sem]) rfl ⟨rfl, hB3⟩
end Go.Proofs.YtgapnafkelokaaaGreatDoor
namespace Hb
open Go Go.RowKit
/-- A row of terms that was just built. -/
theorem tms_row {w : World} (e : TypeId) (rs : List TR) (hm : rs.length ≤ maxLen) (hrs : ∀ r ∈ rs, TmsAt w.heap.size w r.2.1 r.1.args) : TmsAt (w.alloc (.cells (rowsC rs).toArray e)).heap.size (w.alloc (.cells (rowsC rs).toArray e)) (some ⟨w.heap.size, 0, none⟩) (rs.map (·.1)) := by
  have hB : Below w.heap.size w (w.alloc (.cells (rowsC rs).toArray e)) := (Below.refl _ _).alloc (Nat.le_refl _) _
  have hs : (w.alloc (.cells (rowsC rs).toArray e)).heap.size = w.heap.size + 1 := by simp
  have hc : ∀ k u, (rowsC rs)[k]? = some u → (w.alloc (.cells (rowsC rs).toArray e)).cell? ⟨w.heap.size, 0 + k, none⟩ = some u := fun k u hu => by
    rw [Nat.zero_add, World.cell?_alloc_new]; simpa using hu
  refine .mk _ _ (fun j => (rs.getD j (tm0, none, 0)).2.1) (fun j => (rs.getD j (tm0, none, 0)).2.2) (by rw [List.length_map]; exact hm) (fun j hj => ?_) (fun j hj => ?_)
  · rw [List.length_map] at hj
    obtain ⟨p0, p1, p2, p3⟩ := rowsC_get rs j hj
    have e1 : rs.getD j (tm0, none, 0) = rs[j] := by rw [List.getD_eq_getElem?_getD, List.getElem?_eq_getElem hj]; rfl
    refine ⟨w.heap.size, 0, rfl, by rw [hs]; omega, ?_, ?_, ?_, ?_⟩
    · rw [List.getElem_map]; exact hc _ _ p0
    · rw [List.getElem_map]; exact hc _ _ p1
    · rw [List.getElem_map]; exact hc _ _ p2
    · rw [List.getElem_map]; simp only [e1]; exact hc _ _ p3
  · rw [List.length_map] at hj
    have e1 : rs.getD j (tm0, none, 0) = rs[j] := by rw [List.getD_eq_getElem?_getD, List.getElem?_eq_getElem hj]; rfl
    rw [List.getElem_map]; simp only [e1]
    exact ((hrs _ (List.getElem_mem hj)).keep hB).mono hB.size
end Hb
namespace Go.Proofs.YtgapnafkelokaaaGreatDoor
open Go.RowKit Hb
set_option maxRecDepth 100000
theorem law_atom (s : ByteArray) (w : World) : Calls Tryz.prog 22 #[.string s] w fun e w' => e = .returned (.agg #[.int .i64 2, .int .i64 0, .string s, .slice none 0 0]) ∧ Below w.heap.size w w' := by
  have hB := (Below.refl w.heap.size w).alloc (Nat.le_refl _) (.cells #[.int .i64 2, .int .i64 0, .string s, .slice none 0 0] 24)
  go_enter Tryz.func22, Tryz.ntmps22
  go_wp2_with fail
  exact bodyPost_ret (v := .agg #[.int .i64 2, .int .i64 0, .string s, .slice none 0 0]) (by simp [results, Tryz.results22, go_sem]) rfl ⟨rfl, hB⟩
theorem law_number (n : Int) (w : World) : Calls Tryz.prog 37 #[.int .i64 n] w fun e w' => e = .returned (.agg #[.int .i64 1, .int .i64 n, .string ⟨#[]⟩, .slice none 0 0]) ∧ Below w.heap.size w w' := by
  have hB := (Below.refl w.heap.size w).alloc (Nat.le_refl _) (.cells #[.int .i64 1, .int .i64 n, .string ⟨#[]⟩, .slice none 0 0] 24)
  go_enter Tryz.func37, Tryz.ntmps37
  go_wp2_with fail
  exact bodyPost_ret (v := .agg #[.int .i64 1, .int .i64 n, .string ⟨#[]⟩, .slice none 0 0]) (by simp [results, Tryz.results37, go_sem]) rfl ⟨rfl, hB⟩
theorem law_structure (s : ByteArray) (A : Option Addr) (n c : Nat) (w : World) : Calls Tryz.prog 23 #[.string s, .slice A n c] w fun e w' => e = .returned (.agg #[.int .i64 3, .int .i64 0, .string s, .slice A n c]) ∧ Below w.heap.size w w' := by
  have hB := (Below.refl w.heap.size w).alloc (Nat.le_refl _) (.cells #[.int .i64 3, .int .i64 0, .string s, .slice A n c] 24)
  go_enter Tryz.func23, Tryz.ntmps23
  go_wp2_with fail
  exact bodyPost_ret (v := .agg #[.int .i64 3, .int .i64 0, .string s, .slice A n c]) (by simp [results, Tryz.results23, go_sem]) rfl ⟨rfl, hB⟩
set_option maxHeartbeats 800000 in
theorem law_pieces (A B : Option Addr) (n c1 c2 : Nat) (l : List ByteArray) (w : World) (hn : n = l.length) (hm : n ≤ maxLen) (h1 : StrsAt w A l) (h2 : StrsAt w B l) :
    Calls Tryz.prog 14 #[.slice A n c1, .slice B n c2] w fun e w' => e = .returned (.bool true) ∧ Below w.heap.size w w' := by
  have HN := Lib.hid hn
  have H1 := Lib.hid h1
  have H2 := Lib.hid h2
  clear h1 h2 hn
  unfold maxLen at hm
  go_enter Tryz.func14, Tryz.ntmps14
  go_wp2_with fail
  go_loopw [5] (fun i wr => ∃ k m : Nat, k ≤ n ∧ i = .int .i64 k ∧ wr = w.drewN m) (fun i _ => n - (intOf i).toNat)
  case atStart => exact ⟨0, 0, Nat.zero_le _, rfl, rfl⟩
  case round =>
    obtain ⟨k, m, hk, rfl, rfl⟩ := hrel
    by_cases hlt : k < n
    · have hkl : k < l.length := by have := HN.out; omega
      obtain ⟨g, off, rfl, hg, cc⟩ := H1.out k hkl
      obtain ⟨g', off', rfl, hg', cc'⟩ := H2.out k hkl
      generalize l[k] = s at *
      go_wp2_with fail
      go_quiet (fail)
      go_wp2_with fail
      go_roundw
      case rel => exact ⟨k + 1, _, by omega, by go_num, rfl⟩
      case measure => simp [intOf]; omega
    · go_wp2_with fail
      go_ret
      exact ⟨rfl, bl_drewN (Below.refl _ _) m⟩
end Go.Proofs.YtgapnafkelokaaaGreatDoor
