/- Writing: structure. -/
import Derived.Test.YtgapnafkelokaaaGreatDoorM14
namespace Hb
open Go Go.RowKit
variable {o : WO} {T : List OpR} {S : Tm → WR} {t : Tm}
theorem not_of {b : Bool} (h : b = false) : ¬ b = true := by rw [h]; decide
theorem st_0  (h : isNum o t = true) : stF o T S t = ruleNum o t := by
  unfold stF
  exact ((if_pos h).trans (if_pos h).symm)
theorem st_1 (h0 : isNum o t = false) (h : condList t = true) : stF o T S t = ruleList o T S t := by
  unfold stF
  exact ((if_neg (not_of h0)).trans ((if_pos h).trans (if_pos h).symm))
theorem st_2 (h0 : isNum o t = false) (h1 : condList t = false) (h : condCur o t = true) : stF o T S t = ruleCur o T S t := by
  unfold stF
  exact ((if_neg (not_of h0)).trans ((if_neg (not_of h1)).trans ((if_pos h).trans (if_pos h).symm)))
theorem st_3 (h0 : isNum o t = false) (h1 : condList t = false) (h2 : condCur o t = false) (h : condIn o T t = true) : stF o T S t = ruleIn o T S t := by
  unfold stF
  exact ((if_neg (not_of h0)).trans ((if_neg (not_of h1)).trans ((if_neg (not_of h2)).trans ((if_pos h).trans (if_pos h).symm))))
theorem st_4 (h0 : isNum o t = false) (h1 : condList t = false) (h2 : condCur o t = false) (h3 : condIn o T t = false) (h : condPre o T t = true) : stF o T S t = rulePre o T S t := by
  unfold stF
  exact ((if_neg (not_of h0)).trans ((if_neg (not_of h1)).trans ((if_neg (not_of h2)).trans ((if_neg (not_of h3)).trans ((if_pos h).trans (if_pos h).symm)))))
theorem st_5 (h0 : isNum o t = false) (h1 : condList t = false) (h2 : condCur o t = false) (h3 : condIn o T t = false) (h4 : condPre o T t = false) (h : condPost o T t = true) : stF o T S t = rulePost o T S t := by
  unfold stF
  exact ((if_neg (not_of h0)).trans ((if_neg (not_of h1)).trans ((if_neg (not_of h2)).trans ((if_neg (not_of h3)).trans ((if_neg (not_of h4)).trans ((if_pos h).trans (if_pos h).symm))))))
theorem st_6 (h0 : isNum o t = false) (h1 : condList t = false) (h2 : condCur o t = false) (h3 : condIn o T t = false) (h4 : condPre o T t = false) (h5 : condPost o T t = false) : stF o T S t = (nmW o t.name :: (s1 40 :: (rowW (argW o T S) t.args ++ [s1 41])), op0) := by
  unfold stF
  exact ((if_neg (not_of h0)).trans ((if_neg (not_of h1)).trans ((if_neg (not_of h2)).trans ((if_neg (not_of h3)).trans ((if_neg (not_of h4)).trans ((if_neg (not_of h5)).trans rfl))))))
end Hb
namespace Go.Proofs.YtgapnafkelokaaaGreatDoor
open Go.RowKit Hb
set_option maxRecDepth 100000
variable {o : WO} {T : List OpR} {TA : Option Addr} {TN TC : Nat} {S : Tm → WR}
theorem run_ix0 (a0 a1 a2 a3 a4 a5 : Value) (w : World) : (Instr.index 172 (.agg #[a0, a1, a2, a3, a4, a5]) (.int .i64 0)).run Tryz.prog w = .ok a0 w := by
  have h := Tryz.underlying172
  simp [Instr.index, run_underlying h, asIntOf, go_sem]
theorem run_ix1 (a0 a1 a2 a3 a4 a5 : Value) (w : World) : (Instr.index 172 (.agg #[a0, a1, a2, a3, a4, a5]) (.int .i64 1)).run Tryz.prog w = .ok a1 w := by
  have h := Tryz.underlying172
  simp [Instr.index, run_underlying h, asIntOf, go_sem]
theorem run_ix2 (a0 a1 a2 a3 a4 a5 : Value) (w : World) : (Instr.index 172 (.agg #[a0, a1, a2, a3, a4, a5]) (.int .i64 2)).run Tryz.prog w = .ok a2 w := by
  have h := Tryz.underlying172
  simp [Instr.index, run_underlying h, asIntOf, go_sem]
theorem run_ix3 (a0 a1 a2 a3 a4 a5 : Value) (w : World) : (Instr.index 172 (.agg #[a0, a1, a2, a3, a4, a5]) (.int .i64 3)).run Tryz.prog w = .ok a3 w := by
  have h := Tryz.underlying172
  simp [Instr.index, run_underlying h, asIntOf, go_sem]
theorem run_ix4 (a0 a1 a2 a3 a4 a5 : Value) (w : World) : (Instr.index 172 (.agg #[a0, a1, a2, a3, a4, a5]) (.int .i64 4)).run Tryz.prog w = .ok a4 w := by
  have h := Tryz.underlying172
  simp [Instr.index, run_underlying h, asIntOf, go_sem]
theorem run_ix5 (a0 a1 a2 a3 a4 a5 : Value) (w : World) : (Instr.index 172 (.agg #[a0, a1, a2, a3, a4, a5]) (.int .i64 5)).run Tryz.prog w = .ok a5 w := by
  have h := Tryz.underlying172
  simp [Instr.index, run_underlying h, asIntOf, go_sem]
theorem own_cells {e b g n c : Nat} {w : World} {l : List ByteArray} (h : OwnS e b w (.slice (some ⟨g, 0, none⟩) n c) l) : ∀ j u, (l.map Value.string)[j]? = some u → w.cell? ((⟨g, 0, none⟩ : Addr).add j) = some u := by
  unfold OwnS at h
  exact h.cells (g := g) rfl
theorem between_own (x y : ByteArray) {b : Nat} {X : World} {v : Value} {l : List ByteArray} (h : OwnS 9 b X v l) (hm : l.length ≤ 100000) :
    Calls Tryz.prog 118 #[.string x, v, .string y] X fun e w' => ∃ g c, e = .returned (.slice (some ⟨g, 0, none⟩) (x :: (l ++ [y])).length c) ∧ Below X.heap.size X w' ∧ OwnS 9 X.heap.size w' (.slice (some ⟨g, 0, none⟩) (x :: (l ++ [y])).length c) (x :: (l ++ [y])) := by
  obtain ⟨A, n, c, rfl, hn, hs, hh⟩ := h.strN
  refine (w_between x y A n c l X hn (by omega) hs hh).mono ?_
  rintro e w' ⟨v, rfl, hB, hO⟩
  obtain ⟨g, c', rfl, _⟩ := own_pos hO (by simp)
  exact ⟨g, c', rfl, hB, hO⟩
set_option maxHeartbeats 12800000 in
theorem w_structure (t : Tm) (hv : condList t = true → validT t = true) (hnd : t.nodes ≤ 5000) (hname : t.name.size ≤ 100) (hfit : (t.args.all nodeFit) = true) (hP : ∀ x ∈ t.args, POK o T TA TN TC S x) (hS : ∀ x ∈ t.args, x.kind = 3 → SOK o T TA TN TC S x) (hPe : ∀ x ∈ elemsT t, POK o T TA TN TC S x) (hPt : condList t = true → POK o T TA TN TC S (tailT t))
    (hl2 : (rowW (argW o T S) (elemsT t)).length + (argW o T S (tailT t)).length ≤ 80000) (hlen : (S (t.arg 0)).1.length ≤ 80000) (hp0 : (placeW o T S (t.arg 0) 1200 false).length ≤ 80000) (hpl : ∀ j m, (placeW o T S (t.arg j) m true).length ≤ 80000 ∧ 0 < (placeW o T S (t.arg j) m true).length ∧ (hd (placeW o T S (t.arg j) m true)).size ≤ 1000000) (hll : ∀ op, (leftW o T S (t.arg 0) op).length ≤ 80000) (hrow : (rowW (argW o T S) t.args).length ≤ 80000) (hargs : t.args.length ≤ 10000) :
    SOK o T TA TN TC (stF o T S) t := by
  intro A cap w hE hT
  obtain ⟨i, hi, hz0, hz1, hz2⟩ := info_parts infoStr
  have HI := Lib.hid hi
  have HZ0 := Lib.hid hz0
  have HZ1 := Lib.hid hz1
  have HZ2 := Lib.hid hz2
  clear hi hz0 hz1 hz2
  obtain ⟨LN, HL⟩ : ∃ LN, Hid (LN = t.args.length) := ⟨_, Lib.hid rfl⟩
  have HX := Lib.hid (Fr3.start w o TA TN TC t A cap LN 67 24 138 HL.out (.slice none 0 0) (.string ⟨#[]⟩) (.int .i64 0) (.int .i64 0))
  have HAr : ∀ j (h : j < t.args.length), POK o T TA TN TC S (t.arg j) := fun j h => by rw [Tm.arg_get t j h]; exact hP _ (List.getElem_mem _)
  have HAs : ∀ j (h : j < t.args.length), (t.arg j).kind = 3 → SOK o T TA TN TC S (t.arg j) := fun j h => by rw [Tm.arg_get t j h]; exact hS _ (List.getElem_mem _)
  have hE' : ∀ {W V : World}, Below w.heap.size w W → Below W.heap.size W V → Env T TA TN TC V := fun h hV => (hE.below h).below hV
  have hT' : ∀ {W V : World}, Below w.heap.size w W → Below W.heap.size W V → TmsAt V.heap.size V A t.args := fun h hV => ((((hT.keep h).mono h.size).keep hV).mono hV.size)
  have H0 := Lib.hid (fun W (h : Below w.heap.size w W) (hw : WBox W w.heap.size o TA TN TC) (ht : TBx W (w.heap.size + 1) t A cap) => w_rule1 (o := o) (TA := TA) (TN := TN) (TC := TC) t A cap w.heap.size (w.heap.size + 1) W _ _ _ (fun V hV => w_number o TA TN TC t hfit A cap V (hE' h hV).door (hT' h hV)) hw ht)
  have H1 := Lib.hid (fun W (h : Below w.heap.size w W) (hw : WBox W w.heap.size o TA TN TC) (ht : TBx W (w.heap.size + 1) t A cap) => w_rule2 (o := o) (TA := TA) (TN := TN) (TC := TC) t A cap w.heap.size (w.heap.size + 1) W _ _ _ (fun V hV => w_list t hv hnd hPe hPt hl2 A cap V (hE' h hV) (hT' h hV)) hw ht)
  have H2 := Lib.hid (fun W (h : Below w.heap.size w W) (hw : WBox W w.heap.size o TA TN TC) (ht : TBx W (w.heap.size + 1) t A cap) => w_rule3 (S := S) t A cap w.heap.size (w.heap.size + 1) W (fun e => HAr 0 (by omega)) hp0 (hE.below h) ((hT.keep h).mono h.size) hw ht)
  have H3 := Lib.hid (fun W (h : Below w.heap.size w W) (hw : WBox W w.heap.size o TA TN TC) (ht : TBx W (w.heap.size + 1) t A cap) => w_rule4 (o := o) (TA := TA) (TN := TN) (TC := TC) t A cap w.heap.size (w.heap.size + 1) W _ _ _ (fun V hV => w_infix t hname (fun e => HAr 0 (by omega)) (fun e => HAs 0 (by omega)) (fun e => HAr 1 (by omega)) hlen (fun m => ⟨(hpl 1 m).1, (hpl 1 m).2.1⟩) hll A cap V (hE' h hV) (hT' h hV)) hw ht)
  have H4 := Lib.hid (fun W (h : Below w.heap.size w W) (hw : WBox W w.heap.size o TA TN TC) (ht : TBx W (w.heap.size + 1) t A cap) => w_rule5 (o := o) (TA := TA) (TN := TN) (TC := TC) t A cap w.heap.size (w.heap.size + 1) W _ _ _ (fun V hV => w_prefix t hname (fun e => HAr 0 (by omega)) (fun m => hpl 0 m) A cap V (hE' h hV) (hT' h hV)) hw ht)
  have H5 := Lib.hid (fun W (h : Below w.heap.size w W) (hw : WBox W w.heap.size o TA TN TC) (ht : TBx W (w.heap.size + 1) t A cap) => w_rule6 (o := o) (TA := TA) (TN := TN) (TC := TC) t A cap w.heap.size (w.heap.size + 1) W _ _ _ (fun V hV => w_postfix t hname (fun e => HAr 0 (by omega)) (fun e => HAs 0 (by omega)) hlen hll A cap V (hE' h hV) (hT' h hV)) hw ht)
  have HNM := Lib.hid (fun W (h : Below w.heap.size w W) => w_name o TA TN TC t.name W (by omega) (hE.below h).door)
  have HRW := Lib.hid (fun W (h : Below w.heap.size w W) => w_row (o := o) (T := T) (S := S) t.args hP (by omega) A LN cap W HL.out (by rw [HL.out]; exact hargs) (hE.below h) ((hT.keep h).mono h.size))
  have HRL := Lib.hid hrow
  clear hE hT hv hnd hname hfit hP hS hPe hPt hl2 hlen hp0 hpl hll hrow hargs HAr HAs hE' hT'
  unfold Gives wrR at H0 H1 H2 H3 H4 H5
  unfold tmV wrV argF at *
  have HS0 := Lib.hid (st_0 (o := o) (T := T) (S := S) (t := t))
  have HS1 := Lib.hid (st_1 (o := o) (T := T) (S := S) (t := t))
  have HS2 := Lib.hid (st_2 (o := o) (T := T) (S := S) (t := t))
  have HS3 := Lib.hid (st_3 (o := o) (T := T) (S := S) (t := t))
  have HS4 := Lib.hid (st_4 (o := o) (T := T) (S := S) (t := t))
  have HS5 := Lib.hid (st_5 (o := o) (T := T) (S := S) (t := t))
  have HS6 := Lib.hid (st_6 (o := o) (T := T) (S := S) (t := t))
  obtain ⟨RR, HRR⟩ : ∃ RR, Hid (RR = stF o T S t) := ⟨_, Lib.hid rfl⟩
  rw [← HRR.out] at HS0 HS1 HS2 HS3 HS4 HS5 HS6 ⊢
  rw [← HL.out]
  go_enter Tryz.func85, Tryz.ntmps85
  go_wp2_with fail
  go_loopw [18] (fun i wr => ∃ k : Nat, i = .int .i64 k ∧ k ≤ 6 ∧ Fr3 w wr o TA TN TC t A cap ∧ Hid ((1 ≤ k → isNum o t = false) ∧ (2 ≤ k → condList t = false) ∧ (3 ≤ k → condCur o t = false) ∧ (4 ≤ k → condIn o T t = false) ∧ (5 ≤ k → condPre o T t = false) ∧ (6 ≤ k → condPost o T t = false))) (fun i _ => 6 - (intOf i).toNat)
  case atStart => exact ⟨0, rfl, by omega, HX.out.call ((Below.refl _ _).alloc (Nat.le_refl _) _), Lib.hid (by simp)⟩
  case round =>
    obtain ⟨k, rfl, hk, hF, HNo⟩ := hrel
    clear HX
    by_cases hk6 : k < 6
    · clear HNM HRW HRL HS6 HI HZ0 HZ1 HZ2
      obtain rfl | rfl | rfl | rfl | rfl | rfl : k = 0 ∨ k = 1 ∨ k = 2 ∨ k = 3 ∨ k = 4 ∨ k = 5 := by omega
      · clear H1 H2 H3 H4 H5 HS1 HS2 HS3 HS4 HS5
        have HC := Lib.hid (H0.out wr hF.f2.bel hF.f2.wb hF.f2.tb)
        obtain ⟨R, HRe⟩ : ∃ R, Hid (R = ruleNum o t) := ⟨_, Lib.hid rfl⟩
        rw [← HRe.out] at HC HS0
        clear H0
        cases hb : (isNum o t)
        · rw [hb] at HC
          have HB := Lib.hid hb
          clear hb HS0 HRe
          have ix := run_ix0
          go_wp2_with fail
          refine HC.out.mono ?_; rintro e w2 ⟨A2, n2, c2, rfl, hB2, hO2⟩
          have hF2 := hF.call hB2
          clear hO2 hB2 hF HC
          go_wp2_with fail
          go_roundw
          case rel => exact ⟨1, rfl, by decide, hF2.call ((Below.refl _ _).alloc (Nat.le_refl _) _), Lib.hid ⟨(by first | exact fun _ => HB.out | exact fun _ => trivial | exact trivial), fun h => absurd h (by decide), fun h => absurd h (by decide), fun h => absurd h (by decide), fun h => absurd h (by decide), fun h => absurd h (by decide)⟩⟩
          case measure => decide
        · rw [hb] at HC
          have HRB := Lib.hid (HS0.out  hb)
          clear hb HS0 HRe HNo
          have hrb := HRB.out
          clear HRB HRR
          subst hrb
          have ix := run_ix0
          go_wp2_with fail
          refine HC.out.mono ?_; rintro e w2 ⟨A2, n2, c2, rfl, hB2, hO2⟩
          have hF2 := hF.call hB2
          have HO2 := Lib.hid hO2
          have hszr := hF.f2.bel.size
          have hltr : w.heap.size + 1 + 1 < wr.heap.size := hF.rb.lt
          have hb2 := hF2.f2.bel
          have hlt2 := hF2.rb.lt
          obtain ⟨u0, r0⟩ := hF2.rb.r0
          obtain ⟨u1, r1⟩ := hF2.rb.r1
          obtain ⟨u2, r2⟩ := hF2.rb.r2
          obtain ⟨u3, r3⟩ := hF2.rb.r3
          have f0 := hF2.rb.rf 0
          have f1 := hF2.rb.rf 1
          have f2 := hF2.rb.rf 2
          have f3 := hF2.rb.rf 3
          clear hO2 hB2 hF HC hF2
          go_wp2_with fail
          refine bodyPost_ret (v := .agg #[.slice A2 n2 c2, .string RR.2.name, .int .i64 RR.2.typ, .int .i64 RR.2.prec]) (by simp [results, Tryz.results85, go_sem, r0, r1, r2, r3, hlt2]) rfl ⟨A2, n2, c2, rfl, ?_, ?_⟩
          · exact (put4_below hb2 _ (by omega) _ _ _ _).alloc (by rw [put4_size]; exact hb2.size) _
          · exact ((HO2.out.put4 hltr _ _ _ _).below ((Below.refl _ _).alloc (Nat.le_refl _) _)).mono hszr
      · clear H0 H2 H3 H4 H5 HS0 HS2 HS3 HS4 HS5
        have HC := Lib.hid (H1.out wr hF.f2.bel hF.f2.wb hF.f2.tb)
        obtain ⟨R, HRe⟩ : ∃ R, Hid (R = ruleList o T S t) := ⟨_, Lib.hid rfl⟩
        rw [← HRe.out] at HC HS1
        clear H1
        cases hb : (condList t)
        · rw [hb] at HC
          have HB := Lib.hid hb
          clear hb HS1 HRe
          have ix := run_ix1
          go_wp2_with fail
          refine HC.out.mono ?_; rintro e w2 ⟨A2, n2, c2, rfl, hB2, hO2⟩
          have hF2 := hF.call hB2
          clear hO2 hB2 hF HC
          go_wp2_with fail
          go_roundw
          case rel => exact ⟨2, rfl, by decide, hF2.call ((Below.refl _ _).alloc (Nat.le_refl _) _), Lib.hid ⟨fun _ => HNo.out.1 (by decide), (by first | exact fun _ => HB.out | exact fun _ => trivial | exact trivial), fun h => absurd h (by decide), fun h => absurd h (by decide), fun h => absurd h (by decide), fun h => absurd h (by decide)⟩⟩
          case measure => decide
        · rw [hb] at HC
          have HRB := Lib.hid (HS1.out (HNo.out.1 (by decide)) hb)
          clear hb HS1 HRe HNo
          have hrb := HRB.out
          clear HRB HRR
          subst hrb
          have ix := run_ix1
          go_wp2_with fail
          refine HC.out.mono ?_; rintro e w2 ⟨A2, n2, c2, rfl, hB2, hO2⟩
          have hF2 := hF.call hB2
          have HO2 := Lib.hid hO2
          have hszr := hF.f2.bel.size
          have hltr : w.heap.size + 1 + 1 < wr.heap.size := hF.rb.lt
          have hb2 := hF2.f2.bel
          have hlt2 := hF2.rb.lt
          obtain ⟨u0, r0⟩ := hF2.rb.r0
          obtain ⟨u1, r1⟩ := hF2.rb.r1
          obtain ⟨u2, r2⟩ := hF2.rb.r2
          obtain ⟨u3, r3⟩ := hF2.rb.r3
          have f0 := hF2.rb.rf 0
          have f1 := hF2.rb.rf 1
          have f2 := hF2.rb.rf 2
          have f3 := hF2.rb.rf 3
          clear hO2 hB2 hF HC hF2
          go_wp2_with fail
          refine bodyPost_ret (v := .agg #[.slice A2 n2 c2, .string RR.2.name, .int .i64 RR.2.typ, .int .i64 RR.2.prec]) (by simp [results, Tryz.results85, go_sem, r0, r1, r2, r3, hlt2]) rfl ⟨A2, n2, c2, rfl, ?_, ?_⟩
          · exact (put4_below hb2 _ (by omega) _ _ _ _).alloc (by rw [put4_size]; exact hb2.size) _
          · exact ((HO2.out.put4 hltr _ _ _ _).below ((Below.refl _ _).alloc (Nat.le_refl _) _)).mono hszr
      · clear H0 H1 H3 H4 H5 HS0 HS1 HS3 HS4 HS5
        have HC := Lib.hid (H2.out wr hF.f2.bel hF.f2.wb hF.f2.tb)
        obtain ⟨R, HRe⟩ : ∃ R, Hid (R = ruleCur o T S t) := ⟨_, Lib.hid rfl⟩
        rw [← HRe.out] at HC HS2
        clear H2
        cases hb : (condCur o t)
        · rw [hb] at HC
          have HB := Lib.hid hb
          clear hb HS2 HRe
          have ix := run_ix2
          go_wp2_with fail
          refine HC.out.mono ?_; rintro e w2 ⟨A2, n2, c2, rfl, hB2, hO2⟩
          have hF2 := hF.call hB2
          clear hO2 hB2 hF HC
          go_wp2_with fail
          go_roundw
          case rel => exact ⟨3, rfl, by decide, hF2.call ((Below.refl _ _).alloc (Nat.le_refl _) _), Lib.hid ⟨fun _ => HNo.out.1 (by decide), fun _ => HNo.out.2.1 (by decide), (by first | exact fun _ => HB.out | exact fun _ => trivial | exact trivial), fun h => absurd h (by decide), fun h => absurd h (by decide), fun h => absurd h (by decide)⟩⟩
          case measure => decide
        · rw [hb] at HC
          have HRB := Lib.hid (HS2.out (HNo.out.1 (by decide)) (HNo.out.2.1 (by decide)) hb)
          clear hb HS2 HRe HNo
          have hrb := HRB.out
          clear HRB HRR
          subst hrb
          have ix := run_ix2
          go_wp2_with fail
          refine HC.out.mono ?_; rintro e w2 ⟨A2, n2, c2, rfl, hB2, hO2⟩
          have hF2 := hF.call hB2
          have HO2 := Lib.hid hO2
          have hszr := hF.f2.bel.size
          have hltr : w.heap.size + 1 + 1 < wr.heap.size := hF.rb.lt
          have hb2 := hF2.f2.bel
          have hlt2 := hF2.rb.lt
          obtain ⟨u0, r0⟩ := hF2.rb.r0
          obtain ⟨u1, r1⟩ := hF2.rb.r1
          obtain ⟨u2, r2⟩ := hF2.rb.r2
          obtain ⟨u3, r3⟩ := hF2.rb.r3
          have f0 := hF2.rb.rf 0
          have f1 := hF2.rb.rf 1
          have f2 := hF2.rb.rf 2
          have f3 := hF2.rb.rf 3
          clear hO2 hB2 hF HC hF2
          go_wp2_with fail
          refine bodyPost_ret (v := .agg #[.slice A2 n2 c2, .string RR.2.name, .int .i64 RR.2.typ, .int .i64 RR.2.prec]) (by simp [results, Tryz.results85, go_sem, r0, r1, r2, r3, hlt2]) rfl ⟨A2, n2, c2, rfl, ?_, ?_⟩
          · exact (put4_below hb2 _ (by omega) _ _ _ _).alloc (by rw [put4_size]; exact hb2.size) _
          · exact ((HO2.out.put4 hltr _ _ _ _).below ((Below.refl _ _).alloc (Nat.le_refl _) _)).mono hszr
      · clear H0 H1 H2 H4 H5 HS0 HS1 HS2 HS4 HS5
        have HC := Lib.hid (H3.out wr hF.f2.bel hF.f2.wb hF.f2.tb)
        obtain ⟨R, HRe⟩ : ∃ R, Hid (R = ruleIn o T S t) := ⟨_, Lib.hid rfl⟩
        rw [← HRe.out] at HC HS3
        clear H3
        cases hb : (condIn o T t)
        · rw [hb] at HC
          have HB := Lib.hid hb
          clear hb HS3 HRe
          have ix := run_ix3
          go_wp2_with fail
          refine HC.out.mono ?_; rintro e w2 ⟨A2, n2, c2, rfl, hB2, hO2⟩
          have hF2 := hF.call hB2
          clear hO2 hB2 hF HC
          go_wp2_with fail
          go_roundw
          case rel => exact ⟨4, rfl, by decide, hF2.call ((Below.refl _ _).alloc (Nat.le_refl _) _), Lib.hid ⟨fun _ => HNo.out.1 (by decide), fun _ => HNo.out.2.1 (by decide), fun _ => HNo.out.2.2.1 (by decide), (by first | exact fun _ => HB.out | exact fun _ => trivial | exact trivial), fun h => absurd h (by decide), fun h => absurd h (by decide)⟩⟩
          case measure => decide
        · rw [hb] at HC
          have HRB := Lib.hid (HS3.out (HNo.out.1 (by decide)) (HNo.out.2.1 (by decide)) (HNo.out.2.2.1 (by decide)) hb)
          clear hb HS3 HRe HNo
          have hrb := HRB.out
          clear HRB HRR
          subst hrb
          have ix := run_ix3
          go_wp2_with fail
          refine HC.out.mono ?_; rintro e w2 ⟨A2, n2, c2, rfl, hB2, hO2⟩
          have hF2 := hF.call hB2
          have HO2 := Lib.hid hO2
          have hszr := hF.f2.bel.size
          have hltr : w.heap.size + 1 + 1 < wr.heap.size := hF.rb.lt
          have hb2 := hF2.f2.bel
          have hlt2 := hF2.rb.lt
          obtain ⟨u0, r0⟩ := hF2.rb.r0
          obtain ⟨u1, r1⟩ := hF2.rb.r1
          obtain ⟨u2, r2⟩ := hF2.rb.r2
          obtain ⟨u3, r3⟩ := hF2.rb.r3
          have f0 := hF2.rb.rf 0
          have f1 := hF2.rb.rf 1
          have f2 := hF2.rb.rf 2
          have f3 := hF2.rb.rf 3
          clear hO2 hB2 hF HC hF2
          go_wp2_with fail
          refine bodyPost_ret (v := .agg #[.slice A2 n2 c2, .string RR.2.name, .int .i64 RR.2.typ, .int .i64 RR.2.prec]) (by simp [results, Tryz.results85, go_sem, r0, r1, r2, r3, hlt2]) rfl ⟨A2, n2, c2, rfl, ?_, ?_⟩
          · exact (put4_below hb2 _ (by omega) _ _ _ _).alloc (by rw [put4_size]; exact hb2.size) _
          · exact ((HO2.out.put4 hltr _ _ _ _).below ((Below.refl _ _).alloc (Nat.le_refl _) _)).mono hszr
      · clear H0 H1 H2 H3 H5 HS0 HS1 HS2 HS3 HS5
        have HC := Lib.hid (H4.out wr hF.f2.bel hF.f2.wb hF.f2.tb)
        obtain ⟨R, HRe⟩ : ∃ R, Hid (R = rulePre o T S t) := ⟨_, Lib.hid rfl⟩
        rw [← HRe.out] at HC HS4
        clear H4
        cases hb : (condPre o T t)
        · rw [hb] at HC
          have HB := Lib.hid hb
          clear hb HS4 HRe
          have ix := run_ix4
          go_wp2_with fail
          refine HC.out.mono ?_; rintro e w2 ⟨A2, n2, c2, rfl, hB2, hO2⟩
          have hF2 := hF.call hB2
          clear hO2 hB2 hF HC
          go_wp2_with fail
          go_roundw
          case rel => exact ⟨5, rfl, by decide, hF2.call ((Below.refl _ _).alloc (Nat.le_refl _) _), Lib.hid ⟨fun _ => HNo.out.1 (by decide), fun _ => HNo.out.2.1 (by decide), fun _ => HNo.out.2.2.1 (by decide), fun _ => HNo.out.2.2.2.1 (by decide), (by first | exact fun _ => HB.out | exact fun _ => trivial | exact trivial), fun h => absurd h (by decide)⟩⟩
          case measure => decide
        · rw [hb] at HC
          have HRB := Lib.hid (HS4.out (HNo.out.1 (by decide)) (HNo.out.2.1 (by decide)) (HNo.out.2.2.1 (by decide)) (HNo.out.2.2.2.1 (by decide)) hb)
          clear hb HS4 HRe HNo
          have hrb := HRB.out
          clear HRB HRR
          subst hrb
          have ix := run_ix4
          go_wp2_with fail
          refine HC.out.mono ?_; rintro e w2 ⟨A2, n2, c2, rfl, hB2, hO2⟩
          have hF2 := hF.call hB2
          have HO2 := Lib.hid hO2
          have hszr := hF.f2.bel.size
          have hltr : w.heap.size + 1 + 1 < wr.heap.size := hF.rb.lt
          have hb2 := hF2.f2.bel
          have hlt2 := hF2.rb.lt
          obtain ⟨u0, r0⟩ := hF2.rb.r0
          obtain ⟨u1, r1⟩ := hF2.rb.r1
          obtain ⟨u2, r2⟩ := hF2.rb.r2
          obtain ⟨u3, r3⟩ := hF2.rb.r3
          have f0 := hF2.rb.rf 0
          have f1 := hF2.rb.rf 1
          have f2 := hF2.rb.rf 2
          have f3 := hF2.rb.rf 3
          clear hO2 hB2 hF HC hF2
          go_wp2_with fail
          refine bodyPost_ret (v := .agg #[.slice A2 n2 c2, .string RR.2.name, .int .i64 RR.2.typ, .int .i64 RR.2.prec]) (by simp [results, Tryz.results85, go_sem, r0, r1, r2, r3, hlt2]) rfl ⟨A2, n2, c2, rfl, ?_, ?_⟩
          · exact (put4_below hb2 _ (by omega) _ _ _ _).alloc (by rw [put4_size]; exact hb2.size) _
          · exact ((HO2.out.put4 hltr _ _ _ _).below ((Below.refl _ _).alloc (Nat.le_refl _) _)).mono hszr
      · clear H0 H1 H2 H3 H4 HS0 HS1 HS2 HS3 HS4
        have HC := Lib.hid (H5.out wr hF.f2.bel hF.f2.wb hF.f2.tb)
        obtain ⟨R, HRe⟩ : ∃ R, Hid (R = rulePost o T S t) := ⟨_, Lib.hid rfl⟩
        rw [← HRe.out] at HC HS5
        clear H5
        cases hb : (condPost o T t)
        · rw [hb] at HC
          have HB := Lib.hid hb
          clear hb HS5 HRe
          have ix := run_ix5
          go_wp2_with fail
          refine HC.out.mono ?_; rintro e w2 ⟨A2, n2, c2, rfl, hB2, hO2⟩
          have hF2 := hF.call hB2
          clear hO2 hB2 hF HC
          go_wp2_with fail
          go_roundw
          case rel => exact ⟨6, rfl, by decide, hF2.call ((Below.refl _ _).alloc (Nat.le_refl _) _), Lib.hid ⟨fun _ => HNo.out.1 (by decide), fun _ => HNo.out.2.1 (by decide), fun _ => HNo.out.2.2.1 (by decide), fun _ => HNo.out.2.2.2.1 (by decide), fun _ => HNo.out.2.2.2.2.1 (by decide), (by first | exact fun _ => HB.out | exact fun _ => trivial | exact trivial)⟩⟩
          case measure => decide
        · rw [hb] at HC
          have HRB := Lib.hid (HS5.out (HNo.out.1 (by decide)) (HNo.out.2.1 (by decide)) (HNo.out.2.2.1 (by decide)) (HNo.out.2.2.2.1 (by decide)) (HNo.out.2.2.2.2.1 (by decide)) hb)
          clear hb HS5 HRe HNo
          have hrb := HRB.out
          clear HRB HRR
          subst hrb
          have ix := run_ix5
          go_wp2_with fail
          refine HC.out.mono ?_; rintro e w2 ⟨A2, n2, c2, rfl, hB2, hO2⟩
          have hF2 := hF.call hB2
          have HO2 := Lib.hid hO2
          have hszr := hF.f2.bel.size
          have hltr : w.heap.size + 1 + 1 < wr.heap.size := hF.rb.lt
          have hb2 := hF2.f2.bel
          have hlt2 := hF2.rb.lt
          obtain ⟨u0, r0⟩ := hF2.rb.r0
          obtain ⟨u1, r1⟩ := hF2.rb.r1
          obtain ⟨u2, r2⟩ := hF2.rb.r2
          obtain ⟨u3, r3⟩ := hF2.rb.r3
          have f0 := hF2.rb.rf 0
          have f1 := hF2.rb.rf 1
          have f2 := hF2.rb.rf 2
          have f3 := hF2.rb.rf 3
          clear hO2 hB2 hF HC hF2
          go_wp2_with fail
          refine bodyPost_ret (v := .agg #[.slice A2 n2 c2, .string RR.2.name, .int .i64 RR.2.typ, .int .i64 RR.2.prec]) (by simp [results, Tryz.results85, go_sem, r0, r1, r2, r3, hlt2]) rfl ⟨A2, n2, c2, rfl, ?_, ?_⟩
          · exact (put4_below hb2 _ (by omega) _ _ _ _).alloc (by rw [put4_size]; exact hb2.size) _
          · exact ((HO2.out.put4 hltr _ _ _ _).below ((Below.refl _ _).alloc (Nat.le_refl _) _)).mono hszr
    · have hk : k = 6 := by omega
      subst hk
      have hRR := HS6.out (HNo.out.1 (by decide)) (HNo.out.2.1 (by decide)) (HNo.out.2.2.1 (by decide)) (HNo.out.2.2.2.1 (by decide)) (HNo.out.2.2.2.2.1 (by decide)) (HNo.out.2.2.2.2.2 (by decide))
      clear H0 H1 H2 H3 H4 H5 HS0 HS1 HS2 HS3 HS4 HS5 HS6 HNo HRR hk hk6
      obtain ⟨nm, HNE⟩ : ∃ nm, Hid (nm = nmW o t.name) := ⟨_, Lib.hid rfl⟩
      obtain ⟨RW, HRE⟩ : ∃ RW, Hid (RW = rowW (argW o T S) t.args) := ⟨_, Lib.hid rfl⟩
      rw [← HNE.out] at HNM hRR
      rw [← HRE.out] at HRW HRL hRR
      have hrl := HRL.out
      obtain ⟨BL, HBL⟩ : ∃ BL, Hid (BL = s1 40 :: (RW ++ [s1 41])) := ⟨_, Lib.hid rfl⟩
      obtain ⟨BN, HBN⟩ : ∃ BN, Hid (BN = BL.length) := ⟨_, Lib.hid rfl⟩
      have hBN0 : 0 < BN := by rw [HBN.out, HBL.out]; simp
      have hBN1 : BN ≤ 80002 := by rw [HBN.out, HBL.out]; simp; omega
      have HRR2 : Hid (RR = (nm :: BL, op0)) := Lib.hid (by rw [hRR, HBL.out])
      have hltR : w.heap.size + 2 < wr.heap.size := hF.rb.lt
      have hbR := hF.f2.bel
      have hszR := hbR.size
      have HKEEP : Hid (∀ X, RegH (w.heap.size + 2) wr X → X.cell? ⟨w.heap.size, 0, none⟩ = some (.bool o.q) ∧ X.cell? ⟨w.heap.size, 1, none⟩ = some (.bool o.ig) ∧ X.cell? ⟨w.heap.size, 2, none⟩ = some (.bool o.nu) ∧ X.cell? ⟨w.heap.size, 3, none⟩ = some (.slice TA TN TC) ∧ X.cell? ⟨w.heap.size + 1, 2, none⟩ = some (.string t.name) ∧ X.cell? ⟨w.heap.size + 1, 3, none⟩ = some (.slice A LN cap) ∧ RegH (w.heap.size + 2) wr X) := Lib.hid (fun X h => by
        have hw : ∀ g k, g < wr.heap.size → g ≠ w.heap.size + 2 → X.cell? ⟨g, k, none⟩ = wr.cell? ⟨g, k, none⟩ := fun g k h1 h2 => h.on.cell (p := ⟨g, k, none⟩) h1 h2
        have hwb := hF.f2.wb
        have htb := hF.f2.tb
        have h3 := htb.c3
        rw [← HL.out] at h3
        exact ⟨(hw _ _ hwb.lt (by omega)).trans hwb.c0, (hw _ _ hwb.lt (by omega)).trans hwb.c1, (hw _ _ hwb.lt (by omega)).trans hwb.c2, (hw _ _ hwb.lt (by omega)).trans hwb.c3, (hw _ _ htb.lt (by omega)).trans htb.c2, (hw _ _ htb.lt (by omega)).trans h3, h⟩)
      have HOF : Hid (∀ X, (X.cell? ⟨w.heap.size, 0, none⟩ = some (.bool o.q) ∧ X.cell? ⟨w.heap.size, 1, none⟩ = some (.bool o.ig) ∧ X.cell? ⟨w.heap.size, 2, none⟩ = some (.bool o.nu) ∧ X.cell? ⟨w.heap.size, 3, none⟩ = some (.slice TA TN TC) ∧ X.cell? ⟨w.heap.size + 1, 2, none⟩ = some (.string t.name) ∧ X.cell? ⟨w.heap.size + 1, 3, none⟩ = some (.slice A LN cap) ∧ RegH (w.heap.size + 2) wr X) → RegH (w.heap.size + 2) wr X) := Lib.hid (fun X h => h.2.2.2.2.2.2)
      have HST : Hid (RegH (w.heap.size + 2) wr wr.drew) := Lib.hid (RegH.drew ⟨Only.refl _ _, hF.rb⟩)
      have hbX : ∀ X, RegH (w.heap.size + 2) wr X → Below w.heap.size w X := fun X h => hbR.trans (h.on.below (by omega) hbR.size)
      have HBX2 := Lib.hid hbX
      have HNM3 := Lib.hid (fun X h => HNM.out X (hbX X h))
      have HRW3 : Hid (∀ X, RegH (w.heap.size + 2) wr X → Calls Tryz.prog 133 #[.slice A LN cap, .func (.func 134) #[.agg #[.bool o.q, .bool o.ig, .bool o.nu, .slice TA TN TC]] #[]] X fun e w' => ∃ v, e = .returned v ∧ Below X.heap.size X w' ∧ OwnS 9 wr.heap.size w' v RW) :=
        Lib.hid (fun X h => (HRW.out X (hbX X h)).mono fun _ _ ⟨v, he, hB, hO⟩ => ⟨v, he, hB, hO.mono h.on.size⟩)
      have HBT : Hid (∀ X, RegH (w.heap.size + 2) wr X → ∀ v, OwnS 9 wr.heap.size X v RW → Calls Tryz.prog 118 #[.string ⟨#[40]⟩, v, .string ⟨#[41]⟩] X fun e w' => ∃ g c, e = .returned (.slice (some ⟨g, 0, none⟩) BN c) ∧ Below X.heap.size X w' ∧ OwnS 9 wr.heap.size w' (.slice (some ⟨g, 0, none⟩) BN c) BL) :=
        Lib.hid (fun X h v hv => (between_own ⟨#[40]⟩ ⟨#[41]⟩ hv (by omega)).mono fun _ _ ⟨g, c, he, hB, hO⟩ => ⟨g, c, by rw [HBN.out, HBL.out]; exact he, hB, by rw [HBN.out, HBL.out]; exact hO.mono h.on.size⟩)
      clear hbX HNM HRW HRL hF hRR
      go_upto_region 9 with fail
      go_region_held3 (fun w' => w'.cell? ⟨w.heap.size, 0, none⟩ = some (.bool o.q) ∧ w'.cell? ⟨w.heap.size, 1, none⟩ = some (.bool o.ig) ∧ w'.cell? ⟨w.heap.size, 2, none⟩ = some (.bool o.nu) ∧ w'.cell? ⟨w.heap.size, 3, none⟩ = some (.slice TA TN TC) ∧ w'.cell? ⟨w.heap.size + 1, 2, none⟩ = some (.string t.name) ∧ w'.cell? ⟨w.heap.size + 1, 3, none⟩ = some (.slice A LN cap) ∧ RegH (w.heap.size + 2) wr w')
        (first
          | with_reducible exact HKEEP.out _ HST.out
          | with_reducible exact HKEEP.out _ (RegH.call (HOF.out _ (by with_reducible assumption)) (by with_reducible assumption))
          | with_reducible exact HKEEP.out _ hR7
          | with_reducible exact HKEEP.out _ hR4
          | with_reducible exact HKEEP.out _ hR5
          | with_reducible exact HKEEP.out _ hR6
          | with_reducible exact HKEEP.out _ (RegH.alloc hR4 _)
          | with_reducible exact HKEEP.out _ (RegH.alloc hR5 _)
          | with_reducible exact HKEEP.out _ (RegH.alloc hR6 _)
          | with_reducible exact HKEEP.out _ (RegH.alloc (HOF.out _ (by with_reducible assumption)) _)
          | with_reducible exact HKEEP.out _ (RegH.put4 (HOF.out _ (by with_reducible assumption)) _ _ _ _))
        (first
          | (go_at_call 83; have hq4 := HOF.out _ (by with_reducible assumption); (with_reducible refine (HNM3.out _ hq4).mono ?_); rintro e w4 ⟨rfl, hB4⟩; have hR4 := hq4.call hB4)
          | (go_at_call 133; have hq5 := HOF.out _ (by with_reducible assumption); (with_reducible refine (HRW3.out _ hq5).mono ?_); rintro e w5 ⟨v5, rfl, hB5, hO5⟩; have hR5 := hq5.call hB5)
          | (go_at_call 118; have hq6 := HOF.out w5 (by with_reducible assumption); (with_reducible refine (HBT.out _ hq6 v5 hO5).mono ?_); rintro e w6 ⟨g6, c6, rfl, hB6, hO6⟩; have hR6 := hq6.call hB6)
          | (go_at_call 118; have hq6 := HOF.out w4 (by with_reducible assumption); (with_reducible refine (HBT.out _ hq6 v5 (hO5.below hB4)).mono ?_); rintro e w6 ⟨g6, c6, rfl, hB6, hO6⟩; have hR6 := hq6.call hB6)
          | (go_at_call 118; have hq6 := HOF.out (w5.alloc (.cells #[.string nm] 9)) (by with_reducible assumption); (with_reducible refine (HBT.out _ hq6 v5 (hO5.below ((Below.refl _ _).alloc (Nat.le_refl _) (.cells #[.string nm] 9)))).mono ?_); rintro e w6 ⟨g6, c6, rfl, hB6, hO6⟩; have hR6 := hq6.call hB6)
          | (go_at_call 118; have hq6 := HOF.out (w4.alloc (.cells #[.string nm] 9)) (by with_reducible assumption); (with_reducible refine (HBT.out _ hq6 v5 ((hO5.below hB4).below ((Below.refl _ _).alloc (Nat.le_refl _) (.cells #[.string nm] 9)))).mono ?_); rintro e w6 ⟨g6, c6, rfl, hB6, hO6⟩; have hR6 := hq6.call hB6)
          | (have hq := HOF.out (w6.alloc (.cells #[.string nm] 9)) (by with_reducible assumption); have hown : OwnS 9 wr.heap.size (w6.alloc (.cells #[.string nm] 9)) (.slice (some ⟨w6.heap.size, 0, none⟩) 1 1) [nm] := ((OwnS.one 9 w6 nm).mono hR6.on.size); have hsrc : OwnS 9 wr.heap.size (w6.alloc (.cells #[.string nm] 9)) (.slice (some ⟨g6, 0, none⟩) BN c6) BL := hO6.below ((Below.refl _ _).alloc (Nat.le_refl _) (.cells #[.string nm] 9)); refine step_append_lies _ (by rfl) _ _ 28 (by rfl) wr.heap.size 9 i _ 1 16 Tryz.underlying28 HI.out HZ0.out HZ1.out HZ2.out (by rfl) (by decide) (.slice (some ⟨w6.heap.size, 0, none⟩) 1 1) 1 ([nm].map Value.string) (by rfl) hown ⟨g6, 0, none⟩ BN c6 (BL.map Value.string) (by rfl) (by rw [HBN.out, List.length_map, Nat.mul_one]) (own_cells hsrc) (strs_one _) hBN0 (by unfold maxLen; omega) (by omega) hq.on.size (w6.heap.size + 1) (by simp) ?_; intro g7 c7 w7 hown7 hg7 hat7 hlt7; have hR7 : RegH (w.heap.size + 2) wr w7 := hq.grown hg7 (fun k hk => (hown.lt k hk).1) hltR; obtain ⟨u0, r0⟩ := hR7.rb.r0; obtain ⟨u1, r1⟩ := hR7.rb.r1; obtain ⟨u2, r2⟩ := hR7.rb.r2; obtain ⟨u3, r3⟩ := hR7.rb.r3; have f0 := hR7.rb.rf 0; have f1 := hR7.rb.rf 1; have f2 := hR7.rb.rf 2; have f3 := hR7.rb.rf 3)
          | (have hq := HOF.out (w4.alloc (.cells #[.string nm] 9)) (by with_reducible assumption); have hown : OwnS 9 wr.heap.size (w4.alloc (.cells #[.string nm] 9)) (.slice (some ⟨w4.heap.size, 0, none⟩) 1 1) [nm] := ((OwnS.one 9 w4 nm).mono hR4.on.size); have hsrc : OwnS 9 wr.heap.size (w4.alloc (.cells #[.string nm] 9)) (.slice (some ⟨g6, 0, none⟩) BN c6) BL := (hO6.below hB4).below ((Below.refl _ _).alloc (Nat.le_refl _) (.cells #[.string nm] 9)); refine step_append_lies _ (by rfl) _ _ 28 (by rfl) wr.heap.size 9 i _ 1 16 Tryz.underlying28 HI.out HZ0.out HZ1.out HZ2.out (by rfl) (by decide) (.slice (some ⟨w4.heap.size, 0, none⟩) 1 1) 1 ([nm].map Value.string) (by rfl) hown ⟨g6, 0, none⟩ BN c6 (BL.map Value.string) (by rfl) (by rw [HBN.out, List.length_map, Nat.mul_one]) (own_cells hsrc) (strs_one _) hBN0 (by unfold maxLen; omega) (by omega) hq.on.size (w4.heap.size + 1) (by simp) ?_; intro g7 c7 w7 hown7 hg7 hat7 hlt7; have hR7 : RegH (w.heap.size + 2) wr w7 := hq.grown hg7 (fun k hk => (hown.lt k hk).1) hltR; obtain ⟨u0, r0⟩ := hR7.rb.r0; obtain ⟨u1, r1⟩ := hR7.rb.r1; obtain ⟨u2, r2⟩ := hR7.rb.r2; obtain ⟨u3, r3⟩ := hR7.rb.r3; have f0 := hR7.rb.rf 0; have f1 := hR7.rb.rf 1; have f2 := hR7.rb.rf 2; have f3 := hR7.rb.rf 3)
          | (have hq := HOF.out (w6) (by with_reducible assumption); have hown : OwnS 9 wr.heap.size (w6) (.slice (some ⟨w5.heap.size, 0, none⟩) 1 1) [nm] := ((OwnS.one 9 w5 nm).mono hR5.on.size).below hB6; have hsrc : OwnS 9 wr.heap.size (w6) (.slice (some ⟨g6, 0, none⟩) BN c6) BL := hO6; refine step_append_lies _ (by rfl) _ _ 28 (by rfl) wr.heap.size 9 i _ 1 16 Tryz.underlying28 HI.out HZ0.out HZ1.out HZ2.out (by rfl) (by decide) (.slice (some ⟨w5.heap.size, 0, none⟩) 1 1) 1 ([nm].map Value.string) (by rfl) hown ⟨g6, 0, none⟩ BN c6 (BL.map Value.string) (by rfl) (by rw [HBN.out, List.length_map, Nat.mul_one]) (own_cells hsrc) (strs_one _) hBN0 (by unfold maxLen; omega) (by omega) hq.on.size w6.heap.size rfl ?_; intro g7 c7 w7 hown7 hg7 hat7 hlt7; have hR7 : RegH (w.heap.size + 2) wr w7 := hq.grown hg7 (fun k hk => (hown.lt k hk).1) hltR; obtain ⟨u0, r0⟩ := hR7.rb.r0; obtain ⟨u1, r1⟩ := hR7.rb.r1; obtain ⟨u2, r2⟩ := hR7.rb.r2; obtain ⟨u3, r3⟩ := hR7.rb.r3; have f0 := hR7.rb.rf 0; have f1 := hR7.rb.rf 1; have f2 := hR7.rb.rf 2; have f3 := hR7.rb.rf 3)
          | (have hq := HOF.out (w6) (by with_reducible assumption); have hown : OwnS 9 wr.heap.size (w6) (.slice (some ⟨w4.heap.size, 0, none⟩) 1 1) [nm] := ((OwnS.one 9 w4 nm).mono hR4.on.size).below hB6; have hsrc : OwnS 9 wr.heap.size (w6) (.slice (some ⟨g6, 0, none⟩) BN c6) BL := hO6; refine step_append_lies _ (by rfl) _ _ 28 (by rfl) wr.heap.size 9 i _ 1 16 Tryz.underlying28 HI.out HZ0.out HZ1.out HZ2.out (by rfl) (by decide) (.slice (some ⟨w4.heap.size, 0, none⟩) 1 1) 1 ([nm].map Value.string) (by rfl) hown ⟨g6, 0, none⟩ BN c6 (BL.map Value.string) (by rfl) (by rw [HBN.out, List.length_map, Nat.mul_one]) (own_cells hsrc) (strs_one _) hBN0 (by unfold maxLen; omega) (by omega) hq.on.size w6.heap.size rfl ?_; intro g7 c7 w7 hown7 hg7 hat7 hlt7; have hR7 : RegH (w.heap.size + 2) wr w7 := hq.grown hg7 (fun k hk => (hown.lt k hk).1) hltR; obtain ⟨u0, r0⟩ := hR7.rb.r0; obtain ⟨u1, r1⟩ := hR7.rb.r1; obtain ⟨u2, r2⟩ := hR7.rb.r2; obtain ⟨u3, r3⟩ := hR7.rb.r3; have f0 := hR7.rb.rf 0; have f1 := hR7.rb.rf 1; have f2 := hR7.rb.rf 2; have f3 := hR7.rb.rf 3)
          | (have hq := HOF.out (w6) (by with_reducible assumption); have hown : OwnS 9 wr.heap.size (w6) (.slice (some ⟨w4.heap.size, 0, none⟩) 1 1) [nm] := (((OwnS.one 9 w4 nm).mono hR4.on.size).below hB5).below hB6; have hsrc : OwnS 9 wr.heap.size (w6) (.slice (some ⟨g6, 0, none⟩) BN c6) BL := hO6; refine step_append_lies _ (by rfl) _ _ 28 (by rfl) wr.heap.size 9 i _ 1 16 Tryz.underlying28 HI.out HZ0.out HZ1.out HZ2.out (by rfl) (by decide) (.slice (some ⟨w4.heap.size, 0, none⟩) 1 1) 1 ([nm].map Value.string) (by rfl) hown ⟨g6, 0, none⟩ BN c6 (BL.map Value.string) (by rfl) (by rw [HBN.out, List.length_map, Nat.mul_one]) (own_cells hsrc) (strs_one _) hBN0 (by unfold maxLen; omega) (by omega) hq.on.size w6.heap.size rfl ?_; intro g7 c7 w7 hown7 hg7 hat7 hlt7; have hR7 : RegH (w.heap.size + 2) wr w7 := hq.grown hg7 (fun k hk => (hown.lt k hk).1) hltR; obtain ⟨u0, r0⟩ := hR7.rb.r0; obtain ⟨u1, r1⟩ := hR7.rb.r1; obtain ⟨u2, r2⟩ := hR7.rb.r2; obtain ⟨u3, r3⟩ := hR7.rb.r3; have f0 := hR7.rb.rf 0; have f1 := hR7.rb.rf 1; have f2 := hR7.rb.rf 2; have f3 := hR7.rb.rf 3)
          | fail)
      all_goals
        have hfin := put4_below (HBX2.out w7 hR7) (w.heap.size + 2) (by omega) (.slice (some ⟨g7, 0, none⟩) (1 + BN) c7) (.string ⟨#[]⟩) (.int .i64 0) (.int .i64 0)
        have HO7 : Hid (OwnS 9 wr.heap.size w7 (.slice (some ⟨g7, 0, none⟩) (1 + BN) c7) (nm :: BL)) := Lib.hid (by
          unfold OwnS
          have e1 : (nm :: BL).length = 1 + BN := by rw [HBN.out]; simp; omega
          have e2 : (nm :: BL).map Value.string = ([nm].map Value.string) ++ BL.map Value.string := by simp
          rw [e1, e2]; exact hown7)
        clear hown7 hg7
        go_wp2_with fail
        refine bodyPost_ret (v := .agg #[.slice (some ⟨g7, 0, none⟩) (1 + BN) c7, .string ⟨#[]⟩, .int .i64 0, .int .i64 0]) (by simp [results, Tryz.results85, go_sem, r0, r1, r2, r3]) rfl ?_
        have e := HRR2.out
        subst e
        exact ⟨_, _, _, rfl, hfin, (HO7.out.put4 hltR _ _ _ _).mono hszR⟩
end Go.Proofs.YtgapnafkelokaaaGreatDoor
