/- Writing: prefix. Writing: the closures that structure tries one after the other. -/
import Derived.Test.YtgapnafkelokaaaGreatDoorM13
import Derived.Deep.CutBlock
namespace Hb
open Go Go.RowKit
def condPre (o : WO) (T : List OpR) (t : Tm) : Bool := !o.ig && (has T t.name 1 && t.args.length == 1)
def rulePre (o : WO) (T : List OpR) (S : Tm → WR) (t : Tm) : WR := if condPre o T t = true then
    (nmW o t.name :: ((if spcW t.name (argPre o T S (t.arg 0) (gets T t.name 1)) = true then [s1 32] else []) ++ argPre o T S (t.arg 0) (gets T t.name 1)), gets T t.name 1) else ([], op0)
theorem rulePre_no {o : WO} {T : List OpR} {S : Tm → WR} {t : Tm} (h : condPre o T t = false) : rulePre o T S t = ([], op0) := by unfold rulePre; rw [h]; rfl
theorem rulePre_yes {o : WO} {T : List OpR} {S : Tm → WR} {t : Tm} (h : condPre o T t = true) : rulePre o T S t = (nmW o t.name :: ((if spcW t.name (argPre o T S (t.arg 0) (gets T t.name 1)) = true then [s1 32] else []) ++ argPre o T S (t.arg 0) (gets T t.name 1)), gets T t.name 1) := by unfold rulePre; rw [if_pos h]
theorem hd_get {l : List ByteArray} (h : 0 < l.length) : (l.map Value.string)[0]? = some (.string (hd l)) := by
  cases l with
  | nil => simp at h
  | cons a l => rfl
theorem brk_pos {l : List ByteArray} {b : Bool} (h : 0 < l.length) : 0 < (brk l b).length := by
  unfold brk; split
  · simp
  · exact h
theorem brk_le (l : List ByteArray) (b : Bool) : (brk l b).length ≤ l.length + 2 := by
  unfold brk; split
  · simp
  · omega
theorem hd_brk_size {l : List ByteArray} {b : Bool} (h : (hd l).size ≤ 1000000) : (hd (brk l b)).size ≤ 1000000 := by
  unfold brk; split
  · exact (by decide : (s1 40).size ≤ 1000000)
  · exact h
theorem own_hd {w : World} {base e n : Nat} {v : Value} {l : List ByteArray} (h : w.ownsRow base e 1 v n (l.map Value.string)) (hl : 0 < l.length) (hn : n = l.length) : ∃ g cap, v = .slice (some ⟨g, 0, none⟩) n cap ∧ w.cell? ⟨g, 0, none⟩ = some (.string (hd l)) ∧ ∀ j u, (l.map Value.string)[j]? = some u → w.cell? ((⟨g, 0, none⟩ : Addr).add j) = some u := by
  obtain ⟨g, cap, hv, hc⟩ := own_pos h (by omega)
  exact ⟨g, cap, hv, hc 0 _ (hd_get hl), hc⟩
end Hb
namespace Go.Proofs.YtgapnafkelokaaaGreatDoor
open Go.RowKit Hb
set_option maxRecDepth 100000
variable {o : WO} {T : List OpR} {TA : Option Addr} {TN TC : Nat} {S : Tm → WR}
set_option maxHeartbeats 12800000 in
theorem w_prefix (t : Tm) (hname : t.name.size ≤ 100) (hP0 : t.args.length = 1 → POK o T TA TN TC S (t.arg 0)) (hpl : ∀ m, (placeW o T S (t.arg 0) m true).length ≤ 80000 ∧ 0 < (placeW o T S (t.arg 0) m true).length ∧ (hd (placeW o T S (t.arg 0) m true)).size ≤ 1000000) (A : Option Addr) (cap : Nat) (w : World) (hE : Env T TA TN TC w) (hT : TmsAt w.heap.size w A t.args) :
    Calls Tryz.prog 130 #[wrV o TA TN TC, tmV t A cap] w fun e w' => ∃ A' n' c', e = .returned (wrR A' n' c' (rulePre o T S t).2 (condPre o T t)) ∧ Below w.heap.size w w' ∧ OwnS 9 w.heap.size w' (.slice A' n' c') (rulePre o T S t).1 := by
  obtain ⟨i, hi, hz0, hz1, hz2⟩ := info_parts infoStr
  have HI := Lib.hid hi
  have HZ0 := Lib.hid hz0
  have HZ1 := Lib.hid hz1
  have HZ2 := Lib.hid hz2
  clear hi hz0 hz1 hz2
  obtain ⟨LN, HL⟩ : ∃ LN, Hid (LN = t.args.length) := ⟨_, Lib.hid rfl⟩
  have HX := Lib.hid (Fr3.start w o TA TN TC t A cap LN 67 24 138 HL.out (.slice none 0 0) (.string ⟨#[]⟩) (.int .i64 0) (.int .i64 0))
  have HBX := HX.out.f2.bel
  have HIN : Hid (condPre o T t = (!o.ig && (has T t.name 1 && t.args.length == 1))) := Lib.hid rfl
  have HOP := Lib.hid (fun W (h : Below w.heap.size w W) => ops_prefix TA TN TC T t.name W hE.tab.len hE.few (hE.tab.below h).ops)
  have HNM := Lib.hid (fun W (h : Below w.heap.size w W) => w_name o TA TN TC t.name W (by omega) (hE.door.below h))
  have HPF := Lib.hid (fun (h1 : LN = 1) (m : Int) A' cap' W (h : Below w.heap.size w W) (h2 : TmsAt w.heap.size w A' (t.arg 0).args) => hP0 (by rw [← HL.out]; exact h1) m true A' cap' W (hE.below h) ((h2.keep h).mono h.size))
  have HGET := Lib.hid (fun (h : LN = 1) => hT.get 0 (by rw [← HL.out, h]; decide))
  have HARG := Lib.hid (fun (h : LN = 1) => Tm.arg_get t 0 (by rw [← HL.out, h]; decide))
  have HPL := Lib.hid hpl
  have HO1 := Lib.hid (fun W (h : Below w.heap.size w W) => ops_prefix TA TN TC T (s1 45) W hE.tab.len hE.few (hE.tab.below h).ops)
  have HO2 := Lib.hid (fun W (h : Below w.heap.size w W) => ops_infix TA TN TC T (s1 45) W hE.tab.len hE.few (hE.tab.below h).ops)
  have HO3 := Lib.hid (fun W (h : Below w.heap.size w W) => ops_postfix TA TN TC T (s1 45) W hE.tab.len hE.few (hE.tab.below h).ops)
  have HPR := Lib.hid (has_prec (T := T) (s := t.name) (c := 1))
  have HY := Lib.hid (rulePre_yes (o := o) (T := T) (S := S) (t := t))
  have HNO := Lib.hid (rulePre_no (o := o) (T := T) (S := S) (t := t))
  have HHAS : Hid ((findR T t.name 1).isSome = has T t.name 1) := Lib.hid rfl
  have HGTS : Hid ((findR T t.name 1).getD op0 = gets T t.name 1) := Lib.hid rfl
  rw [HHAS.out, HGTS.out] at HOP
  clear hT hE hP0 hpl HHAS HGTS
  unfold tmV wrV wrR opV at *
  rw [← HL.out] at HIN ⊢
  have hcases : (condPre o T t = false ∧ (o.ig = true ∨ has T t.name 1 = false ∨ ¬ LN = 1)) ∨ (o.ig = false ∧ has T t.name 1 = true ∧ LN = 1) := by
    rw [HIN.out]
    cases o.ig <;> cases has T t.name 1 <;> by_cases h : LN = 1 <;> simp [h]
  rcases hcases with ⟨hno, hwhy⟩ | ⟨hig, hhas, hl⟩
  · rw [hno, HNO.out hno]
    clear HIN HPF HPL HO1 HO2 HO3 HGET HARG HPR HY HNO HNM hno HI HZ0 HZ1 HZ2
    generalize has T t.name 1 = hs at *
    generalize gets T t.name 1 = op at *
    rcases hwhy with hwy | hwy | hwy
    all_goals
      have HWY := Lib.hid hwy
      clear hwy
      go_enter Tryz.func130, Tryz.ntmps130
      go_wp2_with fail
      refine (HOP.out _ HBX).mono ?_; rintro e w1 ⟨rfl, hB1⟩
      have hX1 := HX.out.call hB1
      have hX2 := hX1.call ((Below.refl _ _).alloc (Nat.le_refl _) (.cells #[.string op.name, .int .i64 op.typ, .int .i64 op.prec] 80))
      have y1 := hX2.f2.wb.c1
      have y3 := hX2.f2.tb.c3
      rw [← HL.out] at y3
      obtain ⟨u0, r0⟩ := hX1.rb.r0
      obtain ⟨u1, r1⟩ := hX1.rb.r1
      obtain ⟨u2, r2⟩ := hX1.rb.r2
      obtain ⟨u3, r3⟩ := hX1.rb.r3
      have f0 := hX1.rb.rf 0
      have f1 := hX1.rb.rf 1
      have f2 := hX1.rb.rf 2
      have f3 := hX1.rb.rf 3
      have hlt1 := hX1.rb.lt
      have hb1 := hX1.f2.bel
      clear hX1 hX2
      have hwy := HWY.out
      go_wp2_with fail
      all_goals
        refine bodyPost_ret (v := .tuple #[.agg #[.slice none 0 0, .string ⟨#[]⟩, .int .i64 0, .int .i64 0], .bool false]) (by simp [results, Tryz.results130, go_sem, r0, r1, r2, r3, hlt1]) rfl ⟨none, 0, 0, rfl, (put4_below hb1 _ (by omega) _ _ _ _).alloc (by rw [put4_size]; exact hb1.size) _, OwnS.nil _ _ _⟩
  · have hyes : condPre o T t = true := by rw [HIN.out, hig, hhas, hl]; rfl
    rw [hyes, HY.out hyes]
    subst hl
    obtain ⟨b, off, A', cap', rfl, hb, e0, e1, e2, e3, hs0⟩ := HGET.out rfl
    have hl1 : 0 < t.args.length := by have := HL.out; omega
    have HA0 := Lib.hid (HARG.out rfl)
    have hpr := HPR.out hhas
    have HPF2 := Lib.hid (HPF.out rfl (sideR (gets T t.name 1)) A' cap')
    have hPL := HPL.out (sideR (gets T t.name 1))
    have HAP : Hid (argPre o T S (t.arg 0) (gets T t.name 1) = brk (placeW o T S (t.arg 0) (sideR (gets T t.name 1)) true) (negW T (hd (placeW o T S (t.arg 0) (sideR (gets T t.name 1)) true)))) := Lib.hid rfl
    rw [HA0.out] at HPF2 hPL HAP ⊢
    rw [hhas] at HOP
    rw [Nat.zero_mul, Nat.add_zero] at e0 e1 e2 e3
    have HS0 := Lib.hid hs0
    have HEL := Lib.hid (⟨e0, e1, e2, e3⟩ : _ ∧ _ ∧ _ ∧ _)
    have HIG := Lib.hid hig
    have HSD0 := Lib.hid (fun W => ops_sides (gets T t.name 1) W (by omega))
    unfold opV at HSD0
    have HNG : Hid (∀ h, negW T h = ((decide (0 < h.size) && bAt h.data.toList 0 == 45) && (digW h 1 && ((has T (s1 45) 2 || has T (s1 45) 3) && !has T (s1 45) 1)))) := Lib.hid (fun _ => rfl)
    have HH1 : Hid ((findR T (s1 45) 1).isSome = has T (s1 45) 1) := Lib.hid rfl
    have HH2 : Hid ((findR T (s1 45) 2).isSome = has T (s1 45) 2) := Lib.hid rfl
    have HH3 : Hid ((findR T (s1 45) 3).isSome = has T (s1 45) 3) := Lib.hid rfl
    rw [HH1.out] at HO1
    rw [HH2.out] at HO2
    rw [HH3.out] at HO3
    clear HIN HPF HPL HGET HARG HPR HY HNO hyes hhas hpr hig hs0 e0 e1 e2 e3 HA0 HH1 HH2 HH3
    generalize (findR T (s1 45) 1).getD op0 = q1 at *
    generalize (findR T (s1 45) 2).getD op0 = q2 at *
    generalize (findR T (s1 45) 3).getD op0 = q3 at *
    generalize has T (s1 45) 1 = hpre at *
    generalize has T (s1 45) 2 = hin at *
    generalize has T (s1 45) 3 = hpost at *
    unfold s1 at HO1 HO2 HO3
    generalize gets T t.name 1 = op at *
    generalize t.args[0] = x at *
    obtain ⟨PL, HPLE⟩ : ∃ PL, Hid (PL = placeW o T S x (sideR op) true) := ⟨_, Lib.hid rfl⟩
    rw [← HPLE.out] at HPF2 hPL HAP
    rw [HAP.out]
    obtain ⟨hpl1, hpl0, hpl2⟩ := hPL
    obtain ⟨nm, HNE⟩ : ∃ nm, Hid (nm = nmW o t.name) := ⟨_, Lib.hid rfl⟩
    rw [← HNE.out] at HNM
    generalize sideL op = sl at *
    generalize sideR op = sr at *
    clear HPLE HAP
    have HNG2 := Lib.hid (HNG.out (hd PL))
    obtain ⟨ng, HNGE⟩ : ∃ ng, Hid (ng = negW T (hd PL)) := ⟨_, Lib.hid rfl⟩
    rw [← HNGE.out] at HNG2 ⊢
    have HSP : Hid (spcW t.name (brk PL ng) = ((hd (brk PL ng)).toList == [40] || (t.name.toList == [45] && digW (hd (brk PL ng)) 0))) := Lib.hid rfl
    obtain ⟨RES, HRES⟩ : ∃ RES, Hid (RES = nmW o t.name :: ((if spcW t.name (brk PL ng) = true then [s1 32] else []) ++ brk PL ng)) := ⟨_, Lib.hid rfl⟩
    rw [← HRES.out]
    clear HNG
    go_enter Tryz.func130, Tryz.ntmps130
    go_wp2_with fail
    refine (HOP.out _ HBX).mono ?_; rintro e w1 ⟨rfl, hB1⟩
    have hX1 := HX.out.call hB1
    have hX2 := hX1.call ((Below.refl _ _).alloc (Nat.le_refl _) (.cells #[.string op.name, .int .i64 op.typ, .int .i64 op.prec] 80))
    have hb2 := hX2.f2.bel
    have hG := BoxG.start w1 op 80
    have hlt1 := hX1.rb.lt
    have y1 := hX2.f2.wb.c1
    have y3 := hX2.f2.tb.c3
    have g0 := hG.c0
    have g1 := hG.c1
    have g2 := hG.c2
    rw [← HL.out] at y3
    go_upto_region 2 with fail
    generalize w1.alloc (.cells #[.string op.name, .int .i64 op.typ, .int .i64 op.prec] 80) = wA at *
    rw [HIG.out] at y1
    go_wp2_with fail
    refine (HSD0.out _).mono ?_; rintro e wR ⟨rfl, hB3⟩
    have hXR := hX2.call hB3
    have hGR := hG.call hB3
    have hbR := hXR.f2.bel
    clear y1 y3 g0 g1 g2 hX1
    have hltR := hXR.rb.lt
    have HKEEP : Hid (∀ X, RegH (w.heap.size + 2) wR X → X.cell? ⟨w.heap.size, 0, none⟩ = some (.bool o.q) ∧ X.cell? ⟨w.heap.size, 1, none⟩ = some (.bool o.ig) ∧ X.cell? ⟨w.heap.size, 2, none⟩ = some (.bool o.nu) ∧ X.cell? ⟨w.heap.size, 3, none⟩ = some (.slice TA TN TC) ∧ X.cell? ⟨w.heap.size + 1, 3, none⟩ = some (.slice (some ⟨b, off, none⟩) 1 cap) ∧ X.cell? ⟨b, off, none⟩ = some (.int .i64 x.kind) ∧ X.cell? ⟨b, off + 1, none⟩ = some (.int .i64 x.num) ∧ X.cell? ⟨b, off + 2, none⟩ = some (.string x.name) ∧ X.cell? ⟨b, off + 3, none⟩ = some (.slice A' x.args.length cap') ∧ RegH (w.heap.size + 2) wR X) := Lib.hid (fun X h => by
      have hw : ∀ g k, g < wR.heap.size → g ≠ w.heap.size + 2 → X.cell? ⟨g, k, none⟩ = wR.cell? ⟨g, k, none⟩ := fun g k h1 h2 => h.on.cell (p := ⟨g, k, none⟩) h1 h2
      have hwb := hXR.f2.wb
      have htb := hXR.f2.tb
      obtain ⟨e0, e1, e2, e3⟩ := HEL.out
      have he : ∀ k, X.cell? ⟨b, k, none⟩ = w.cell? ⟨b, k, none⟩ := fun k => (hw b k (Nat.lt_of_lt_of_le hb hbR.size) (by omega)).trans (hbR.cell (p := ⟨b, k, none⟩) hb)
      have h3 := htb.c3
      rw [← HL.out] at h3
      exact ⟨(hw _ _ hwb.lt (by omega)).trans hwb.c0, (hw _ _ hwb.lt (by omega)).trans hwb.c1, (hw _ _ hwb.lt (by omega)).trans hwb.c2, (hw _ _ hwb.lt (by omega)).trans hwb.c3, (hw _ _ htb.lt (by omega)).trans h3, (he _).trans e0, (he _).trans e1, (he _).trans e2, (he _).trans e3, h⟩)
    have HOF : Hid (∀ X, (X.cell? ⟨w.heap.size, 0, none⟩ = some (.bool o.q) ∧ X.cell? ⟨w.heap.size, 1, none⟩ = some (.bool o.ig) ∧ X.cell? ⟨w.heap.size, 2, none⟩ = some (.bool o.nu) ∧ X.cell? ⟨w.heap.size, 3, none⟩ = some (.slice TA TN TC) ∧ X.cell? ⟨w.heap.size + 1, 3, none⟩ = some (.slice (some ⟨b, off, none⟩) 1 cap) ∧ X.cell? ⟨b, off, none⟩ = some (.int .i64 x.kind) ∧ X.cell? ⟨b, off + 1, none⟩ = some (.int .i64 x.num) ∧ X.cell? ⟨b, off + 2, none⟩ = some (.string x.name) ∧ X.cell? ⟨b, off + 3, none⟩ = some (.slice A' x.args.length cap') ∧ RegH (w.heap.size + 2) wR X) → RegH (w.heap.size + 2) wR X) := Lib.hid (fun X h => h.2.2.2.2.2.2.2.2.2)
    have HST : Hid (RegH (w.heap.size + 2) wR wR.drew) := Lib.hid (RegH.drew ⟨Only.refl _ _, hXR.rb⟩)
    have hbX : ∀ X, RegH (w.heap.size + 2) wR X → Below w.heap.size w X := fun X h => hbR.trans (h.on.below (by omega) hbR.size)
    have HBX2 := Lib.hid hbX
    have HPF3 : Hid (∀ X, RegH (w.heap.size + 2) wR X → Calls Tryz.prog 58 #[.agg #[.bool o.q, .bool o.ig, .bool o.nu, .slice TA TN TC], .agg #[.int .i64 x.kind, .int .i64 x.num, .string x.name, .slice A' x.args.length cap'], .int .i64 sr, .bool true] X fun e w' => ∃ v, e = .returned v ∧ Below X.heap.size X w' ∧ OwnS 9 wR.heap.size w' v PL) :=
      Lib.hid (fun X h => (HPF2.out X (hbX X h) HS0.out).mono fun _ _ ⟨v, he, hB, hO⟩ => ⟨v, he, hB, hO.mono h.on.size⟩)
    have HFR := Lib.hid (fun X (h : Below wR.heap.size wR X) => (⟨hXR.call h, hGR.call h⟩ : _ ∧ _))
    clear hbX HPF2 HOP HX HBX HEL hX2 hG HSD0
    go_wp2_with fail
    go_region_held3 (fun w' => w'.cell? ⟨w.heap.size, 0, none⟩ = some (.bool o.q) ∧ w'.cell? ⟨w.heap.size, 1, none⟩ = some (.bool o.ig) ∧ w'.cell? ⟨w.heap.size, 2, none⟩ = some (.bool o.nu) ∧ w'.cell? ⟨w.heap.size, 3, none⟩ = some (.slice TA TN TC) ∧ w'.cell? ⟨w.heap.size + 1, 3, none⟩ = some (.slice (some ⟨b, off, none⟩) 1 cap) ∧ w'.cell? ⟨b, off, none⟩ = some (.int .i64 x.kind) ∧ w'.cell? ⟨b, off + 1, none⟩ = some (.int .i64 x.num) ∧ w'.cell? ⟨b, off + 2, none⟩ = some (.string x.name) ∧ w'.cell? ⟨b, off + 3, none⟩ = some (.slice A' x.args.length cap') ∧ RegH (w.heap.size + 2) wR w')
      (first
        | with_reducible exact HKEEP.out _ HST.out
        | with_reducible exact HKEEP.out _ (RegH.call (HOF.out _ (by with_reducible assumption)) (by with_reducible assumption)))
      (first
        | (go_at_call 58; (with_reducible refine (HPF3.out _ (HOF.out _ (by with_reducible assumption))).mono ?_); rintro e w4 ⟨v4, rfl, hB4, hO4⟩)
        | fail)
    have hBw4 : Below wR.heap.size wR w4 := (Below.refl wR.heap.size wR).drew.trans hB4
    obtain ⟨hX4, hG4⟩ := HFR.out w4 hBw4
    have hb4 := hX4.f2.bel
    obtain ⟨gp, cp, rfl, hch, hcall⟩ := own_hd hO4 hpl0 rfl
    have HO4 := Lib.hid hO4
    have x3 := hX4.f2.wb.c3
    clear hB4 hO4
    go_wp2_with fail
    refine (HO1.out _ hb4).mono ?_; rintro e w5 ⟨rfl, hB5⟩
    have hb5 := (hb4.trans (hB5.mono hb4.size)).alloc (hb4.trans (hB5.mono hb4.size)).size (.cells #[.string q1.name, .int .i64 q1.typ, .int .i64 q1.prec] 80)
    have hB5' : Below w4.heap.size w4 (w5.alloc (.cells #[.string q1.name, .int .i64 q1.typ, .int .i64 q1.prec] 80)) := hB5.alloc hB5.size _
    have hX5 := hX4.call hB5'
    have x5 := hX5.f2.wb.c3
    clear x3
    go_wp2_with fail
    refine (HO2.out _ hb5).mono ?_; rintro e w6 ⟨rfl, hB6⟩
    have hb6 := (hb5.trans (hB6.mono hb5.size)).alloc (hb5.trans (hB6.mono hb5.size)).size (.cells #[.string q2.name, .int .i64 q2.typ, .int .i64 q2.prec] 80)
    have hB6' : Below w4.heap.size w4 (w6.alloc (.cells #[.string q2.name, .int .i64 q2.typ, .int .i64 q2.prec] 80)) := (hB5'.trans (hB6.mono hB5'.size)).alloc (hB5'.trans (hB6.mono hB5'.size)).size _
    have hX6 := hX4.call hB6'
    have x6 := hX6.f2.wb.c3
    clear x5
    go_wp2_with fail
    refine (HO3.out _ hb6).mono ?_; rintro e w7 ⟨rfl, hB7⟩
    have hB7' : Below w4.heap.size w4 (w7.alloc (.cells #[.string q3.name, .int .i64 q3.typ, .int .i64 q3.prec] 80)) := (hB6'.trans (hB7.mono hB6'.size)).alloc (hB6'.trans (hB7.mono hB6'.size)).size _
    clear x6 hX5 hX6 hB5' hb5 hb6 hB6'
    go_upto_region 9 with fail
    generalize w7.alloc (.cells #[.string q3.name, .int .i64 q3.typ, .int .i64 q3.prec] 80) = wB at *
    have hgp : gp < w4.heap.size := (HO4.out.lt gp rfl).2
    have hchB : wB.cell? ⟨gp, 0, none⟩ = some (.string (hd PL)) := (hB7'.cell (p := ⟨gp, 0, none⟩) hgp).trans hch
    have HOB := Lib.hid (HO4.out.below hB7')
    have hBwB : Below wR.heap.size wR wB := hBw4.trans (hB7'.mono hBw4.size)
    obtain ⟨hXB, hGB⟩ := HFR.out wB hBwB
    have hbB := hXB.f2.bel
    have hszB := hBwB.size
    obtain ⟨pn, HPN⟩ : ∃ pn, Hid (pn = PL.length) := ⟨_, Lib.hid rfl⟩
    rw [← HPN.out] at HOB ⊢
    have hpn1 : 0 < pn := by rw [HPN.out]; exact hpl0
    have hp0 : (0 : Int) < (pn : Int) := by omega
    clear hch hcall HO4 hX4 hG4 hb4 hBw4 hB7' hB5 hB6 hB7
    go_cut [10] from 18 (fun v wc => Hid (Below wB.heap.size wB wc ∧ OwnS 9 wR.heap.size wc v (brk PL ng)))
    case first =>
      have HBR := Lib.hid (fun (bb : Bool) => w_bracket bb (.slice (some ⟨gp, 0, none⟩) pn cp) wR.heap.size PL wB (by omega) (by have h := HOB.out; rw [HPN.out] at h ⊢; exact h) hszB)
      generalize hd PL = h0 at *
      have HDG := Lib.hid (fun W => w_digit h0 1 W (by unfold maxLen; omega) (by decide))
      by_cases hz : h0.size = 0
      · have ea := (empty_of h0 hz).1
        have ea2 : h0.toList.isEmpty = true := by rw [ea]; rfl
        have HNV : Hid (ng = false) := Lib.hid (by rw [HNG2.out]; simp [hz])
        clear hz
        go_wp2_with fail
        refine (HBR.out false).mono ?_; rintro e wc ⟨vc, rfl, hBc, hOc⟩
        have HC := Lib.hid hOc
        clear hOc
        go_wp2_with fail
        go_meet
        case rel => exact Lib.hid ⟨hBc, by rw [HNV.out]; exact HC.out⟩
      · have hzp : 0 < h0.size := by omega
        have ea := tl_ne h0 hzp
        have ea2 := tl_ne2 h0 hzp
        have hbm := bAt_mk h0 0 hzp
        have hi1 : (0 : Int) < (h0.size : Int) := by omega
        have HNG3 : Hid (ng = ((bAt h0.data.toList 0 == 45) && (digW h0 1 && ((hin || hpost) && !hpre)))) := Lib.hid (by rw [HNG2.out, decide_eq_true hzp, Bool.true_and])
        clear HNG2
        generalize bAt h0.data.toList 0 = c at *
        cases hc45 : (c == 45)
        · have HNV : Hid (ng = false) := Lib.hid (by rw [HNG3.out, hc45]; rfl)
          have hc46 : ¬ c = 45 := by simpa using hc45
          go_wp2_with fail
          refine (HBR.out false).mono ?_; rintro e wc ⟨vc, rfl, hBc, hOc⟩
          have HC := Lib.hid hOc
          clear hOc
          go_wp2_with fail
          go_meet
          case rel => exact Lib.hid ⟨hBc, by rw [HNV.out]; exact HC.out⟩
        · have hc46 : c = 45 := by simpa using hc45
          cases hd1 : digW h0 1
          · have HNV : Hid (ng = false) := Lib.hid (by rw [HNG3.out, hd1, hc45]; rfl)
            rw [hd1] at HDG
            go_wp2_with fail
            refine (HDG.out _).mono ?_; rintro e wd ⟨rfl, rfl⟩
            go_wp2_with fail
            refine (HBR.out false).mono ?_; rintro e wc ⟨vc, rfl, hBc, hOc⟩
            have HC := Lib.hid hOc
            clear hOc
            go_wp2_with fail
            go_meet
            case rel => exact Lib.hid ⟨hBc, by rw [HNV.out]; exact HC.out⟩
          · rw [hd1, hc45] at HNG3
            rw [hd1] at HDG
            cases hin <;> cases hpost <;> cases hpre
            all_goals
              go_wp2_with fail
              refine (HDG.out _).mono ?_; rintro e wd ⟨rfl, rfl⟩
              go_wp2_with fail
              refine (HBR.out _).mono ?_; rintro e wc ⟨vc, rfl, hBc, hOc⟩
              have HC := Lib.hid hOc
              clear hOc
              go_wp2_with fail
              go_meet
              case rel => exact Lib.hid ⟨hBc, by rw [HNG3.out]; exact HC.out⟩
    case rest =>
      obtain ⟨hBc, hOc⟩ := hcut.out
      clear hcut HOB hchB hgp
      have hbc : Below wR.heap.size wR wc := hBwB.trans (hBc.mono hszB)
      obtain ⟨hXc, hGc⟩ := HFR.out wc hbc
      have hbwc := hXc.f2.bel
      have hP1 : 0 < (brk PL ng).length := brk_pos hpl0
      have hP2 := brk_le PL ng
      have hP3 := hd_brk_size (b := ng) hpl2
      obtain ⟨n1, HN1⟩ : ∃ n1, Hid (n1 = (brk PL ng).length) := ⟨_, Lib.hid rfl⟩
      have hn1p : 0 < n1 := by rw [HN1.out]; exact hP1
      have hn1l : n1 ≤ 80002 := by rw [HN1.out]; omega
      obtain ⟨g1, c1, hv1, hh1, hcl1⟩ := own_hd hOc hP1 rfl
      rw [← HN1.out] at hv1
      subst hv1
      have hg1 : wR.heap.size ≤ g1 ∧ g1 < wc.heap.size := hOc.lt g1 rfl
      obtain ⟨h1, HH1⟩ : ∃ h1, Hid (h1 = hd (brk PL ng)) := ⟨_, Lib.hid rfl⟩
      rw [← HH1.out] at hh1 hP3 HSP
      obtain ⟨P1, HP1⟩ : ∃ P1, Hid (P1 = brk PL ng) := ⟨_, Lib.hid rfl⟩
      rw [← HP1.out] at hcl1 HN1 HSP
      have z0 := hXc.f2.wb.c0
      have z1 := hXc.f2.wb.c1
      have z2 := hXc.f2.wb.c2
      have z3 := hXc.f2.wb.c3
      have z4 := hXc.f2.tb.c2
      have hnp0 : (0 : Int) < (n1 : Int) := by omega
      clear hOc hBwB hXB hGB hbB hszB hBc hP1 hP2 HNG2 HNGE HO1 HO2 HO3 HPF3 HST HOF HKEEP
      go_wp2_with fail
      refine (HNM.out _ hbwc).mono ?_; rintro e w8 ⟨rfl, hB8⟩
      have hX8 := hXc.call hB8
      have hG8 := hGc.call hB8
      have hb8 := hX8.f2.bel
      have HR8 : Hid (RegH (w.heap.size + 2) w8 w8) := Lib.hid ⟨Only.refl _ _, hX8.rb⟩
      have hlt8 := hX8.rb.lt
      have HK8 : Hid (∀ X, RegH (w.heap.size + 2) w8 X → X.cell? ⟨w1.heap.size, 0, none⟩ = some (.string op.name) ∧ X.cell? ⟨w1.heap.size, 1, none⟩ = some (.int .i64 op.typ) ∧ X.cell? ⟨w1.heap.size, 2, none⟩ = some (.int .i64 op.prec) ∧ RegH (w.heap.size + 2) w8 X) := Lib.hid (fun X h => by
        have hw : ∀ k, X.cell? ⟨w1.heap.size, k, none⟩ = w8.cell? ⟨w1.heap.size, k, none⟩ := fun k => h.on.cell (p := ⟨_, k, none⟩) hG8.lt (show w1.heap.size ≠ w.heap.size + 2 by omega)
        exact ⟨(hw _).trans hG8.c0, (hw _).trans hG8.c1, (hw _).trans hG8.c2, h⟩)
      have HOF8 : Hid (∀ X, (X.cell? ⟨w1.heap.size, 0, none⟩ = some (.string op.name) ∧ X.cell? ⟨w1.heap.size, 1, none⟩ = some (.int .i64 op.typ) ∧ X.cell? ⟨w1.heap.size, 2, none⟩ = some (.int .i64 op.prec) ∧ RegH (w.heap.size + 2) w8 X) → RegH (w.heap.size + 2) w8 X) := Lib.hid (fun X h => h.2.2.2)
      have hne1 : g1 ≠ w.heap.size + 2 := by omega
      have HSRC : Hid (∀ X, RegH (w.heap.size + 2) w8 X → ∀ j u, (P1.map Value.string)[j]? = some u → X.cell? ((⟨g1, 0, none⟩ : Addr).add j) = some u) := Lib.hid (fun X h j u hu => by
        have h0 := hcl1 j u hu
        rw [addr_add] at h0 ⊢
        have h8 : w8.cell? ⟨g1, 0 + j, none⟩ = wc.cell? ⟨g1, 0 + j, none⟩ := hB8.cell (p := ⟨g1, _, none⟩) hg1.2
        rw [h.on.cell (p := ⟨g1, _, none⟩) (Nat.lt_of_lt_of_le hg1.2 hB8.size) hne1, h8]; exact h0)
      have hbX8 : ∀ X, RegH (w.heap.size + 2) w8 X → Below w.heap.size w X := fun X h => hb8.trans (h.on.below (by omega) hb8.size)
      have HBX8 := Lib.hid hbX8
      have HD8 := Lib.hid (RegH.alloc HR8.out (.cells #[.string nm] 9))
      have HOD := Lib.hid (OwnS.one 9 w8 nm)
      have hBD : Below w8.heap.size w8 (w8.alloc (.cells #[.string nm] 9)) := (Below.refl _ _).alloc (Nat.le_refl _) _
      have hXD := hX8.call hBD
      have v4 := hXD.f2.tb.c2
      have hh8 : (w8.alloc (.cells #[.string nm] 9)).cell? ⟨g1, 0, none⟩ = some (.string h1) := (hBD.cell (p := ⟨g1, 0, none⟩) (Nat.lt_of_lt_of_le hg1.2 hB8.size)).trans ((hB8.cell (p := ⟨g1, 0, none⟩) hg1.2).trans hh1)
      have hsD : (w8.alloc (.cells #[.string nm] 9)).heap.size = w8.heap.size + 1 := by simp
      clear z0 z1 z2 z3 z4 hbX8 hcl1 HNM hXc hGc hX8 hG8 hXD hBD HFR
      go_upto_region 11 with fail
      generalize w8.alloc (.cells #[.string nm] 9) = wD at *
      obtain ⟨sp, HSPE⟩ : ∃ sp, Hid (sp = spcW t.name P1) := ⟨_, Lib.hid rfl⟩
      rw [HP1.out] at HSPE
      go_cut [118] from 18 (fun v wq => v = .bool sp ∧ wq = wD)
      case first =>
        have HDG := Lib.hid (fun W => w_digit h1 0 W (by unfold maxLen; omega) (by decide))
        have HSV : Hid (sp = (h1.toList == [40] || (t.name.toList == [45] && digW h1 0))) := Lib.hid (by rw [HSPE.out, ← HP1.out]; exact HSP.out)
        cases ha : (h1.toList == [40])
        · have ha2 : ¬ h1.toList = [40] := by simpa using ha
          cases hm : (t.name.toList == [45])
          · have hm2 : ¬ t.name.toList = [45] := by simpa using hm
            have HV : Hid (sp = false) := Lib.hid (by rw [HSV.out, ha, hm]; rfl)
            go_wp2_with fail
            go_meet
            case rel => exact ⟨by rw [HV.out], rfl⟩
          · have hm2 : t.name.toList = [45] := by simpa using hm
            have HV : Hid (sp = digW h1 0) := Lib.hid (by rw [HSV.out, ha, hm]; rfl)
            go_wp2_with fail
            refine (HDG.out _).mono ?_; rintro e wd ⟨rfl, rfl⟩
            go_wp2_with fail
            go_meet
            case rel => exact ⟨by rw [HV.out], rfl⟩
        · have ha2 : h1.toList = [40] := by simpa using ha
          have HV : Hid (sp = true) := Lib.hid (by rw [HSV.out, ha]; rfl)
          go_wp2_with fail
          go_meet
          case rel => exact ⟨by rw [HV.out], rfl⟩
      case rest =>
        obtain ⟨rfl, rfl⟩ := hcut
        have HGOAL : Hid (∀ (wE : World) (v : Value) (m : List ByteArray), OwnS 9 w8.heap.size wE v (nm :: (m ++ P1)) → (if sp = true then [s1 32] else []) = m → OwnS 9 w8.heap.size wE v RES) := Lib.hid (fun wE v m h hm => by
          rw [HRES.out, ← HSPE.out, hm, ← HNE.out, ← HP1.out]; exact h)
        clear HSPE HSP HP1 HNE HH1
        cases sp
        · have HST : Hid (RegH (w.heap.size + 2) w8 wc.drew) := Lib.hid HD8.out.drew
          go_wp2_with fail
          go_region_held3 (fun w' => w'.cell? ⟨w1.heap.size, 0, none⟩ = some (.string op.name) ∧ w'.cell? ⟨w1.heap.size, 1, none⟩ = some (.int .i64 op.typ) ∧ w'.cell? ⟨w1.heap.size, 2, none⟩ = some (.int .i64 op.prec) ∧ RegH (w.heap.size + 2) w8 w')
            (first
              | with_reducible exact HK8.out _ HST.out
              | with_reducible exact HK8.out _ hR9
              | with_reducible exact HK8.out _ (RegH.put4 (HOF8.out _ (by with_reducible assumption)) _ _ _ _))
            (first
              | (have hq7 := HOF8.out wc.drew (by with_reducible assumption); refine step_append_lies _ (by rfl) _ _ 28 (by rfl) w8.heap.size 9 i _ 1 16 Tryz.underlying28 HI.out HZ0.out HZ1.out HZ2.out (by rfl) (by decide) (.slice (some ⟨w8.heap.size, 0, none⟩) 1 1) 1 ([nm].map Value.string) (by rfl) (World.ownsRow.drew HOD.out) ⟨g1, 0, none⟩ n1 c1 (P1.map Value.string) (by rfl) (by rw [HN1.out]; simp) (HSRC.out _ hq7) (strs_one _) hn1p (by unfold maxLen; omega) (by omega) hq7.on.size wc.heap.size rfl ?_; intro g9 c9 w9 hown9 hg9 hat9 hlt9; have hR9 : RegH (w.heap.size + 2) w8 w9 := hq7.grown hg9 (fun k hk => (HOD.out.lt k hk).1) hlt8; obtain ⟨u0, r0⟩ := hR9.rb.r0; obtain ⟨u1, r1⟩ := hR9.rb.r1; obtain ⟨u2, r2⟩ := hR9.rb.r2; obtain ⟨u3, r3⟩ := hR9.rb.r3; have f0 := hR9.rb.rf 0; have f1 := hR9.rb.rf 1; have f2 := hR9.rb.rf 2; have f3 := hR9.rb.rf 3)
              | fail)
          all_goals
            have hfin := put4_below (HBX8.out w9 hR9) (w.heap.size + 2) (by omega) (.slice (some ⟨g9, 0, none⟩) (1 + n1) c9) (.string op.name) (.int .i64 op.typ) (.int .i64 op.prec)
            have HO9 : Hid (OwnS 9 w8.heap.size w9 (.slice (some ⟨g9, 0, none⟩) (1 + n1) c9) (nm :: ([] ++ P1))) := Lib.hid (by
              unfold OwnS
              have e1 : (nm :: ([] ++ P1)).length = 1 + n1 := by rw [HN1.out]; simp; omega
              have e2 : (nm :: ([] ++ P1)).map Value.string = ([nm].map Value.string) ++ P1.map Value.string := by simp
              rw [e1, e2]; exact hown9)
            clear hown9 hg9
            go_wp2_with fail
            refine bodyPost_ret (v := .tuple #[.agg #[.slice (some ⟨g9, 0, none⟩) (1 + n1) c9, .string op.name, .int .i64 op.typ, .int .i64 op.prec], .bool true]) (by simp [results, Tryz.results130, go_sem, r0, r1, r2, r3]) rfl ⟨_, _, _, rfl, hfin, ?_⟩
            exact ((HGOAL.out _ _ _ HO9.out rfl).put4 hlt8 _ _ _ _).mono hb8.size
        · go_wp2_with ((with_reducible refine at_appSS ?_); go_must (refine wpList_append_one rfl _ _ 28 9 rfl Tryz.underlying28 _ 1 16 infoStr rfl (by decide) w8.heap.size _ _ _ rfl wc HOD.out #[.string ⟨#[32]⟩] rfl (by simp [Value.oneCell']) rfl (by rw [hsD]; rfl) (by simp) (by simp) (by rw [hsD]; omega) ?_; intro v10 w10 ho10 hB10 hg10; have hR10 : RegH (w.heap.size + 2) w8 w10 := (HD8.out.alloc (.cells #[.string ⟨#[32]⟩] 9)).grown hg10 (fun k hk => (HOD.out.lt k hk).1) hlt8; have HO10 := Lib.hid ho10; have HR10 := Lib.hid hR10))
          have HST : Hid (RegH (w.heap.size + 2) w8 w10.drew) := Lib.hid HR10.out.drew
          clear ho10 hR10 hB10 hg10
          go_region_held3 (fun w' => w'.cell? ⟨w1.heap.size, 0, none⟩ = some (.string op.name) ∧ w'.cell? ⟨w1.heap.size, 1, none⟩ = some (.int .i64 op.typ) ∧ w'.cell? ⟨w1.heap.size, 2, none⟩ = some (.int .i64 op.prec) ∧ RegH (w.heap.size + 2) w8 w')
            (first
              | with_reducible exact HK8.out _ HST.out
              | with_reducible exact HK8.out _ hR9
              | with_reducible exact HK8.out _ (RegH.put4 (HOF8.out _ (by with_reducible assumption)) _ _ _ _))
            (first
              | (have hq7 := HOF8.out w10.drew (by with_reducible assumption); refine step_append_lies _ (by rfl) _ _ 28 (by rfl) w8.heap.size 9 i _ 1 16 Tryz.underlying28 HI.out HZ0.out HZ1.out HZ2.out (by rfl) (by decide) v10 2 ([nm].map Value.string ++ [s1 32].map Value.string) (by rfl) (World.ownsRow.drew HO10.out) ⟨g1, 0, none⟩ n1 c1 (P1.map Value.string) (by rfl) (by rw [HN1.out]; simp) (HSRC.out _ hq7) (strs_one _) hn1p (by unfold maxLen; omega) (by omega) hq7.on.size w10.heap.size rfl ?_; intro g9 c9 w9 hown9 hg9 hat9 hlt9; have hR9 : RegH (w.heap.size + 2) w8 w9 := hq7.grown hg9 (fun k hk => (HO10.out.lt k hk).1) hlt8; obtain ⟨u0, r0⟩ := hR9.rb.r0; obtain ⟨u1, r1⟩ := hR9.rb.r1; obtain ⟨u2, r2⟩ := hR9.rb.r2; obtain ⟨u3, r3⟩ := hR9.rb.r3; have f0 := hR9.rb.rf 0; have f1 := hR9.rb.rf 1; have f2 := hR9.rb.rf 2; have f3 := hR9.rb.rf 3)
              | fail)
          all_goals
            have hfin := put4_below (HBX8.out w9 hR9) (w.heap.size + 2) (by omega) (.slice (some ⟨g9, 0, none⟩) (2 + n1) c9) (.string op.name) (.int .i64 op.typ) (.int .i64 op.prec)
            have HO9 : Hid (OwnS 9 w8.heap.size w9 (.slice (some ⟨g9, 0, none⟩) (2 + n1) c9) (nm :: ([s1 32] ++ P1))) := Lib.hid (by
              unfold OwnS
              have e1 : (nm :: ([s1 32] ++ P1)).length = 2 + n1 := by rw [HN1.out]; simp; omega
              have e2 : (nm :: ([s1 32] ++ P1)).map Value.string = ([nm].map Value.string ++ [s1 32].map Value.string) ++ P1.map Value.string := by simp
              rw [e1, e2]; exact hown9)
            clear hown9 hg9
            go_wp2_with fail
            refine bodyPost_ret (v := .tuple #[.agg #[.slice (some ⟨g9, 0, none⟩) (2 + n1) c9, .string op.name, .int .i64 op.typ, .int .i64 op.prec], .bool true]) (by simp [results, Tryz.results130, go_sem, r0, r1, r2, r3]) rfl ⟨_, _, _, rfl, hfin, ?_⟩
            exact ((HGOAL.out _ _ _ HO9.out rfl).put4 hlt8 _ _ _ _).mono hb8.size
end Go.Proofs.YtgapnafkelokaaaGreatDoor
namespace Hb
open Go Go.RowKit
def condCur (o : WO) (t : Tm) : Bool := !o.ig && (t.isNm [123, 125] && t.args.length == 1)
def ruleCur (o : WO) (T : List OpR) (S : Tm → WR) (t : Tm) : WR := if condCur o t = true then (s1 123 :: (placeW o T S (t.arg 0) 1200 false ++ [s1 125]), op0) else ([], op0)
theorem ruleCur_no {o : WO} {T : List OpR} {S : Tm → WR} {t : Tm} (h : condCur o t = false) : ruleCur o T S t = ([], op0) := by unfold ruleCur; rw [h]; rfl
theorem ruleCur_yes {o : WO} {T : List OpR} {S : Tm → WR} {t : Tm} (h : condCur o t = true) : ruleCur o T S t = (s1 123 :: (placeW o T S (t.arg 0) 1200 false ++ [s1 125]), op0) := by unfold ruleCur; rw [if_pos h]
end Hb
namespace Go.Proofs.YtgapnafkelokaaaGreatDoor
open Go.RowKit Hb
set_option maxRecDepth 100000
variable {o : WO} {T : List OpR} {TA : Option Addr} {TN TC : Nat} {S : Tm → WR}
/-- What a closure gives. -/
def Gives (k : FuncId) (args : Array Value) (w : World) (l : List ByteArray) (p : OpR) (bb : Bool) : Prop :=
  Calls Tryz.prog k args w fun e w' => ∃ A' n' c', e = .returned (wrR A' n' c' p bb) ∧ Below w.heap.size w w' ∧ OwnS 9 w.heap.size w' (.slice A' n' c') l
set_option maxHeartbeats 1600000 in
theorem w_rule1 (t : Tm) (A : Option Addr) (cap gw gt : Nat) (w : World) (l : List ByteArray) (p : OpR) (bb : Bool) (hC : ∀ W, Below w.heap.size w W → Gives 123 #[wrV o TA TN TC, tmV t A cap] W l p bb) (hW : WBox w gw o TA TN TC) (hT : TBx w gt t A cap) :
    Gives 122 #[.pointer (some ⟨gw, 0, none⟩), .pointer (some ⟨gt, 0, none⟩)] w l p bb := by
  have HR := RBx.start w (.slice none 0 0) (.string ⟨#[]⟩) (.int .i64 0) (.int .i64 0) 138
  have hB0 := (Below.refl w.heap.size w).alloc (Nat.le_refl _) (.cells #[.slice none 0 0, .string ⟨#[]⟩, .int .i64 0, .int .i64 0] 138)
  have HC := Lib.hid (hC _ hB0)
  have x0 := hW.c0
  have x1 := hW.c1
  have x2 := hW.c2
  have x3 := hW.c3
  have y0 := hT.c0
  have y1 := hT.c1
  have y2 := hT.c2
  have y3 := hT.c3
  have lw := hW.lt
  have lt := hT.lt
  clear hC
  unfold Gives tmV wrV wrR at *
  generalize t.kind = a0 at *
  generalize t.num = a1 at *
  generalize t.name = a2 at *
  generalize t.args.length = a3 at *
  go_enter Tryz.func122, Tryz.ntmps122
  go_wp2_with fail
  refine HC.out.mono ?_; rintro e w1 ⟨A1, n1, c1, rfl, hB1, hO1⟩
  have hR1 := HR.call hB1
  have hb1 := hB0.trans (hB1.mono hB0.size)
  have HO1 := Lib.hid hO1
  obtain ⟨u0, r0⟩ := hR1.r0
  obtain ⟨u1, r1⟩ := hR1.r1
  obtain ⟨u2, r2⟩ := hR1.r2
  obtain ⟨u3, r3⟩ := hR1.r3
  have f0 := hR1.rf 0
  have f1 := hR1.rf 1
  have f2 := hR1.rf 2
  have f3 := hR1.rf 3
  clear hO1 x0 x1 x2 x3 y0 y1 y2 y3
  go_wp2_with fail
  refine bodyPost_ret (v := .tuple #[.agg #[.slice A1 n1 c1, .string p.name, .int .i64 p.typ, .int .i64 p.prec], .bool bb]) (by simp [results, Tryz.results122, go_sem, r0, r1, r2, r3]) rfl ⟨A1, n1, c1, rfl, put4_below hb1 _ (Nat.le_refl _) _ _ _ _, ?_⟩
  exact (HO1.out.put4 (by simp) _ _ _ _).mono hB0.size
set_option maxHeartbeats 1600000 in
theorem w_rule2 (t : Tm) (A : Option Addr) (cap gw gt : Nat) (w : World) (l : List ByteArray) (p : OpR) (bb : Bool) (hC : ∀ W, Below w.heap.size w W → Gives 125 #[wrV o TA TN TC, tmV t A cap] W l p bb) (hW : WBox w gw o TA TN TC) (hT : TBx w gt t A cap) :
    Gives 124 #[.pointer (some ⟨gw, 0, none⟩), .pointer (some ⟨gt, 0, none⟩)] w l p bb := by
  have HR := RBx.start w (.slice none 0 0) (.string ⟨#[]⟩) (.int .i64 0) (.int .i64 0) 138
  have hB0 := (Below.refl w.heap.size w).alloc (Nat.le_refl _) (.cells #[.slice none 0 0, .string ⟨#[]⟩, .int .i64 0, .int .i64 0] 138)
  have HC := Lib.hid (hC _ hB0)
  have x0 := hW.c0
  have x1 := hW.c1
  have x2 := hW.c2
  have x3 := hW.c3
  have y0 := hT.c0
  have y1 := hT.c1
  have y2 := hT.c2
  have y3 := hT.c3
  have lw := hW.lt
  have lt := hT.lt
  clear hC
  unfold Gives tmV wrV wrR at *
  generalize t.kind = a0 at *
  generalize t.num = a1 at *
  generalize t.name = a2 at *
  generalize t.args.length = a3 at *
  go_enter Tryz.func124, Tryz.ntmps124
  go_wp2_with fail
  refine HC.out.mono ?_; rintro e w1 ⟨A1, n1, c1, rfl, hB1, hO1⟩
  have hR1 := HR.call hB1
  have hb1 := hB0.trans (hB1.mono hB0.size)
  have HO1 := Lib.hid hO1
  obtain ⟨u0, r0⟩ := hR1.r0
  obtain ⟨u1, r1⟩ := hR1.r1
  obtain ⟨u2, r2⟩ := hR1.r2
  obtain ⟨u3, r3⟩ := hR1.r3
  have f0 := hR1.rf 0
  have f1 := hR1.rf 1
  have f2 := hR1.rf 2
  have f3 := hR1.rf 3
  clear hO1 x0 x1 x2 x3 y0 y1 y2 y3
  go_wp2_with fail
  refine bodyPost_ret (v := .tuple #[.agg #[.slice A1 n1 c1, .string p.name, .int .i64 p.typ, .int .i64 p.prec], .bool bb]) (by simp [results, Tryz.results124, go_sem, r0, r1, r2, r3]) rfl ⟨A1, n1, c1, rfl, put4_below hb1 _ (Nat.le_refl _) _ _ _ _, ?_⟩
  exact (HO1.out.put4 (by simp) _ _ _ _).mono hB0.size
set_option maxHeartbeats 1600000 in
theorem w_rule4 (t : Tm) (A : Option Addr) (cap gw gt : Nat) (w : World) (l : List ByteArray) (p : OpR) (bb : Bool) (hC : ∀ W, Below w.heap.size w W → Gives 128 #[wrV o TA TN TC, tmV t A cap] W l p bb) (hW : WBox w gw o TA TN TC) (hT : TBx w gt t A cap) :
    Gives 127 #[.pointer (some ⟨gw, 0, none⟩), .pointer (some ⟨gt, 0, none⟩)] w l p bb := by
  have HR := RBx.start w (.slice none 0 0) (.string ⟨#[]⟩) (.int .i64 0) (.int .i64 0) 138
  have hB0 := (Below.refl w.heap.size w).alloc (Nat.le_refl _) (.cells #[.slice none 0 0, .string ⟨#[]⟩, .int .i64 0, .int .i64 0] 138)
  have HC := Lib.hid (hC _ hB0)
  have x0 := hW.c0
  have x1 := hW.c1
  have x2 := hW.c2
  have x3 := hW.c3
  have y0 := hT.c0
  have y1 := hT.c1
  have y2 := hT.c2
  have y3 := hT.c3
  have lw := hW.lt
  have lt := hT.lt
  clear hC
  unfold Gives tmV wrV wrR at *
  generalize t.kind = a0 at *
  generalize t.num = a1 at *
  generalize t.name = a2 at *
  generalize t.args.length = a3 at *
  go_enter Tryz.func127, Tryz.ntmps127
  go_wp2_with fail
  refine HC.out.mono ?_; rintro e w1 ⟨A1, n1, c1, rfl, hB1, hO1⟩
  have hR1 := HR.call hB1
  have hb1 := hB0.trans (hB1.mono hB0.size)
  have HO1 := Lib.hid hO1
  obtain ⟨u0, r0⟩ := hR1.r0
  obtain ⟨u1, r1⟩ := hR1.r1
  obtain ⟨u2, r2⟩ := hR1.r2
  obtain ⟨u3, r3⟩ := hR1.r3
  have f0 := hR1.rf 0
  have f1 := hR1.rf 1
  have f2 := hR1.rf 2
  have f3 := hR1.rf 3
  clear hO1 x0 x1 x2 x3 y0 y1 y2 y3
  go_wp2_with fail
  refine bodyPost_ret (v := .tuple #[.agg #[.slice A1 n1 c1, .string p.name, .int .i64 p.typ, .int .i64 p.prec], .bool bb]) (by simp [results, Tryz.results127, go_sem, r0, r1, r2, r3]) rfl ⟨A1, n1, c1, rfl, put4_below hb1 _ (Nat.le_refl _) _ _ _ _, ?_⟩
  exact (HO1.out.put4 (by simp) _ _ _ _).mono hB0.size
set_option maxHeartbeats 1600000 in
theorem w_rule5 (t : Tm) (A : Option Addr) (cap gw gt : Nat) (w : World) (l : List ByteArray) (p : OpR) (bb : Bool) (hC : ∀ W, Below w.heap.size w W → Gives 130 #[wrV o TA TN TC, tmV t A cap] W l p bb) (hW : WBox w gw o TA TN TC) (hT : TBx w gt t A cap) :
    Gives 129 #[.pointer (some ⟨gw, 0, none⟩), .pointer (some ⟨gt, 0, none⟩)] w l p bb := by
  have HR := RBx.start w (.slice none 0 0) (.string ⟨#[]⟩) (.int .i64 0) (.int .i64 0) 138
  have hB0 := (Below.refl w.heap.size w).alloc (Nat.le_refl _) (.cells #[.slice none 0 0, .string ⟨#[]⟩, .int .i64 0, .int .i64 0] 138)
  have HC := Lib.hid (hC _ hB0)
  have x0 := hW.c0
  have x1 := hW.c1
  have x2 := hW.c2
  have x3 := hW.c3
  have y0 := hT.c0
  have y1 := hT.c1
  have y2 := hT.c2
  have y3 := hT.c3
  have lw := hW.lt
  have lt := hT.lt
  clear hC
  unfold Gives tmV wrV wrR at *
  generalize t.kind = a0 at *
  generalize t.num = a1 at *
  generalize t.name = a2 at *
  generalize t.args.length = a3 at *
  go_enter Tryz.func129, Tryz.ntmps129
  go_wp2_with fail
  refine HC.out.mono ?_; rintro e w1 ⟨A1, n1, c1, rfl, hB1, hO1⟩
  have hR1 := HR.call hB1
  have hb1 := hB0.trans (hB1.mono hB0.size)
  have HO1 := Lib.hid hO1
  obtain ⟨u0, r0⟩ := hR1.r0
  obtain ⟨u1, r1⟩ := hR1.r1
  obtain ⟨u2, r2⟩ := hR1.r2
  obtain ⟨u3, r3⟩ := hR1.r3
  have f0 := hR1.rf 0
  have f1 := hR1.rf 1
  have f2 := hR1.rf 2
  have f3 := hR1.rf 3
  clear hO1 x0 x1 x2 x3 y0 y1 y2 y3
  go_wp2_with fail
  refine bodyPost_ret (v := .tuple #[.agg #[.slice A1 n1 c1, .string p.name, .int .i64 p.typ, .int .i64 p.prec], .bool bb]) (by simp [results, Tryz.results129, go_sem, r0, r1, r2, r3]) rfl ⟨A1, n1, c1, rfl, put4_below hb1 _ (Nat.le_refl _) _ _ _ _, ?_⟩
  exact (HO1.out.put4 (by simp) _ _ _ _).mono hB0.size
set_option maxHeartbeats 1600000 in
theorem w_rule6 (t : Tm) (A : Option Addr) (cap gw gt : Nat) (w : World) (l : List ByteArray) (p : OpR) (bb : Bool) (hC : ∀ W, Below w.heap.size w W → Gives 132 #[wrV o TA TN TC, tmV t A cap] W l p bb) (hW : WBox w gw o TA TN TC) (hT : TBx w gt t A cap) :
    Gives 131 #[.pointer (some ⟨gw, 0, none⟩), .pointer (some ⟨gt, 0, none⟩)] w l p bb := by
  have HR := RBx.start w (.slice none 0 0) (.string ⟨#[]⟩) (.int .i64 0) (.int .i64 0) 138
  have hB0 := (Below.refl w.heap.size w).alloc (Nat.le_refl _) (.cells #[.slice none 0 0, .string ⟨#[]⟩, .int .i64 0, .int .i64 0] 138)
  have HC := Lib.hid (hC _ hB0)
  have x0 := hW.c0
  have x1 := hW.c1
  have x2 := hW.c2
  have x3 := hW.c3
  have y0 := hT.c0
  have y1 := hT.c1
  have y2 := hT.c2
  have y3 := hT.c3
  have lw := hW.lt
  have lt := hT.lt
  clear hC
  unfold Gives tmV wrV wrR at *
  generalize t.kind = a0 at *
  generalize t.num = a1 at *
  generalize t.name = a2 at *
  generalize t.args.length = a3 at *
  go_enter Tryz.func131, Tryz.ntmps131
  go_wp2_with fail
  refine HC.out.mono ?_; rintro e w1 ⟨A1, n1, c1, rfl, hB1, hO1⟩
  have hR1 := HR.call hB1
  have hb1 := hB0.trans (hB1.mono hB0.size)
  have HO1 := Lib.hid hO1
  obtain ⟨u0, r0⟩ := hR1.r0
  obtain ⟨u1, r1⟩ := hR1.r1
  obtain ⟨u2, r2⟩ := hR1.r2
  obtain ⟨u3, r3⟩ := hR1.r3
  have f0 := hR1.rf 0
  have f1 := hR1.rf 1
  have f2 := hR1.rf 2
  have f3 := hR1.rf 3
  clear hO1 x0 x1 x2 x3 y0 y1 y2 y3
  go_wp2_with fail
  refine bodyPost_ret (v := .tuple #[.agg #[.slice A1 n1 c1, .string p.name, .int .i64 p.typ, .int .i64 p.prec], .bool bb]) (by simp [results, Tryz.results131, go_sem, r0, r1, r2, r3]) rfl ⟨A1, n1, c1, rfl, put4_below hb1 _ (Nat.le_refl _) _ _ _ _, ?_⟩
  exact (HO1.out.put4 (by simp) _ _ _ _).mono hB0.size
set_option maxHeartbeats 6400000 in
theorem w_rule3 (t : Tm) (A : Option Addr) (cap gw gt : Nat) (w : World) (hP0 : t.args.length = 1 → POK o T TA TN TC S (t.arg 0)) (hpl : (placeW o T S (t.arg 0) 1200 false).length ≤ 80000) (hE : Env T TA TN TC w) (hTT : TmsAt w.heap.size w A t.args) (hW : WBox w gw o TA TN TC) (hT : TBx w gt t A cap) :
    Gives 126 #[.pointer (some ⟨gw, 0, none⟩), .pointer (some ⟨gt, 0, none⟩)] w (ruleCur o T S t).1 (ruleCur o T S t).2 (condCur o t) := by
  have HR := RBx.start w (.slice none 0 0) (.string ⟨#[]⟩) (.int .i64 0) (.int .i64 0) 138
  have hB0 := (Below.refl w.heap.size w).alloc (Nat.le_refl _) (.cells #[.slice none 0 0, .string ⟨#[]⟩, .int .i64 0, .int .i64 0] 138)
  have x1 := hW.c1
  have y2 := hT.c2
  have y3 := hT.c3
  have lw := hW.lt
  have lt := hT.lt
  obtain ⟨LN, HL⟩ : ∃ LN, Hid (LN = t.args.length) := ⟨_, Lib.hid rfl⟩
  have HIN : Hid (condCur o t = (!o.ig && (t.name.toList == [123, 125] && t.args.length == 1))) := Lib.hid rfl
  have HY := Lib.hid (ruleCur_yes (o := o) (T := T) (S := S) (t := t))
  have HNO := Lib.hid (ruleCur_no (o := o) (T := T) (S := S) (t := t))
  have HTM := Lib.hid (fun (h1 : LN = 1) A' cap' W (h : Below w.heap.size w W) (h2 : TmsAt w.heap.size w A' (t.arg 0).args) => w_term (hP0 (by rw [← HL.out]; exact h1)) 1200 A' cap' W (hE.below h) ((h2.keep h).mono h.size))
  have HGET := Lib.hid (fun (h : LN = 1) => hTT.get 0 (by rw [← HL.out, h]; decide))
  have HARG := Lib.hid (fun (h : LN = 1) => Tm.arg_get t 0 (by rw [← HL.out, h]; decide))
  have HWB := Lib.hid hW
  have HTB := Lib.hid hT
  rw [← HL.out] at HIN y3
  clear hP0 hE hTT hW hT
  unfold Gives tmV wrV wrR at *
  have hcases : (condCur o t = false ∧ (o.ig = true ∨ (t.name.toList == [123, 125]) = false ∨ ¬ LN = 1)) ∨ (o.ig = false ∧ (t.name.toList == [123, 125]) = true ∧ LN = 1) := by
    rw [HIN.out]
    cases o.ig <;> cases (t.name.toList == [123, 125]) <;> by_cases h : LN = 1 <;> simp [h]
  rcases hcases with ⟨hno, hwhy⟩ | ⟨hig, hnm, hl⟩
  · rw [hno, HNO.out hno]
    clear HIN HY HNO HTM HGET HARG HR hno
    rcases hwhy with hwy | hwy | hwy
    · go_enter Tryz.func126, Tryz.ntmps126
      go_wp2_with fail
      refine bodyPost_ret (v := .tuple #[.agg #[.slice none 0 0, .string ⟨#[]⟩, .int .i64 0, .int .i64 0], .bool false]) (by simp [results, Tryz.results126, go_sem]) rfl ⟨none, 0, 0, rfl, hB0, OwnS.nil _ _ _⟩
    · have hwy2 : ¬ t.name.toList = [123, 125] := by simpa using hwy
      go_enter Tryz.func126, Tryz.ntmps126
      go_wp2_with fail
      all_goals
        refine bodyPost_ret (v := .tuple #[.agg #[.slice none 0 0, .string ⟨#[]⟩, .int .i64 0, .int .i64 0], .bool false]) (by simp [results, Tryz.results126, go_sem]) rfl ⟨none, 0, 0, rfl, hB0, OwnS.nil _ _ _⟩
    · go_enter Tryz.func126, Tryz.ntmps126
      go_wp2_with fail
      all_goals
        refine bodyPost_ret (v := .tuple #[.agg #[.slice none 0 0, .string ⟨#[]⟩, .int .i64 0, .int .i64 0], .bool false]) (by simp [results, Tryz.results126, go_sem]) rfl ⟨none, 0, 0, rfl, hB0, OwnS.nil _ _ _⟩
  · have hyes : condCur o t = true := by rw [HIN.out, hig, hnm, hl]; rfl
    rw [hyes, HY.out hyes]
    subst hl
    obtain ⟨b, off, A', cap', rfl, hb, e0, e1, e2, e3, hs0⟩ := HGET.out rfl
    have hl1 : 0 < t.args.length := by have := HL.out; omega
    have HA0 := Lib.hid (HARG.out rfl)
    have HTM2 := Lib.hid (HTM.out rfl A' cap')
    rw [HA0.out] at HTM2 hpl ⊢
    rw [Nat.zero_mul, Nat.add_zero] at e0 e1 e2 e3
    have HS0 := Lib.hid hs0
    have HEL := Lib.hid (⟨e0, e1, e2, e3⟩ : _ ∧ _ ∧ _ ∧ _)
    have hnm2 : t.name.toList = [123, 125] := by simpa using hnm
    have HIG := Lib.hid hig
    rw [hig] at x1
    clear HIN HTM HGET HARG HY HNO hyes hs0 e0 e1 e2 e3 HA0 hig
    generalize t.args[0] = x at *
    generalize placeW o T S x 1200 false = PL at *
    obtain ⟨wR, HWR⟩ : ∃ wR, Hid (wR = w.alloc (.cells #[.slice none 0 0, .string ⟨#[]⟩, .int .i64 0, .int .i64 0] 138)) := ⟨_, Lib.hid rfl⟩
    go_enter Tryz.func126, Tryz.ntmps126
    go_upto_region 3 with fail
    rw [← HWR.out] at HR hB0 ⊢
    have hltR := HR.lt
    have hszR := hB0.size
    have HKEEP : Hid (∀ X, RegH w.heap.size wR X → X.cell? ⟨gw, 0, none⟩ = some (.bool o.q) ∧ X.cell? ⟨gw, 1, none⟩ = some (.bool o.ig) ∧ X.cell? ⟨gw, 2, none⟩ = some (.bool o.nu) ∧ X.cell? ⟨gw, 3, none⟩ = some (.slice TA TN TC) ∧ X.cell? ⟨gt, 3, none⟩ = some (.slice (some ⟨b, off, none⟩) 1 cap) ∧ X.cell? ⟨b, off, none⟩ = some (.int .i64 x.kind) ∧ X.cell? ⟨b, off + 1, none⟩ = some (.int .i64 x.num) ∧ X.cell? ⟨b, off + 2, none⟩ = some (.string x.name) ∧ X.cell? ⟨b, off + 3, none⟩ = some (.slice A' x.args.length cap') ∧ RegH w.heap.size wR X) := Lib.hid (fun X h => by
      have hw : ∀ g k, g < w.heap.size → X.cell? ⟨g, k, none⟩ = w.cell? ⟨g, k, none⟩ := fun g k h1 => (h.on.cell (p := ⟨g, k, none⟩) (show g < wR.heap.size by omega) (show g ≠ w.heap.size by omega)).trans (hB0.cell (p := ⟨g, k, none⟩) h1)
      obtain ⟨e0, e1, e2, e3⟩ := HEL.out
      exact ⟨(hw _ _ lw).trans HWB.out.c0, (hw _ _ lw).trans HWB.out.c1, (hw _ _ lw).trans HWB.out.c2, (hw _ _ lw).trans HWB.out.c3, (hw _ _ lt).trans y3, (hw _ _ hb).trans e0, (hw _ _ hb).trans e1, (hw _ _ hb).trans e2, (hw _ _ hb).trans e3, h⟩)
    have HOF : Hid (∀ X, (X.cell? ⟨gw, 0, none⟩ = some (.bool o.q) ∧ X.cell? ⟨gw, 1, none⟩ = some (.bool o.ig) ∧ X.cell? ⟨gw, 2, none⟩ = some (.bool o.nu) ∧ X.cell? ⟨gw, 3, none⟩ = some (.slice TA TN TC) ∧ X.cell? ⟨gt, 3, none⟩ = some (.slice (some ⟨b, off, none⟩) 1 cap) ∧ X.cell? ⟨b, off, none⟩ = some (.int .i64 x.kind) ∧ X.cell? ⟨b, off + 1, none⟩ = some (.int .i64 x.num) ∧ X.cell? ⟨b, off + 2, none⟩ = some (.string x.name) ∧ X.cell? ⟨b, off + 3, none⟩ = some (.slice A' x.args.length cap') ∧ RegH w.heap.size wR X) → RegH w.heap.size wR X) := Lib.hid (fun X h => h.2.2.2.2.2.2.2.2.2)
    have HST : Hid (RegH w.heap.size wR wR.drew) := Lib.hid (RegH.drew ⟨Only.refl _ _, HR⟩)
    have hbX : ∀ X, RegH w.heap.size wR X → Below w.heap.size w X := fun X h => hB0.trans (h.on.below (Nat.le_refl _) hB0.size)
    have HBX2 := Lib.hid hbX
    have HTM3 : Hid (∀ X, RegH w.heap.size wR X → Calls Tryz.prog 32 #[.agg #[.bool o.q, .bool o.ig, .bool o.nu, .slice TA TN TC], .agg #[.int .i64 x.kind, .int .i64 x.num, .string x.name, .slice A' x.args.length cap'], .int .i64 1200] X fun e w' => ∃ A4 c4, e = .returned (.slice A4 PL.length c4) ∧ Below X.heap.size X w' ∧ StrsAt w' A4 PL ∧ HeadOk A4 PL.length c4) :=
      Lib.hid (fun X h => (HTM2.out X (hbX X h) HS0.out).mono fun _ _ ⟨v, he, hB, hO⟩ => by
        obtain ⟨A4, n4, c4, rfl, hn, hs, hh⟩ := hO.strN
        subst hn
        exact ⟨A4, c4, he, hB, hs, hh⟩)
    clear hbX HTM2 HEL HWB HTB x1 y2 y3 lw lt hnm hnm2
    go_region_held3 (fun w' => w'.cell? ⟨gw, 0, none⟩ = some (.bool o.q) ∧ w'.cell? ⟨gw, 1, none⟩ = some (.bool o.ig) ∧ w'.cell? ⟨gw, 2, none⟩ = some (.bool o.nu) ∧ w'.cell? ⟨gw, 3, none⟩ = some (.slice TA TN TC) ∧ w'.cell? ⟨gt, 3, none⟩ = some (.slice (some ⟨b, off, none⟩) 1 cap) ∧ w'.cell? ⟨b, off, none⟩ = some (.int .i64 x.kind) ∧ w'.cell? ⟨b, off + 1, none⟩ = some (.int .i64 x.num) ∧ w'.cell? ⟨b, off + 2, none⟩ = some (.string x.name) ∧ w'.cell? ⟨b, off + 3, none⟩ = some (.slice A' x.args.length cap') ∧ RegH w.heap.size wR w')
      (first
        | with_reducible exact HKEEP.out _ HST.out
        | with_reducible exact HKEEP.out _ hR5
        | with_reducible exact HKEEP.out _ (RegH.call (HOF.out _ (by with_reducible assumption)) (by with_reducible assumption))
        | with_reducible exact HKEEP.out _ (RegH.put4 (HOF.out _ (by with_reducible assumption)) _ _ _ _))
      (first
        | (go_at_call 32; (with_reducible refine (HTM3.out _ (HOF.out _ (by with_reducible assumption))).mono ?_); rintro e w4 ⟨A4, c4, rfl, hB4, hS4, hH4⟩)
        | (go_at_call 118; have hq4 := HOF.out w4 (by with_reducible assumption); (with_reducible refine (w_between ⟨#[123]⟩ ⟨#[125]⟩ A4 PL.length c4 PL w4 rfl (by omega) hS4 hH4).mono ?_); rintro e w5 ⟨v5, rfl, hB5, hO5⟩; obtain ⟨A5, n5, c5, rfl⟩ := hO5.val; have hR5 := hq4.call hB5; have hO6 := hO5.mono hq4.on.size; obtain ⟨u0, r0⟩ := hR5.rb.r0; obtain ⟨u1, r1⟩ := hR5.rb.r1; obtain ⟨u2, r2⟩ := hR5.rb.r2; obtain ⟨u3, r3⟩ := hR5.rb.r3; have f0 := hR5.rb.rf 0; have f1 := hR5.rb.rf 1; have f2 := hR5.rb.rf 2; have f3 := hR5.rb.rf 3)
        | fail)
    all_goals
      have hfin := put4_below (HBX2.out w5 hR5) w.heap.size (Nat.le_refl _) (.slice A5 n5 c5) (.string ⟨#[]⟩) (.int .i64 0) (.int .i64 0)
      have HO6 := Lib.hid hO6
      clear hO5 hO6 hB5
      go_wp2_with fail
      refine bodyPost_ret (v := .tuple #[.agg #[.slice A5 n5 c5, .string ⟨#[]⟩, .int .i64 0, .int .i64 0], .bool true]) (by simp [results, Tryz.results126, go_sem, r0, r1, r2, r3]) rfl ⟨_, _, _, rfl, hfin, ?_⟩
      exact (HO6.out.put4 hltR _ _ _ _).mono hszR
end Go.Proofs.YtgapnafkelokaaaGreatDoor
