/- The law WriteVariants. -/
import Derived.Test.YtgapnafkelokaaaGreatDoorM26
import Derived.Test.YtgapnafkelokaaaGreatDoorZTmN
namespace Hb
open Go Go.RowKit
def oN : WO := ⟨false, false, false⟩
theorem tm0_fit : Tm.All (fun x => nodeFit x = true) tm0 := Tm.All.imp (fun _ h => h.2) _ Okf.tm0
theorem canT_fit {t : Tm} (k : Tm.All (fun x => nodeFit x = true) t) : Tm.All (fun x => nodeFit x = true) (canT t) := by
  cases h : validT t
  · unfold canT; rw [h]; exact tm0_fit
  · exact (canT_valid h k).2
theorem can_tok (o : WO) (T : List OpR) {t : Tm} (h : validT t = true) (k : Tm.All (fun x => nodeFit x = true) t) : (wtokR o T (canT t)).2 = (wtokR o T t).2 ∧ (wtokR o T (canT t)).1.length = (wtokR o T t).1.length := by
  have hc := (canT_valid h k).1
  cases ho : opsValid T
  · rw [wtokR_no (by rw [hc, ho]; rfl), wtokR_no (by rw [h, ho]; rfl)]; exact ⟨rfl, rfl⟩
  · rw [wtokR_yes (by rw [hc, ho]; rfl), wtokR_yes (by rw [h, ho]; rfl)]; exact ⟨rfl, canT_len o T h⟩
theorem xa_valid (s : ByteArray) : validT (xa s) = decide (s.size ≤ 100) := by
  unfold validT
  rw [n_leaf (t := xa s) rfl, Tm.allOk_eq]
  unfold nodeOk xa Tm.kind Tm.num Tm.name Tm.args
  simp
theorem xa_txt {T : List OpR} {s : ByteArray} (h : s.size ≤ 100) (ho : opsValid T = true) : txtR oN T (xa s) = (s, 0) := by
  rw [txtR_yes (by rw [xa_valid, ho, decide_eq_true h]; rfl)]
  have hp : pcs oN T (xa s) 1200 false = [s] := rfl
  have hj : joinB [s] = s := by
    have h1 : joinN (bts [s]) = s.data.toList := by show sepOf [] s.data.toList ++ s.data.toList ++ [] = _; rw [sep_nil]; simp
    unfold joinB
    rw [h1]
  rw [hp, hj, limR_yes (by omega)]
theorem xa_long {T : List OpR} {s : ByteArray} (h : ¬ s.size ≤ 100) : txtR oN T (xa s) = (⟨#[]⟩, 1) := txtR_no (by rw [xa_valid, decide_eq_false h]; rfl)
theorem xa_bad {T : List OpR} {s : ByteArray} (ho : opsValid T = false) : txtR oN T (xa s) = (⟨#[]⟩, 1) := txtR_no (by rw [ho, Bool.and_false])
end Hb
namespace Go.Proofs.YtgapnafkelokaaaGreatDoor
open Go.RowKit Hb
set_option maxRecDepth 100000
set_option maxHeartbeats 6400000 in
theorem law_writeVariants {o : WO} {T : List OpR} {TA : Option Addr} {TN TC : Nat} {t : Tm} (hfit : Tm.All (fun x => nodeFit x = true) t) (A : Option Addr) (cap : Nat) (s : ByteArray) (hs : s.size ≤ maxLen) (w : World) (hD : DoorOk w) (hm : TN ≤ maxLen) (hTab : Tab w TA TN TC T) (hT : TmsAt w.heap.size w A t.args) :
    Calls Tryz.prog 7 #[tmV t A cap, .slice TA TN TC, o.v, .string s] w fun e w' => e = .returned (.bool true) ∧ Below w.heap.size w w' := by
  have hsm := hs
  unfold maxLen at hsm
  have HX := Lib.hid (TOp.start w t A cap t.args.length o 24 27 rfl)
  have H1 := Lib.hid (fun W (h : TOp w W t A cap o) => w_tokens (o := o) (TA := TA) (TN := TN) (TC := TC) hfit A cap W (hD.below h.bel) hm (hTab.below h.bel) ((hT.keep h.bel).mono h.bel.size))
  have HCN := Lib.hid (fun W (h : TOp w W t A cap o) => ref_canon t A cap W ((hT.keep h.bel).mono h.bel.size))
  have H2 := Lib.hid (fun A' c' W (h : TOp w W t A cap o) (hA : TmsAt W.heap.size W A' (canT t).args) => w_tokens (o := o) (TA := TA) (TN := TN) (TC := TC) (canT_fit hfit) A' c' W (hD.below h.bel) hm (hTab.below h.bel) hA)
  have HV := Lib.hid (fun W (h : TOp w W t A cap o) => ref_tvalid t A cap W ((hT.keep h.bel).mono h.bel.size))
  have HTX : Hid (∀ W, Below w.heap.size w W → Calls Tryz.prog 12 #[.agg #[.int .i64 2, .int .i64 0, .string s, .slice none 0 0], .slice TA TN TC, .agg #[.bool false, .bool false, .bool false]] W fun e w' => e = .returned (.tuple #[.string (txtR oN T (xa s)).1, .int .i64 (txtR oN T (xa s)).2]) ∧ Below W.heap.size W w') := Lib.hid (fun W h => w_text (o := oN) (T := T) (t := xa s) (fit_leaf (by rfl) rfl) none 0 W (hD.below h) hm (hTab.below h) TmsK.nil)
  have HOV := Lib.hid (fun W (h : Below w.heap.size w W) => carry (w0 := w) h (ref_validL TA TN TC T W hTab.len hm (hTab.below h).ops))
  have HE := Lib.hid (fun W (h : Below w.heap.size w W) => carry (w0 := w) h (law_example W (hD.below h)))
  have HCT := Lib.hid (fun (h : validT t = true) => can_tok o T h hfit)
  have HKEEP : Hid (∀ w', TOp w w' t A cap o → w'.cell? ⟨w.heap.size, 0, none⟩ = some (.int .i64 t.kind) ∧ w'.cell? ⟨w.heap.size, 1, none⟩ = some (.int .i64 t.num) ∧ w'.cell? ⟨w.heap.size, 2, none⟩ = some (.string t.name) ∧ w'.cell? ⟨w.heap.size, 3, none⟩ = some (.slice A t.args.length cap) ∧ w'.cell? ⟨w.heap.size + 1, 0, none⟩ = some (.bool o.q) ∧ w'.cell? ⟨w.heap.size + 1, 1, none⟩ = some (.bool o.ig) ∧ w'.cell? ⟨w.heap.size + 1, 2, none⟩ = some (.bool o.nu) ∧ TOp w w' t A cap o) := Lib.hid (fun w' h => ⟨h.tb.c0, h.tb.c1, h.tb.c2, h.tb.c3, h.o0, h.o1, h.o2, h⟩)
  have HOF : Hid (∀ w', (w'.cell? ⟨w.heap.size, 0, none⟩ = some (.int .i64 t.kind) ∧ w'.cell? ⟨w.heap.size, 1, none⟩ = some (.int .i64 t.num) ∧ w'.cell? ⟨w.heap.size, 2, none⟩ = some (.string t.name) ∧ w'.cell? ⟨w.heap.size, 3, none⟩ = some (.slice A t.args.length cap) ∧ w'.cell? ⟨w.heap.size + 1, 0, none⟩ = some (.bool o.q) ∧ w'.cell? ⟨w.heap.size + 1, 1, none⟩ = some (.bool o.ig) ∧ w'.cell? ⟨w.heap.size + 1, 2, none⟩ = some (.bool o.nu) ∧ TOp w w' t A cap o) → TOp w w' t A cap o) := Lib.hid (fun w' h => h.2.2.2.2.2.2.2)
  clear hT hTab hD hfit hs
  unfold tmV WO.v at *
  generalize hLN : t.args.length = LN at *
  have HL := Lib.hid hLN
  clear hLN
  generalize canT t = u at *
  cases hv : validT t
  · rw [hv] at HV
    clear HCT hv
    generalize wtokR o T t = r1 at *
    generalize wtokR o T u = r2 at *
    obtain ⟨r1, e1⟩ := r1
    obtain ⟨r2, e2⟩ := r2
    go_enter Tryz.func7, Tryz.ntmps7
    go_wp2_with fail
    refine (H1.out _ HX.out).mono ?_; rintro e w1 ⟨v1, rfl, hB1, hO1⟩
    have hX1 := HX.out.call hB1
    have hO1 : OwnS 9 _ w1 v1 r1 := hO1
    obtain ⟨A1, k1, rfl, _, _⟩ := hO1.strs
    generalize r1.length = m1 at *
    clear hB1 hO1 H1 HX
    have c0 := hX1.tb.c0
    have c1 := hX1.tb.c1
    have c2 := hX1.tb.c2
    have c3 := hX1.tb.c3
    rw [HL.out] at c3
    have o0 := hX1.o0
    have o1 := hX1.o1
    have o2 := hX1.o2
    have HST := Lib.hid (hX1.call (Below.refl _ _).drew)
    clear hX1
    go_wp2_with fail
    clear c0 c1 c2 c3 o0 o1 o2
    go_region_held3 (fun w' => w'.cell? ⟨w.heap.size, 0, none⟩ = some (.int .i64 t.kind) ∧ w'.cell? ⟨w.heap.size, 1, none⟩ = some (.int .i64 t.num) ∧ w'.cell? ⟨w.heap.size, 2, none⟩ = some (.string t.name) ∧ w'.cell? ⟨w.heap.size, 3, none⟩ = some (.slice A LN cap) ∧ w'.cell? ⟨w.heap.size + 1, 0, none⟩ = some (.bool o.q) ∧ w'.cell? ⟨w.heap.size + 1, 1, none⟩ = some (.bool o.ig) ∧ w'.cell? ⟨w.heap.size + 1, 2, none⟩ = some (.bool o.nu) ∧ TOp w w' t A cap o)
      (first
        | with_reducible exact HKEEP.out _ HST.out
        | with_reducible exact HKEEP.out _ (TOp.call (HOF.out _ (by with_reducible assumption)) (by with_reducible assumption)))
      (first
        | (go_at_call 25; (with_reducible refine (HCN.out _ (HOF.out _ (by with_reducible assumption))).mono ?_); rintro e w2 ⟨A2, k2, rfl, hB2, hN2⟩; have hT2 := hN2.at (fun b hb => hb.2))
        | (go_at_call 10; have hX2 := HOF.out w2 (by with_reducible assumption); (with_reducible refine (H2.out A2 k2 w2 hX2 hT2).mono ?_); rintro e w3 ⟨v3, rfl, hB3, hO3⟩; have hX3 := hX2.call hB3; have hO3 : OwnS 9 w2.heap.size w3 v3 r2 := hO3; obtain ⟨A3, k3, rfl, _, _⟩ := hO3.strs)
        | fail)
    clear hT2 hN2 hB3 hX2 hO3 HST HKEEP HOF H2 HCN
    generalize r2.length = m3 at *
    have c0 := hX3.tb.c0
    have c1 := hX3.tb.c1
    have c2 := hX3.tb.c2
    have c3 := hX3.tb.c3
    rw [HL.out] at c3
    have o0 := hX3.o0
    have o1 := hX3.o1
    have o2 := hX3.o2
    go_wp2_with fail
    refine (HV.out _ hX3).mono ?_; rintro e w4 ⟨rfl, hB4⟩
    have hb4 := (hX3.call hB4).bel
    clear c0 c1 c2 c3 o0 o1 o2 hX3 hB4 HV
    go_wp2_with fail
    refine (law_atom s _).mono ?_; rintro e w5 ⟨rfl, hB5⟩
    have hb5 := hb4.trans (hB5.mono hb4.size)
    clear hB5 hb4
    by_cases hsz : s.size ≤ 100
    · have hb : decide ((100 : Int) < (s.size : Int)) = false := by simp; omega
      cases ho : opsValid T
      · rw [xa_bad ho] at HTX
        rw [ho] at HOV
        go_wp2_with fail
        refine (HTX.out _ hb5).mono ?_; rintro e w6 ⟨rfl, hB6⟩
        have hb6 := hb5.trans (hB6.mono hb5.size)
        go_wp2_with fail
        refine (HOV.out _ hb6).mono ?_; rintro e w7 ⟨rfl, hb7⟩
        go_wp2_with fail
        refine (HE.out _ hb7).mono ?_; rintro e w8 ⟨rfl, hb8⟩
        go_wp2_with fail
        go_ret
        exact ⟨rfl, hb8⟩
      · rw [xa_txt hsz ho] at HTX
        rw [ho] at HOV
        go_wp2_with fail
        refine (HTX.out _ hb5).mono ?_; rintro e w6 ⟨rfl, hB6⟩
        have hb6 := hb5.trans (hB6.mono hb5.size)
        go_wp2_with fail
        refine (HOV.out _ hb6).mono ?_; rintro e w7 ⟨rfl, hb7⟩
        go_wp2_with fail
        refine (HE.out _ hb7).mono ?_; rintro e w8 ⟨rfl, hb8⟩
        go_wp2_with fail
        go_ret
        exact ⟨rfl, hb8⟩
    · have hb : decide ((100 : Int) < (s.size : Int)) = true := by simp; omega
      rw [xa_long hsz] at HTX
      go_wp2_with fail
      refine (HTX.out _ hb5).mono ?_; rintro e w6 ⟨rfl, hB6⟩
      have hb6 := hb5.trans (hB6.mono hb5.size)
      go_wp2_with fail
      refine (HE.out _ hb6).mono ?_; rintro e w8 ⟨rfl, hb8⟩
      go_wp2_with fail
      go_ret
      exact ⟨rfl, hb8⟩
  · rw [hv] at HV
    obtain ⟨her, hlr⟩ := HCT.out hv
    clear HCT hv
    generalize wtokR o T t = r1 at *
    generalize wtokR o T u = r2 at *
    obtain ⟨r1, e1⟩ := r1
    obtain ⟨r2, e2⟩ := r2
    have her : e2 = e1 := her
    have hlr : r2.length = r1.length := hlr
    subst her
    go_enter Tryz.func7, Tryz.ntmps7
    go_wp2_with fail
    refine (H1.out _ HX.out).mono ?_; rintro e w1 ⟨v1, rfl, hB1, hO1⟩
    have hX1 := HX.out.call hB1
    have hO1 : OwnS 9 _ w1 v1 r1 := hO1
    obtain ⟨A1, k1, rfl, _, _⟩ := hO1.strs
    generalize r1.length = m1 at *
    clear hB1 hO1 H1 HX
    have c0 := hX1.tb.c0
    have c1 := hX1.tb.c1
    have c2 := hX1.tb.c2
    have c3 := hX1.tb.c3
    rw [HL.out] at c3
    have o0 := hX1.o0
    have o1 := hX1.o1
    have o2 := hX1.o2
    have HST := Lib.hid (hX1.call (Below.refl _ _).drew)
    clear hX1
    go_wp2_with fail
    clear c0 c1 c2 c3 o0 o1 o2
    go_region_held3 (fun w' => w'.cell? ⟨w.heap.size, 0, none⟩ = some (.int .i64 t.kind) ∧ w'.cell? ⟨w.heap.size, 1, none⟩ = some (.int .i64 t.num) ∧ w'.cell? ⟨w.heap.size, 2, none⟩ = some (.string t.name) ∧ w'.cell? ⟨w.heap.size, 3, none⟩ = some (.slice A LN cap) ∧ w'.cell? ⟨w.heap.size + 1, 0, none⟩ = some (.bool o.q) ∧ w'.cell? ⟨w.heap.size + 1, 1, none⟩ = some (.bool o.ig) ∧ w'.cell? ⟨w.heap.size + 1, 2, none⟩ = some (.bool o.nu) ∧ TOp w w' t A cap o)
      (first
        | with_reducible exact HKEEP.out _ HST.out
        | with_reducible exact HKEEP.out _ (TOp.call (HOF.out _ (by with_reducible assumption)) (by with_reducible assumption)))
      (first
        | (go_at_call 25; (with_reducible refine (HCN.out _ (HOF.out _ (by with_reducible assumption))).mono ?_); rintro e w2 ⟨A2, k2, rfl, hB2, hN2⟩; have hT2 := hN2.at (fun b hb => hb.2))
        | (go_at_call 10; have hX2 := HOF.out w2 (by with_reducible assumption); (with_reducible refine (H2.out A2 k2 w2 hX2 hT2).mono ?_); rintro e w3 ⟨v3, rfl, hB3, hO3⟩; have hX3 := hX2.call hB3; have hO3 : OwnS 9 w2.heap.size w3 v3 r2 := hO3; obtain ⟨A3, k3, rfl, _, _⟩ := hO3.strs)
        | fail)
    clear hT2 hN2 hB3 hX2 hO3 HST HKEEP HOF H2 HCN
    have c0 := hX3.tb.c0
    have c1 := hX3.tb.c1
    have c2 := hX3.tb.c2
    have c3 := hX3.tb.c3
    rw [HL.out] at c3
    have o0 := hX3.o0
    have o1 := hX3.o1
    have o2 := hX3.o2
    go_wp2_with fail
    refine (HV.out _ hX3).mono ?_; rintro e w4 ⟨rfl, hB4⟩
    have hb4 := (hX3.call hB4).bel
    clear c0 c1 c2 c3 o0 o1 o2 hX3 hB4 HV
    go_wp2_with fail
    refine (law_atom s _).mono ?_; rintro e w5 ⟨rfl, hB5⟩
    have hb5 := hb4.trans (hB5.mono hb4.size)
    clear hB5 hb4
    by_cases hsz : s.size ≤ 100
    · have hb : decide ((100 : Int) < (s.size : Int)) = false := by simp; omega
      cases ho : opsValid T
      · rw [xa_bad ho] at HTX
        rw [ho] at HOV
        go_wp2_with fail
        refine (HTX.out _ hb5).mono ?_; rintro e w6 ⟨rfl, hB6⟩
        have hb6 := hb5.trans (hB6.mono hb5.size)
        go_wp2_with fail
        refine (HOV.out _ hb6).mono ?_; rintro e w7 ⟨rfl, hb7⟩
        go_wp2_with fail
        refine (HE.out _ hb7).mono ?_; rintro e w8 ⟨rfl, hb8⟩
        go_wp2_with fail
        go_ret
        exact ⟨rfl, hb8⟩
      · rw [xa_txt hsz ho] at HTX
        rw [ho] at HOV
        go_wp2_with fail
        refine (HTX.out _ hb5).mono ?_; rintro e w6 ⟨rfl, hB6⟩
        have hb6 := hb5.trans (hB6.mono hb5.size)
        go_wp2_with fail
        refine (HOV.out _ hb6).mono ?_; rintro e w7 ⟨rfl, hb7⟩
        go_wp2_with fail
        refine (HE.out _ hb7).mono ?_; rintro e w8 ⟨rfl, hb8⟩
        go_wp2_with fail
        go_ret
        exact ⟨rfl, hb8⟩
    · have hb : decide ((100 : Int) < (s.size : Int)) = true := by simp; omega
      rw [xa_long hsz] at HTX
      go_wp2_with fail
      refine (HTX.out _ hb5).mono ?_; rintro e w6 ⟨rfl, hB6⟩
      have hb6 := hb5.trans (hB6.mono hb5.size)
      go_wp2_with fail
      refine (HE.out _ hb6).mono ?_; rintro e w8 ⟨rfl, hb8⟩
      go_wp2_with fail
      go_ret
      exact ⟨rfl, hb8⟩
end Go.Proofs.YtgapnafkelokaaaGreatDoor
