/- The law WriteIgnores. -/
import Derived.Test.YtgapnafkelokaaaGreatDoorM26
namespace Hb
open Go Go.RowKit
def WO.ign (o : WO) : WO := ⟨o.q, true, o.nu⟩
end Hb
namespace Go.Proofs.YtgapnafkelokaaaGreatDoor
open Go.RowKit Hb
set_option maxRecDepth 100000
set_option maxHeartbeats 6400000 in
theorem law_writeIgnores {o : WO} {T T' : List OpR} {TA TB : Option Addr} {TN TC UN UC : Nat} {t : Tm} (hfit : Tm.All (fun x => nodeFit x = true) t) (A : Option Addr) (cap : Nat) (w : World) (hD : DoorOk w) (hm : TN ≤ maxLen) (hm' : UN ≤ maxLen) (hTab : Tab w TA TN TC T) (hTab' : Tab w TB UN UC T') (hT : TmsAt w.heap.size w A t.args) :
    Calls Tryz.prog 5 #[tmV t A cap, .slice TA TN TC, .slice TB UN UC, o.v] w fun e w' => e = .returned (.bool true) ∧ Below w.heap.size w w' := by
  have HX0 := TOp.start w t A cap t.args.length o.ign 24 27 rfl
  have HX : Hid (TOp w ((w.alloc (.cells #[.int .i64 t.kind, .int .i64 t.num, .string t.name, .slice A t.args.length cap] 24)).alloc (.cells #[.bool o.q, .bool true, .bool o.nu] 27)) t A cap o.ign) := Lib.hid HX0
  clear HX0
  have H1 := Lib.hid (fun W (h : TOp w W t A cap o.ign) => w_tokens (o := o.ign) (TC := TC) hfit A cap W (hD.below h.bel) hm (hTab.below h.bel) ((hT.keep h.bel).mono h.bel.size))
  have H2 := Lib.hid (fun W (h : TOp w W t A cap o.ign) => w_tokens (o := o.ign) (TC := UC) hfit A cap W (hD.below h.bel) hm' (hTab'.below h.bel) ((hT.keep h.bel).mono h.bel.size))
  have H3 := Lib.hid (fun W (h : TOp w W t A cap o.ign) => w_text (o := o.ign) (TC := TC) hfit A cap W (hD.below h.bel) hm (hTab.below h.bel) ((hT.keep h.bel).mono h.bel.size))
  have HV := Lib.hid (fun W (h : TOp w W t A cap o.ign) => ref_tvalid t A cap W ((hT.keep h.bel).mono h.bel.size))
  have HO := Lib.hid (fun W (h : Below w.heap.size w W) => carry (w0 := w) h (ref_validL TA TN TC T W hTab.len hm (hTab.below h).ops))
  have HE := Lib.hid (fun W (h : Below w.heap.size w W) => carry (w0 := w) h (law_example W (hD.below h)))
  obtain ⟨hz, hl⟩ := tok_small (o := o.ign) (T := T) hfit
  have HIG := Lib.hid (fun (hv : validT t = true) => pcs_ig (o := o.ign) rfl T T' (K4.of_ok t ((validT_iff t).1 hv).2) 1200)
  clear hT hTab hTab' hD hfit
  have e0 : o.ign.q = o.q := rfl
  have e1 : o.ign.ig = true := rfl
  have e2 : o.ign.nu = o.nu := rfl
  unfold tmV WO.v at *
  rw [e0, e1, e2] at H1 H2 H3
  generalize hLN : t.args.length = LN at *
  have HL := Lib.hid hLN
  clear hLN
  cases hv : validT t
  · rw [wtokR_no (by rw [hv]; rfl)] at H1 H2
    rw [txtR_no (by rw [hv]; rfl)] at H3
    rw [hv] at HV
    clear hv hz hl HIG
    go_enter Tryz.func5, Tryz.ntmps5
    go_wp2_with fail
    refine (H1.out _ HX.out).mono ?_; rintro e w1 ⟨v1, rfl, hB1, hO1⟩
    have HO1 := Lib.hid hO1
    have hX1 := HX.out.call hB1
    clear hO1 hB1 H1 HX
    have c0 := hX1.tb.c0
    have c1 := hX1.tb.c1
    have c2 := hX1.tb.c2
    have c3 := hX1.tb.c3
    rw [HL.out] at c3
    have o0 := hX1.o0
    have o1 := hX1.o1
    have o2 := hX1.o2
    rw [e0] at o0
    rw [e1] at o1
    rw [e2] at o2
    go_wp2_with fail
    refine (H2.out _ hX1).mono ?_; rintro e w2 ⟨v2, rfl, hB2, hO2⟩
    have HO1 := Lib.hid (HO1.out.below hB2)
    have HO2 := Lib.hid hO2
    have hX2 := hX1.call hB2
    clear c0 c1 c2 c3 o0 o1 o2 hO2 hB2 H2 hX1
    have c0 := hX2.tb.c0
    have c1 := hX2.tb.c1
    have c2 := hX2.tb.c2
    have c3 := hX2.tb.c3
    rw [HL.out] at c3
    have o0 := hX2.o0
    have o1 := hX2.o1
    have o2 := hX2.o2
    rw [e0] at o0
    rw [e1] at o1
    rw [e2] at o2
    go_wp2_with fail
    refine (H3.out _ hX2).mono ?_; rintro e w3 ⟨rfl, hB3⟩
    have HO1 := Lib.hid (HO1.out.below hB3)
    have HO2 := Lib.hid (HO2.out.below hB3)
    have hX3 := hX2.call hB3
    clear c0 c1 c2 c3 o0 o1 o2 hB3 H3 hX2
    have c0 := hX3.tb.c0
    have c1 := hX3.tb.c1
    have c2 := hX3.tb.c2
    have c3 := hX3.tb.c3
    rw [HL.out] at c3
    have o0 := hX3.o0
    have o1 := hX3.o1
    have o2 := hX3.o2
    rw [e0] at o0
    rw [e1] at o1
    rw [e2] at o2
    go_wp2_with fail
    refine (HV.out _ hX3).mono ?_; rintro e w6 ⟨rfl, hB6⟩
    have hX6 := hX3.call hB6
    have hb6 := hX6.bel
    clear c0 c1 c2 c3 o0 o1 o2 hB6 hX3 hX6
    have hb7 := hb6
    go_wp2_with fail
    refine (HE.out _ hb7).mono ?_; rintro e w8 ⟨rfl, hb8⟩
    go_wp2_with fail
    go_ret
    exact ⟨rfl, hb8⟩
  cases ha : opsValid T
  · rw [wtokR_no (by rw [hv, ha]; rfl)] at H1
    rw [txtR_no (by rw [hv, ha]; rfl)] at H3
    generalize wtokR o.ign T' t = r2 at *
    rw [hv] at HV
    rw [ha] at HO
    clear hv ha hz hl HIG
    go_enter Tryz.func5, Tryz.ntmps5
    go_wp2_with fail
    refine (H1.out _ HX.out).mono ?_; rintro e w1 ⟨v1, rfl, hB1, hO1⟩
    have HO1 := Lib.hid hO1
    have hX1 := HX.out.call hB1
    clear hO1 hB1 H1 HX
    have c0 := hX1.tb.c0
    have c1 := hX1.tb.c1
    have c2 := hX1.tb.c2
    have c3 := hX1.tb.c3
    rw [HL.out] at c3
    have o0 := hX1.o0
    have o1 := hX1.o1
    have o2 := hX1.o2
    rw [e0] at o0
    rw [e1] at o1
    rw [e2] at o2
    go_wp2_with fail
    refine (H2.out _ hX1).mono ?_; rintro e w2 ⟨v2, rfl, hB2, hO2⟩
    have HO1 := Lib.hid (HO1.out.below hB2)
    have HO2 := Lib.hid hO2
    have hX2 := hX1.call hB2
    clear c0 c1 c2 c3 o0 o1 o2 hO2 hB2 H2 hX1
    have c0 := hX2.tb.c0
    have c1 := hX2.tb.c1
    have c2 := hX2.tb.c2
    have c3 := hX2.tb.c3
    rw [HL.out] at c3
    have o0 := hX2.o0
    have o1 := hX2.o1
    have o2 := hX2.o2
    rw [e0] at o0
    rw [e1] at o1
    rw [e2] at o2
    go_wp2_with fail
    refine (H3.out _ hX2).mono ?_; rintro e w3 ⟨rfl, hB3⟩
    have HO1 := Lib.hid (HO1.out.below hB3)
    have HO2 := Lib.hid (HO2.out.below hB3)
    have hX3 := hX2.call hB3
    clear c0 c1 c2 c3 o0 o1 o2 hB3 H3 hX2
    have c0 := hX3.tb.c0
    have c1 := hX3.tb.c1
    have c2 := hX3.tb.c2
    have c3 := hX3.tb.c3
    rw [HL.out] at c3
    have o0 := hX3.o0
    have o1 := hX3.o1
    have o2 := hX3.o2
    rw [e0] at o0
    rw [e1] at o1
    rw [e2] at o2
    go_wp2_with fail
    refine (HV.out _ hX3).mono ?_; rintro e w6 ⟨rfl, hB6⟩
    have hX6 := hX3.call hB6
    have hb6 := hX6.bel
    clear c0 c1 c2 c3 o0 o1 o2 hB6 hX3 hX6
    go_wp2_with fail
    refine (HO.out _ hb6).mono ?_; rintro e w7 ⟨rfl, hb7⟩
    go_wp2_with fail
    refine (HE.out _ hb7).mono ?_; rintro e w8 ⟨rfl, hb8⟩
    go_wp2_with fail
    go_ret
    exact ⟨rfl, hb8⟩
  have HPE := Lib.hid (HIG.out hv)
  rw [wtokR_yes (by rw [hv, ha]; rfl)] at H1 hz hl
  rw [txtR_yes (by rw [hv, ha]; rfl)] at H3
  have hl2 : (pcs o.ign T t 1200 false).length ≤ 50000 := Nat.le_trans hl (by decide)
  have HJ := Lib.hid (fun (b : Nat) (v : Value) (W : World) (h : OwnS 9 b W v (pcs o.ign T t 1200 false)) => r_joinO W h hl2 hz)
  have HP := Lib.hid (fun (a b : Nat) (v v' : Value) (W : World) (h : OwnS 9 a W v (pcs o.ign T t 1200 false)) (h' : OwnS 9 b W v' (pcs o.ign T t 1200 false)) => law_piecesO h h' (Nat.le_trans hl2 (by decide)))
  have HLY := Lib.hid (limR_yes (s := joinB (pcs o.ign T t 1200 false)))
  have HLX := Lib.hid (limR_no (s := joinB (pcs o.ign T t 1200 false)))
  clear hz hl hl2 HIG
  cases hb : opsValid T'
  · rw [wtokR_no (by rw [hv, hb]; rfl)] at H2
    rw [hv] at HV
    rw [ha] at HO
    clear hv ha hb HPE
    generalize joinB (pcs o.ign T t 1200 false) = js at *
    generalize pcs o.ign T t 1200 false = ps at *
    by_cases hc : js.size ≤ 16384
    · rw [HLY.out hc] at H3
      clear hc HLY HLX
      go_enter Tryz.func5, Tryz.ntmps5
      go_wp2_with fail
      refine (H1.out _ HX.out).mono ?_; rintro e w1 ⟨v1, rfl, hB1, hO1⟩
      have HO1 := Lib.hid hO1
      have hX1 := HX.out.call hB1
      clear hO1 hB1 H1 HX
      have c0 := hX1.tb.c0
      have c1 := hX1.tb.c1
      have c2 := hX1.tb.c2
      have c3 := hX1.tb.c3
      rw [HL.out] at c3
      have o0 := hX1.o0
      have o1 := hX1.o1
      have o2 := hX1.o2
      rw [e0] at o0
      rw [e1] at o1
      rw [e2] at o2
      go_wp2_with fail
      refine (H2.out _ hX1).mono ?_; rintro e w2 ⟨v2, rfl, hB2, hO2⟩
      have HO1 := Lib.hid (HO1.out.below hB2)
      have HO2 := Lib.hid hO2
      have hX2 := hX1.call hB2
      clear c0 c1 c2 c3 o0 o1 o2 hO2 hB2 H2 hX1
      have c0 := hX2.tb.c0
      have c1 := hX2.tb.c1
      have c2 := hX2.tb.c2
      have c3 := hX2.tb.c3
      rw [HL.out] at c3
      have o0 := hX2.o0
      have o1 := hX2.o1
      have o2 := hX2.o2
      rw [e0] at o0
      rw [e1] at o1
      rw [e2] at o2
      go_wp2_with fail
      refine (H3.out _ hX2).mono ?_; rintro e w3 ⟨rfl, hB3⟩
      have HO1 := Lib.hid (HO1.out.below hB3)
      have HO2 := Lib.hid (HO2.out.below hB3)
      have hX3 := hX2.call hB3
      clear c0 c1 c2 c3 o0 o1 o2 hB3 H3 hX2
      have c0 := hX3.tb.c0
      have c1 := hX3.tb.c1
      have c2 := hX3.tb.c2
      have c3 := hX3.tb.c3
      rw [HL.out] at c3
      have o0 := hX3.o0
      have o1 := hX3.o1
      have o2 := hX3.o2
      rw [e0] at o0
      rw [e1] at o1
      rw [e2] at o2
      go_wp2_with fail
      refine (HJ.out _ _ _ HO1.out).mono ?_; rintro e w5 ⟨rfl, hB5⟩
      have hX5 := hX3.call hB5
      clear c0 c1 c2 c3 o0 o1 o2 hB5 hX3 HO1
      have c0 := hX5.tb.c0
      have c1 := hX5.tb.c1
      have c2 := hX5.tb.c2
      have c3 := hX5.tb.c3
      rw [HL.out] at c3
      have o0 := hX5.o0
      have o1 := hX5.o1
      have o2 := hX5.o2
      rw [e0] at o0
      rw [e1] at o1
      rw [e2] at o2
      go_wp2_with fail
      refine (HV.out _ hX5).mono ?_; rintro e w6 ⟨rfl, hB6⟩
      have hX6 := hX5.call hB6
      have hb6 := hX6.bel
      clear c0 c1 c2 c3 o0 o1 o2 hB6 hX5 hX6
      go_wp2_with fail
      refine (HO.out _ hb6).mono ?_; rintro e w7 ⟨rfl, hb7⟩
      go_wp2_with fail
      refine (HE.out _ hb7).mono ?_; rintro e w8 ⟨rfl, hb8⟩
      go_wp2_with fail
      go_ret
      exact ⟨rfl, hb8⟩
    · rw [HLX.out hc] at H3
      clear hc HLY HLX
      go_enter Tryz.func5, Tryz.ntmps5
      go_wp2_with fail
      refine (H1.out _ HX.out).mono ?_; rintro e w1 ⟨v1, rfl, hB1, hO1⟩
      have HO1 := Lib.hid hO1
      have hX1 := HX.out.call hB1
      clear hO1 hB1 H1 HX
      have c0 := hX1.tb.c0
      have c1 := hX1.tb.c1
      have c2 := hX1.tb.c2
      have c3 := hX1.tb.c3
      rw [HL.out] at c3
      have o0 := hX1.o0
      have o1 := hX1.o1
      have o2 := hX1.o2
      rw [e0] at o0
      rw [e1] at o1
      rw [e2] at o2
      go_wp2_with fail
      refine (H2.out _ hX1).mono ?_; rintro e w2 ⟨v2, rfl, hB2, hO2⟩
      have HO1 := Lib.hid (HO1.out.below hB2)
      have HO2 := Lib.hid hO2
      have hX2 := hX1.call hB2
      clear c0 c1 c2 c3 o0 o1 o2 hO2 hB2 H2 hX1
      have c0 := hX2.tb.c0
      have c1 := hX2.tb.c1
      have c2 := hX2.tb.c2
      have c3 := hX2.tb.c3
      rw [HL.out] at c3
      have o0 := hX2.o0
      have o1 := hX2.o1
      have o2 := hX2.o2
      rw [e0] at o0
      rw [e1] at o1
      rw [e2] at o2
      go_wp2_with fail
      refine (H3.out _ hX2).mono ?_; rintro e w3 ⟨rfl, hB3⟩
      have HO1 := Lib.hid (HO1.out.below hB3)
      have HO2 := Lib.hid (HO2.out.below hB3)
      have hX3 := hX2.call hB3
      clear c0 c1 c2 c3 o0 o1 o2 hB3 H3 hX2
      have c0 := hX3.tb.c0
      have c1 := hX3.tb.c1
      have c2 := hX3.tb.c2
      have c3 := hX3.tb.c3
      rw [HL.out] at c3
      have o0 := hX3.o0
      have o1 := hX3.o1
      have o2 := hX3.o2
      rw [e0] at o0
      rw [e1] at o1
      rw [e2] at o2
      go_wp2_with fail
      refine (HV.out _ hX3).mono ?_; rintro e w6 ⟨rfl, hB6⟩
      have hX6 := hX3.call hB6
      have hb6 := hX6.bel
      clear c0 c1 c2 c3 o0 o1 o2 hB6 hX3 hX6
      go_wp2_with fail
      refine (HO.out _ hb6).mono ?_; rintro e w7 ⟨rfl, hb7⟩
      go_wp2_with fail
      refine (HE.out _ hb7).mono ?_; rintro e w8 ⟨rfl, hb8⟩
      go_wp2_with fail
      go_ret
      exact ⟨rfl, hb8⟩
  · rw [wtokR_yes (by rw [hv, hb]; rfl), ← HPE.out] at H2
    rw [hv] at HV
    rw [ha] at HO
    clear hv ha hb HPE
    generalize joinB (pcs o.ign T t 1200 false) = js at *
    generalize pcs o.ign T t 1200 false = ps at *
    by_cases hc : js.size ≤ 16384
    · rw [HLY.out hc] at H3
      clear hc HLY HLX
      go_enter Tryz.func5, Tryz.ntmps5
      go_wp2_with fail
      refine (H1.out _ HX.out).mono ?_; rintro e w1 ⟨v1, rfl, hB1, hO1⟩
      have HO1 := Lib.hid hO1
      have hX1 := HX.out.call hB1
      clear hO1 hB1 H1 HX
      have c0 := hX1.tb.c0
      have c1 := hX1.tb.c1
      have c2 := hX1.tb.c2
      have c3 := hX1.tb.c3
      rw [HL.out] at c3
      have o0 := hX1.o0
      have o1 := hX1.o1
      have o2 := hX1.o2
      rw [e0] at o0
      rw [e1] at o1
      rw [e2] at o2
      go_wp2_with fail
      refine (H2.out _ hX1).mono ?_; rintro e w2 ⟨v2, rfl, hB2, hO2⟩
      have HO1 := Lib.hid (HO1.out.below hB2)
      have HO2 := Lib.hid hO2
      have hX2 := hX1.call hB2
      clear c0 c1 c2 c3 o0 o1 o2 hO2 hB2 H2 hX1
      have c0 := hX2.tb.c0
      have c1 := hX2.tb.c1
      have c2 := hX2.tb.c2
      have c3 := hX2.tb.c3
      rw [HL.out] at c3
      have o0 := hX2.o0
      have o1 := hX2.o1
      have o2 := hX2.o2
      rw [e0] at o0
      rw [e1] at o1
      rw [e2] at o2
      go_wp2_with fail
      refine (H3.out _ hX2).mono ?_; rintro e w3 ⟨rfl, hB3⟩
      have HO1 := Lib.hid (HO1.out.below hB3)
      have HO2 := Lib.hid (HO2.out.below hB3)
      have hX3 := hX2.call hB3
      clear c0 c1 c2 c3 o0 o1 o2 hB3 H3 hX2
      have c0 := hX3.tb.c0
      have c1 := hX3.tb.c1
      have c2 := hX3.tb.c2
      have c3 := hX3.tb.c3
      rw [HL.out] at c3
      have o0 := hX3.o0
      have o1 := hX3.o1
      have o2 := hX3.o2
      rw [e0] at o0
      rw [e1] at o1
      rw [e2] at o2
      go_wp2_with fail
      refine (HP.out _ _ _ _ _ HO1.out HO2.out).mono ?_; rintro e w4 ⟨rfl, hB4⟩
      have HO1 := Lib.hid (HO1.out.below hB4)
      have hX4 := hX3.call hB4
      clear c0 c1 c2 c3 o0 o1 o2 hB4 hX3 HO2
      have c0 := hX4.tb.c0
      have c1 := hX4.tb.c1
      have c2 := hX4.tb.c2
      have c3 := hX4.tb.c3
      rw [HL.out] at c3
      have o0 := hX4.o0
      have o1 := hX4.o1
      have o2 := hX4.o2
      rw [e0] at o0
      rw [e1] at o1
      rw [e2] at o2
      go_wp2_with fail
      refine (HJ.out _ _ _ HO1.out).mono ?_; rintro e w5 ⟨rfl, hB5⟩
      have hX5 := hX4.call hB5
      clear c0 c1 c2 c3 o0 o1 o2 hB5 hX4 HO1
      have c0 := hX5.tb.c0
      have c1 := hX5.tb.c1
      have c2 := hX5.tb.c2
      have c3 := hX5.tb.c3
      rw [HL.out] at c3
      have o0 := hX5.o0
      have o1 := hX5.o1
      have o2 := hX5.o2
      rw [e0] at o0
      rw [e1] at o1
      rw [e2] at o2
      go_wp2_with fail
      refine (HV.out _ hX5).mono ?_; rintro e w6 ⟨rfl, hB6⟩
      have hX6 := hX5.call hB6
      have hb6 := hX6.bel
      clear c0 c1 c2 c3 o0 o1 o2 hB6 hX5 hX6
      go_wp2_with fail
      refine (HO.out _ hb6).mono ?_; rintro e w7 ⟨rfl, hb7⟩
      go_wp2_with fail
      refine (HE.out _ hb7).mono ?_; rintro e w8 ⟨rfl, hb8⟩
      go_wp2_with fail
      go_ret
      exact ⟨rfl, hb8⟩
    · rw [HLX.out hc] at H3
      clear hc HLY HLX
      go_enter Tryz.func5, Tryz.ntmps5
      go_wp2_with fail
      refine (H1.out _ HX.out).mono ?_; rintro e w1 ⟨v1, rfl, hB1, hO1⟩
      have HO1 := Lib.hid hO1
      have hX1 := HX.out.call hB1
      clear hO1 hB1 H1 HX
      have c0 := hX1.tb.c0
      have c1 := hX1.tb.c1
      have c2 := hX1.tb.c2
      have c3 := hX1.tb.c3
      rw [HL.out] at c3
      have o0 := hX1.o0
      have o1 := hX1.o1
      have o2 := hX1.o2
      rw [e0] at o0
      rw [e1] at o1
      rw [e2] at o2
      go_wp2_with fail
      refine (H2.out _ hX1).mono ?_; rintro e w2 ⟨v2, rfl, hB2, hO2⟩
      have HO1 := Lib.hid (HO1.out.below hB2)
      have HO2 := Lib.hid hO2
      have hX2 := hX1.call hB2
      clear c0 c1 c2 c3 o0 o1 o2 hO2 hB2 H2 hX1
      have c0 := hX2.tb.c0
      have c1 := hX2.tb.c1
      have c2 := hX2.tb.c2
      have c3 := hX2.tb.c3
      rw [HL.out] at c3
      have o0 := hX2.o0
      have o1 := hX2.o1
      have o2 := hX2.o2
      rw [e0] at o0
      rw [e1] at o1
      rw [e2] at o2
      go_wp2_with fail
      refine (H3.out _ hX2).mono ?_; rintro e w3 ⟨rfl, hB3⟩
      have HO1 := Lib.hid (HO1.out.below hB3)
      have HO2 := Lib.hid (HO2.out.below hB3)
      have hX3 := hX2.call hB3
      clear c0 c1 c2 c3 o0 o1 o2 hB3 H3 hX2
      have c0 := hX3.tb.c0
      have c1 := hX3.tb.c1
      have c2 := hX3.tb.c2
      have c3 := hX3.tb.c3
      rw [HL.out] at c3
      have o0 := hX3.o0
      have o1 := hX3.o1
      have o2 := hX3.o2
      rw [e0] at o0
      rw [e1] at o1
      rw [e2] at o2
      go_wp2_with fail
      refine (HP.out _ _ _ _ _ HO1.out HO2.out).mono ?_; rintro e w4 ⟨rfl, hB4⟩
      have HO1 := Lib.hid (HO1.out.below hB4)
      have hX4 := hX3.call hB4
      clear c0 c1 c2 c3 o0 o1 o2 hB4 hX3 HO2
      have c0 := hX4.tb.c0
      have c1 := hX4.tb.c1
      have c2 := hX4.tb.c2
      have c3 := hX4.tb.c3
      rw [HL.out] at c3
      have o0 := hX4.o0
      have o1 := hX4.o1
      have o2 := hX4.o2
      rw [e0] at o0
      rw [e1] at o1
      rw [e2] at o2
      go_wp2_with fail
      refine (HV.out _ hX4).mono ?_; rintro e w6 ⟨rfl, hB6⟩
      have hX6 := hX4.call hB6
      have hb6 := hX6.bel
      clear c0 c1 c2 c3 o0 o1 o2 hB6 hX4 hX6
      go_wp2_with fail
      refine (HO.out _ hb6).mono ?_; rintro e w7 ⟨rfl, hb7⟩
      go_wp2_with fail
      refine (HE.out _ hb7).mono ?_; rintro e w8 ⟨rfl, hb8⟩
      go_wp2_with fail
      go_ret
      exact ⟨rfl, hb8⟩
end Go.Proofs.YtgapnafkelokaaaGreatDoor
