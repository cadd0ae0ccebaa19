/- The reference's writer: into, third part. -/
import Derived.Test.YtgapnafkelokaaaGreatDoorM22
namespace Hb
open Go Go.RowKit
theorem name_ways (nm : ByteArray) (n : Nat) (ig : Bool) (h1 : ¬ (nm.toList = [46] ∧ n = 2)) (h2 : ¬ (ig = false ∧ nm.toList = [123, 125] ∧ n = 1)) : (nm.toList = [46] ∧ ¬ n = 2) ∨ (nm.toList = [123, 125] ∧ ¬ n = 1) ∨ (nm.toList = [123, 125] ∧ n = 1 ∧ ig = true) ∨ (¬ nm.toList = [46] ∧ ¬ nm.toList = [123, 125]) := by
  by_cases a : nm.toList = [46]
  · exact .inl ⟨a, fun h => h1 ⟨a, h⟩⟩
  · by_cases b : nm.toList = [123, 125]
    · by_cases c : n = 1
      · cases ig
        · exact absurd ⟨rfl, b, c⟩ h2
        · exact .inr (.inr (.inl ⟨b, c, rfl⟩))
      · exact .inr (.inl ⟨b, c⟩)
    · exact .inr (.inr (.inr ⟨a, b⟩))
end Hb
namespace Go.Proofs.YtgapnafkelokaaaGreatDoor
open Go.RowKit Hb
set_option maxRecDepth 100000
set_option maxHeartbeats 6400000 in
theorem i_can {o : WO} {T : List OpR} {TA : Option Addr} {TN TC : Nat} {w0 : World} {t : Tm} (hk : t.kind = 3) (hok : Tm.All Okf t) (few : TN ≤ 400) (hTab : Tab w0 TA TN TC T) (hnum : isNum o t = false) (hls : condList t = false) (hcu : condCur o t = false) (hin : condIn o T t = false) (hpr : condPre o T t = false) (hpo : condPost o T t = false) (hI : ∀ x ∈ t.args, IOK o T TA TN TC w0 x) : IOK o T TA TN TC w0 t := by
  intro max opd hmx A cap w v xs hB hT hO hlen
  obtain ⟨i, hi, hz0, hz1, hz2⟩ := info_parts infoStr
  have HI := Lib.hid hi
  have HZ0 := Lib.hid hz0
  have HZ1 := Lib.hid hz1
  have HZ2 := Lib.hid hz2
  clear hi hz0 hz1 hz2
  obtain ⟨LN, HL⟩ : ∃ LN, Hid (LN = t.args.length) := ⟨_, Lib.hid rfl⟩
  have HX := Lib.hid (Rf2.start w o TA TN TC t A cap LN 70 24 HL.out)
  have HBX := HX.out.bel
  have hp1 := t.nodes_pos
  have HB := Lib.hid hB
  have HB0 := Lib.hid (fun W (h : Below w.heap.size w W) => hB.trans (h.mono hB.size))
  have hs0 := hB.size
  have HG0 := Lib.hid ((Gro.start hO).bel HBX)
  have HLEN := Lib.hid hlen
  have h0 : ¬ t.kind = 0 := by omega
  have h1 : ¬ t.kind = 1 := by omega
  have h2 : ¬ t.kind = 2 := by omega
  have HP0 : Hid (pcs o T t max opd = brk (str o T t).1 (decide (max < (str o T t).2.prec))) := Lib.hid (by unfold pcs placeW; rw [if_neg h0, if_neg h1, if_neg h2])
  have HST := Lib.hid (str_eq o T (Okf.k4 hok))
  have HNUM := Lib.hid (fun W (h : Below w.heap.size w W) => r_numbered o TA TN TC t (List.all_eq_true.2 fun x hx => (hok.sub x hx).here.2) A cap W ((hT.keep (HB0.out W h)).mono (HB0.out W h).size))
  have HP : Hid (pcs o T t max opd = nmW o t.name :: (s1 40 :: (rowW (argW o T (str o T)) t.args ++ [s1 41]))) := Lib.hid (by
    rw [HP0.out, HST.out, st_6 hnum hls hcu hin hpr hpo, decide_eq_false (by show ¬ max < 0; omega)]; rfl)
  have HOW : Hid (operW o T t = (op0, 0)) := Lib.hid (by rw [oper_late hk hnum hls hcu, hin, hpr, hpo]; rfl)
  have HNM2 := Lib.hid (fun W => r_name o TA TN TC t.name W (by have := nodeOk_name hok.here.1; omega))
  have hnd := Tm.nodes_eq t
  have hk4 := (Okf.k4 hok).sub
  have hal := nodeOk_args hok.here.1
  have HROW := Lib.hid (fun (W : World) (v' : Value) (hb : Below w0.heap.size w0 W) (hr : RowAt w0.heap.size w0 W v'.ownBlock A t.args) (ho : OwnS 9 w0.heap.size W v' (xs ++ [nmW o t.name, ⟨#[40]⟩])) => r_row t.args hI hk4 A t.args.length cap W v' (xs ++ [nmW o t.name, ⟨#[40]⟩]) hb hr ho rfl (by omega) (by simp only [List.length_append, List.length_cons, List.length_nil]; unfold sumT; omega))
  have hrb := row_len (argW o T (str o T)) t.args fun x hx => pcs_len o T (hk4 x hx) 999 false
  have HRW0 := Lib.hid (fun (W : World) (h : Below w.heap.size w W) => (RowAt.of hT hB hO).bel h)
  have HHR := Lib.hid HRW0.out
  clear HRW0
  have HVLT : Hid (∀ k, v.ownBlock = some k → k < w.heap.size) := Lib.hid (fun k hk => (hO.low hk).2)
  have HOO := Lib.hid hO
  have hxl : xs.length ≤ 99991 := by omega
  have hways := name_ways t.name LN o.ig (fun h => by unfold condList Tm.isNm at hls; rw [h.1, ← HL.out, h.2] at hls; revert hls; decide) (fun h => by unfold condCur Tm.isNm at hcu; rw [h.1, h.2.1, ← HL.out, h.2.2] at hcu; revert hcu; decide)
  have HOPR0 := Lib.hid (fun W (h : Below w.heap.size w W) => r_operator o T TA TN TC t (List.all_eq_true.2 fun x hx => (hok.sub x hx).here.2) A cap W few (hTab.below (HB0.out W h)) ((hT.keep (HB0.out W h)).mono (HB0.out W h).size))
  rw [HP.out]
  unfold tmV rwV opV at *
  rw [← HL.out] at HNUM HOPR0 HROW ⊢
  rw [hnum] at HNUM
  rw [hk] at HX HBX HG0 HNUM HOPR0 ⊢
  have HKK := Lib.hid hk
  rw [HOW.out] at HOPR0
  obtain ⟨p, HPE⟩ : ∃ p, Hid (p = op0) := ⟨_, Lib.hid rfl⟩
  have HOPR : Hid (∀ W, Below w.heap.size w W → Calls Tryz.prog 90 #[.agg #[.slice TA TN TC, .bool o.q, .bool o.ig, .bool o.nu], .agg #[.int .i64 3, .int .i64 t.num, .string t.name, .slice A LN cap]] W fun e w' => e = .returned (.tuple #[.agg #[.string p.name, .int .i64 p.typ, .int .i64 p.prec], .int .i64 0]) ∧ Below W.heap.size W w') := Lib.hid (by rw [HPE.out]; exact HOPR0.out)
  obtain ⟨nm0, HN0⟩ : ∃ nm0, Hid (nm0 = numW o t) := ⟨_, Lib.hid rfl⟩
  rw [← HN0.out] at HNUM
  obtain ⟨nm, HNE⟩ : ∃ nm, Hid (nm = nmW o t.name) := ⟨_, Lib.hid rfl⟩
  rw [← HNE.out] at HNM2 HROW ⊢
  obtain ⟨Z7, HZ7⟩ : ∃ Z7, Hid (Z7 = (xs ++ [nm, ⟨#[40]⟩]) ++ rowW (argW o T (str o T)) t.args) := ⟨_, Lib.hid rfl⟩
  have HRES : Hid (xs ++ (nm :: (s1 40 :: (rowW (argW o T (str o T)) t.args ++ [s1 41]))) = Z7 ++ [⟨#[41]⟩]) := Lib.hid (by rw [HZ7.out]; unfold s1; simp)
  have hz7 : Z7.length ≤ 99999 := by rw [HZ7.out]; simp only [List.length_append, List.length_cons, List.length_nil]; omega
  rw [HRES.out]
  clear hok hB hT hO HB hmx h0 h1 h2 hnum hls hcu hin hpr hpo hI hk HP HP0 HST HRES HLEN hrb hnd hk4 hal HOPR0 HOW HN0 HNE HPE few hTab hlen hp1
  rcases hways with ⟨hw1, hw2⟩ | ⟨hw1, hw2⟩ | ⟨hw1, rfl, hw2⟩ | ⟨hw1, hw2⟩
  · have hw1b : (t.name.toList == [46]) = true := by rw [hw1]; rfl
    have hw3 : ¬ t.name.toList = [123, 125] := by rw [hw1]; decide
    have hw3b : (t.name.toList == [123, 125]) = false := by rw [hw1]; rfl
    have l1 : ((LN : Int) == 2) = false := by simp <;> omega
    have l2 : ¬ ((LN : Int) = 2) := by omega
    go_enter Tryz.func59, Tryz.ntmps59
    go_wp2_with fail
    refine (HNUM.out _ HBX).mono ?_; rintro e w1 ⟨rfl, hB1⟩
    have HX1 := Lib.hid (HX.out.call hB1)
    have y0 := HX1.out.wb.c0
    have y1 := HX1.out.wb.c1
    have y2 := HX1.out.wb.c2
    have y3 := HX1.out.wb.c3
    have z0 := HX1.out.tb.c0
    have z1 := HX1.out.tb.c1
    have z2 := HX1.out.tb.c2
    have z3 := HX1.out.tb.c3
    rw [← HL.out] at z3
    rw [HKK.out] at z0
    have hb1 := HX1.out.bel
    have GW1 := Lib.hid (HG0.out.bel hB1)
    clear HX HG0 HBX HNUM hB1
    go_wp2_with fail
    refine (HOPR.out _ hb1).mono ?_; rintro e w2 ⟨rfl, hB2⟩
    have hB2a := hB2.alloc hB2.size (.cells #[.string p.name, .int .i64 p.typ, .int .i64 p.prec] 80)
    have HXR := Lib.hid (HX1.out.call hB2a)
    have GW := Lib.hid (Gro.start (GW1.out.bel hB2a).own)
    have hbR := HXR.out.bel
    have HOB := Lib.hid ((BoxG.start w2 p 80))
    clear y0 y1 y2 y3 z0 z1 z2 z3 HX1 HOPR hB2 hB2a GW1 hb1
    go_upto_region 19 with fail
    have hlR : w2.heap.size + 1 = (w2.alloc (.cells #[.string p.name, .int .i64 p.typ, .int .i64 p.prec] 80)).heap.size := by simp
    generalize w2.alloc (.cells #[.string p.name, .int .i64 p.typ, .int .i64 p.prec] 80) = wR at *
    have HRA := Lib.hid (HHR.out wR hbR)
    have HKP : Hid (∀ X, wR.grownBy X v.ownBlock → X.cell? ⟨w.heap.size, 0, none⟩ = some (.slice TA TN TC) ∧ X.cell? ⟨w.heap.size, 1, none⟩ = some (.bool o.q) ∧ X.cell? ⟨w.heap.size, 2, none⟩ = some (.bool o.ig) ∧ X.cell? ⟨w.heap.size, 3, none⟩ = some (.bool o.nu) ∧ X.cell? ⟨w.heap.size + 1, 0, none⟩ = some (.int .i64 3) ∧ X.cell? ⟨w.heap.size + 1, 1, none⟩ = some (.int .i64 t.num) ∧ X.cell? ⟨w.heap.size + 1, 2, none⟩ = some (.string t.name) ∧ X.cell? ⟨w.heap.size + 1, 3, none⟩ = some (.slice A LN cap) ∧ wR.grownBy X v.ownBlock) := Lib.hid (fun X h => by
      have hwb := HXR.out.wb
      have htb := HXR.out.tb
      have hc : ∀ k j, w.heap.size ≤ k → k < wR.heap.size → X.cell? ⟨k, j, none⟩ = wR.cell? ⟨k, j, none⟩ := fun k j h1 h2 => gro_cell h _ h2 (fun e => by have := HVLT.out k e; omega)
      have h3 := htb.c3
      rw [← HL.out] at h3
      have hi2 := hwb.c2
      have _ := hi2
      have ht0 := htb.c0
      rw [HKK.out] at ht0
      exact ⟨(hc _ _ (by omega) hwb.lt).trans hwb.c0, (hc _ _ (by omega) hwb.lt).trans hwb.c1, (hc _ _ (by omega) hwb.lt).trans hi2, (hc _ _ (by omega) hwb.lt).trans hwb.c3, (hc _ _ (by omega) htb.lt).trans ht0, (hc _ _ (by omega) htb.lt).trans htb.c1, (hc _ _ (by omega) htb.lt).trans htb.c2, (hc _ _ (by omega) htb.lt).trans h3, h⟩)
    have HBG : Hid (∀ X, wR.grownBy X v.ownBlock → Below w0.heap.size w0 X) := Lib.hid (fun X h => (HB0.out _ hbR).grown h (HB0.out _ hbR).size (fun k hk => (HOO.out.low hk).1))
    have HFG : Hid (∀ X, wR.grownBy X v.ownBlock → w.grownBy X v.ownBlock) := Lib.hid (fun X h => bel_grown hbR h)
    have HFA : Hid (∀ v', AtB wR v v' → AtB w v v') := Lib.hid (fun v' h => h.imp id fun ⟨k, h1, h2⟩ => ⟨k, h1, Nat.le_trans hbR.size h2⟩)
    have hs0R := (HB0.out _ hbR).size
    have GD0 := Lib.hid (GW.out.bel (Below.refl _ _).drew)
    have GD1 := Lib.hid ((GW.out.bel ((Below.refl _ _).alloc (Nat.le_refl _) (.cells #[.string ⟨#[41]⟩] 9))).bel (Below.refl _ _).drew)
    have hwl := hbR.size
    clear HHR HB0 HOO HXR HOB hlR
    go_region_held3 (fun X => X.cell? ⟨w.heap.size, 0, none⟩ = some (.slice TA TN TC) ∧ X.cell? ⟨w.heap.size, 1, none⟩ = some (.bool o.q) ∧ X.cell? ⟨w.heap.size, 2, none⟩ = some (.bool o.ig) ∧ X.cell? ⟨w.heap.size, 3, none⟩ = some (.bool o.nu) ∧ X.cell? ⟨w.heap.size + 1, 0, none⟩ = some (.int .i64 3) ∧ X.cell? ⟨w.heap.size + 1, 1, none⟩ = some (.int .i64 t.num) ∧ X.cell? ⟨w.heap.size + 1, 2, none⟩ = some (.string t.name) ∧ X.cell? ⟨w.heap.size + 1, 3, none⟩ = some (.slice A LN cap) ∧ wR.grownBy X v.ownBlock)
      (first
        | with_reducible exact HKP.out _ h8g
        | with_reducible exact HKP.out _ h7g
        | with_reducible exact HKP.out _ h6g
        | with_reducible exact HKP.out _ h4g
        | exact HKP.out _ GD0.out.gro
        | with_reducible exact HKP.out _ (grown_bel h7g ((Below.refl _ _).alloc (Nat.le_refl _) _))
        | with_reducible exact HKP.out _ (grown_bel h6g ((Below.refl _ _).alloc (Nat.le_refl _) _))
        | with_reducible exact HKP.out _ (grown_bel h4g ((Below.refl _ _).alloc (Nat.le_refl _) _))
        | with_reducible exact HKP.out _ (grown_bel (grown_bel h4g ((Below.refl _ _).alloc (Nat.le_refl _) _)) ((Below.refl _ _).alloc (Nat.le_refl _) _))
        | with_reducible exact HKP.out _ (grown_bel (grown_self _ _) (((Below.refl _ _).alloc (Nat.le_refl _) _).drew))
        | exact HKP.out _ (grown_bel (grown_bel (grown_self _ _) ((Below.refl _ _).alloc (Nat.le_refl _) _)) (((Below.refl _ _).alloc (Nat.le_refl _) _).drew))
        | fail)
      (first
        | (go_at_call 87; (with_reducible refine (HNM2.out wR.drew).mono ?_); rintro e w4 ⟨rfl, hB4⟩; have G4 := Lib.hid (GD0.out.bel hB4); have G4' := Lib.hid ((Gro.start GD0.out.own).bel hB4); have h4g := G4.out.gro; have h4s : wR.heap.size ≤ w4.heap.size := Nat.le_trans GD0.out.gro.size hB4.size)
        | (go_at_call 87; (with_reducible refine (HNM2.out (wR.alloc (.cells #[.string ⟨#[41]⟩] 9)).drew).mono ?_); rintro e w4 ⟨rfl, hB4⟩; have G4 := Lib.hid (GD1.out.bel hB4); have G4' := Lib.hid ((Gro.start GD1.out.own).bel hB4); have h4g := G4.out.gro; have h4s : wR.heap.size ≤ w4.heap.size := Nat.le_trans GD1.out.gro.size hB4.size)
        | (have GA := ((G4.out.bel ((Below.refl _ _).alloc (Nat.le_refl _) (.cells #[.string nm, .string ⟨#[40]⟩] 9)))); have GA' := ((G4'.out.bel ((Below.refl _ _).alloc (Nat.le_refl _) (.cells #[.string nm, .string ⟨#[40]⟩] 9)))); have hsA : w0.heap.size ≤ (w4.alloc (.cells #[.string nm, .string ⟨#[40]⟩] 9)).heap.size := Nat.le_trans hs0R GA.gro.size; have hnA : ∀ j u, ([nm, ⟨#[40]⟩].map Value.string)[j]? = some u → (w4.alloc (.cells #[.string nm, .string ⟨#[40]⟩] 9)).cell? ((⟨w4.heap.size, 0, none⟩ : Addr).add j) = some u := (World.news_of_block (heap_alloc_new w4 (.cells #[.string nm, .string ⟨#[40]⟩] 9))); refine step_append_lies _ (by rfl) _ _ 28 (by rfl) w0.heap.size 9 i _ 1 16 Tryz.underlying28 HI.out HZ0.out HZ1.out HZ2.out (by rfl) (by decide) v xs.length (xs.map Value.string) (by rfl) GA.own ⟨w4.heap.size, 0, none⟩ 2 2 ([nm, ⟨#[40]⟩].map Value.string) (by rfl) (by rfl) hnA (strs_one _) (by decide) (by unfold maxLen; omega) (by omega) hsA (w4.heap.size + 1) (by simp) ?_; intro g6 c6 w6 hown6 hg6 hat6 hlt6; have G6 := Lib.hid (GA.app (m := 2) (ys := [nm, ⟨#[40]⟩]) rfl rfl hown6 hg6 (by simp) hat6); have G6' := Lib.hid (GA'.app (m := 2) (ys := [nm, ⟨#[40]⟩]) rfl rfl hown6 hg6 (by simp) hat6); have h6g := G6.out.gro; have hne6 : (Value.slice (some ⟨g6, 0, none⟩) (xs.length + 2) c6).ownBlock ≠ some w6.heap.size := (fun e => absurd (Option.some.inj e) (Nat.ne_of_lt hlt6)))
        | (have GA := ((G4.out.bel ((Below.refl _ _).alloc (Nat.le_refl _) (.cells #[.string ⟨#[41]⟩] 9))).bel ((Below.refl _ _).alloc (Nat.le_refl _) (.cells #[.string nm, .string ⟨#[40]⟩] 9))); have GA' := Gro.start GA.own; have hsA : w0.heap.size ≤ ((w4.alloc (.cells #[.string ⟨#[41]⟩] 9)).alloc (.cells #[.string nm, .string ⟨#[40]⟩] 9)).heap.size := Nat.le_trans hs0R GA.gro.size; have hnA : ∀ j u, ([nm, ⟨#[40]⟩].map Value.string)[j]? = some u → ((w4.alloc (.cells #[.string ⟨#[41]⟩] 9)).alloc (.cells #[.string nm, .string ⟨#[40]⟩] 9)).cell? ((⟨(w4.heap.size + 1), 0, none⟩ : Addr).add j) = some u := (by have h := World.news_of_block (heap_alloc_new (w4.alloc (.cells #[.string ⟨#[41]⟩] 9)) (.cells #[.string nm, .string ⟨#[40]⟩] 9)); rw [show (w4.alloc (.cells #[.string ⟨#[41]⟩] 9)).heap.size = w4.heap.size + 1 by simp] at h; exact h); refine step_append_lies _ (by rfl) _ _ 28 (by rfl) w0.heap.size 9 i _ 1 16 Tryz.underlying28 HI.out HZ0.out HZ1.out HZ2.out (by rfl) (by decide) v xs.length (xs.map Value.string) (by rfl) GA.own ⟨(w4.heap.size + 1), 0, none⟩ 2 2 ([nm, ⟨#[40]⟩].map Value.string) (by rfl) (by rfl) hnA (strs_one _) (by decide) (by unfold maxLen; omega) (by omega) hsA (w4.heap.size + 1 + 1) (by simp) ?_; intro g6 c6 w6 hown6 hg6 hat6 hlt6; have G6 := Lib.hid (GA.app (m := 2) (ys := [nm, ⟨#[40]⟩]) rfl rfl hown6 hg6 (by simp) hat6); have G6' := Lib.hid (GA'.app (m := 2) (ys := [nm, ⟨#[40]⟩]) rfl rfl hown6 hg6 (by simp) hat6); have h6g := G6.out.gro; have hne6 : (Value.slice (some ⟨g6, 0, none⟩) (xs.length + 2) c6).ownBlock ≠ some w6.heap.size := (fun e => absurd (Option.some.inj e) (Nat.ne_of_lt hlt6)))
        | (have GA := ((G4.out.bel ((Below.refl _ _).alloc (Nat.le_refl _) (.cells #[.string nm, .string ⟨#[40]⟩] 9))).bel ((Below.refl _ _).alloc (Nat.le_refl _) (.cells #[.string ⟨#[41]⟩] 9))); have GA' := Gro.start GA.own; have hsA : w0.heap.size ≤ ((w4.alloc (.cells #[.string nm, .string ⟨#[40]⟩] 9)).alloc (.cells #[.string ⟨#[41]⟩] 9)).heap.size := Nat.le_trans hs0R GA.gro.size; have hnA : ∀ j u, ([nm, ⟨#[40]⟩].map Value.string)[j]? = some u → ((w4.alloc (.cells #[.string nm, .string ⟨#[40]⟩] 9)).alloc (.cells #[.string ⟨#[41]⟩] 9)).cell? ((⟨w4.heap.size, 0, none⟩ : Addr).add j) = some u := (World.news_of_block ((Below.heap_alloc (w4.alloc (.cells #[.string nm, .string ⟨#[40]⟩] 9)) (.cells #[.string ⟨#[41]⟩] 9) w4.heap.size (by simp)).trans (heap_alloc_new w4 (.cells #[.string nm, .string ⟨#[40]⟩] 9)))); refine step_append_lies _ (by rfl) _ _ 28 (by rfl) w0.heap.size 9 i _ 1 16 Tryz.underlying28 HI.out HZ0.out HZ1.out HZ2.out (by rfl) (by decide) v xs.length (xs.map Value.string) (by rfl) GA.own ⟨w4.heap.size, 0, none⟩ 2 2 ([nm, ⟨#[40]⟩].map Value.string) (by rfl) (by rfl) hnA (strs_one _) (by decide) (by unfold maxLen; omega) (by omega) hsA (w4.heap.size + 1 + 1) (by simp) ?_; intro g6 c6 w6 hown6 hg6 hat6 hlt6; have G6 := Lib.hid (GA.app (m := 2) (ys := [nm, ⟨#[40]⟩]) rfl rfl hown6 hg6 (by simp) hat6); have G6' := Lib.hid (GA'.app (m := 2) (ys := [nm, ⟨#[40]⟩]) rfl rfl hown6 hg6 (by simp) hat6); have h6g := G6.out.gro; have hne6 : (Value.slice (some ⟨g6, 0, none⟩) (xs.length + 2) c6).ownBlock ≠ some w6.heap.size := (fun e => absurd (Option.some.inj e) (Nat.ne_of_lt hlt6)))
        | (go_at_call 91; (with_reducible refine (HROW.out w6 _ (HBG.out _ G6.out.gro) (HRA.out.gro G6.out.gro G6.out.atb) G6.out.own).mono ?_); rintro e w7 ⟨v7, rfl, hO7, hg7, ha7⟩; have G7 := Lib.hid (G6.out.step hO7 hg7 ha7); have G7' := Lib.hid (G6'.out.step hO7 hg7 ha7); have h7g := G7.out.gro; rw [← HZ7.out] at G7 G7')
        | (go_at_call 91; have GE := Lib.hid (G6.out.bel ((Below.refl _ _).alloc (Nat.le_refl _) (.cells #[.string ⟨#[41]⟩] 9))); have GE' := Lib.hid (G6'.out.bel ((Below.refl _ _).alloc (Nat.le_refl _) (.cells #[.string ⟨#[41]⟩] 9))); (with_reducible refine (HROW.out (w6.alloc (.cells #[.string ⟨#[41]⟩] 9)) _ (HBG.out _ GE.out.gro) (HRA.out.gro GE.out.gro GE.out.atb) GE.out.own).mono ?_); rintro e w7 ⟨v7, rfl, hO7, hg7, ha7⟩; have G7 := Lib.hid (GE.out.step hO7 hg7 ha7); have G7' := Lib.hid (GE'.out.step hO7 hg7 ha7); have h7g := G7.out.gro; rw [← HZ7.out] at G7 G7')
        | (have hs7 : w0.heap.size ≤ w7.heap.size := Nat.le_trans hs0R G7.out.gro.size; have hne : v.ownBlock ≠ some wR.heap.size := (fun e => by have := HVLT.out _ e; omega); have hnews : ∀ j u, ([⟨#[41]⟩].map Value.string)[j]? = some u → w7.cell? ((⟨wR.heap.size, 0, none⟩ : Addr).add j) = some u := World.news_of_block ((G7'.out.gro.block wR.heap.size (by simp <;> omega) (fun e => hne e.symm)).trans (heap_alloc_new wR (.cells #[.string ⟨#[41]⟩] 9))); refine step_append_lies _ (by rfl) _ _ 28 (by rfl) w0.heap.size 9 i _ 1 16 Tryz.underlying28 HI.out HZ0.out HZ1.out HZ2.out (by rfl) (by decide) v7 Z7.length (Z7.map Value.string) (by rfl) G7.out.own ⟨wR.heap.size, 0, none⟩ 1 1 ([⟨#[41]⟩].map Value.string) (by rfl) (by rfl) hnews (strs_one _) (by decide) (by unfold maxLen; omega) (by omega) hs7 w7.heap.size rfl ?_; intro g8 c8 w8 hown8 hg8 hat8 hlt8; have G8 := Lib.hid (G7.out.app (n := Z7.length) (m := 1) (ys := [⟨#[41]⟩]) rfl rfl hown8 hg8 rfl hat8); have h8g := G8.out.gro)
        | (have hs7 : w0.heap.size ≤ w7.heap.size := Nat.le_trans hs0R G7.out.gro.size; have hne : v.ownBlock ≠ some w4.heap.size := (fun e => by have := HVLT.out _ e; omega); have hnews : ∀ j u, ([⟨#[41]⟩].map Value.string)[j]? = some u → w7.cell? ((⟨w4.heap.size, 0, none⟩ : Addr).add j) = some u := World.news_of_block ((G7'.out.gro.block w4.heap.size (by simp <;> omega) (fun e => hne e.symm)).trans ((Below.heap_alloc (w4.alloc (.cells #[.string ⟨#[41]⟩] 9)) (.cells #[.string nm, .string ⟨#[40]⟩] 9) w4.heap.size (by simp)).trans (heap_alloc_new w4 (.cells #[.string ⟨#[41]⟩] 9)))); refine step_append_lies _ (by rfl) _ _ 28 (by rfl) w0.heap.size 9 i _ 1 16 Tryz.underlying28 HI.out HZ0.out HZ1.out HZ2.out (by rfl) (by decide) v7 Z7.length (Z7.map Value.string) (by rfl) G7.out.own ⟨w4.heap.size, 0, none⟩ 1 1 ([⟨#[41]⟩].map Value.string) (by rfl) (by rfl) hnews (strs_one _) (by decide) (by unfold maxLen; omega) (by omega) hs7 w7.heap.size rfl ?_; intro g8 c8 w8 hown8 hg8 hat8 hlt8; have G8 := Lib.hid (G7.out.app (n := Z7.length) (m := 1) (ys := [⟨#[41]⟩]) rfl rfl hown8 hg8 rfl hat8); have h8g := G8.out.gro)
        | (have hs7 : w0.heap.size ≤ w7.heap.size := Nat.le_trans hs0R G7.out.gro.size; have hne : v.ownBlock ≠ some (w4.heap.size + 1) := (fun e => by have := HVLT.out _ e; omega); have hnews : ∀ j u, ([⟨#[41]⟩].map Value.string)[j]? = some u → w7.cell? ((⟨(w4.heap.size + 1), 0, none⟩ : Addr).add j) = some u := World.news_of_block ((G7'.out.gro.block (w4.heap.size + 1) (by simp <;> omega) (fun e => hne e.symm)).trans (by have h := heap_alloc_new (w4.alloc (.cells #[.string nm, .string ⟨#[40]⟩] 9)) (.cells #[.string ⟨#[41]⟩] 9); rw [show (w4.alloc (.cells #[.string nm, .string ⟨#[40]⟩] 9)).heap.size = w4.heap.size + 1 by simp] at h; exact h)); refine step_append_lies _ (by rfl) _ _ 28 (by rfl) w0.heap.size 9 i _ 1 16 Tryz.underlying28 HI.out HZ0.out HZ1.out HZ2.out (by rfl) (by decide) v7 Z7.length (Z7.map Value.string) (by rfl) G7.out.own ⟨(w4.heap.size + 1), 0, none⟩ 1 1 ([⟨#[41]⟩].map Value.string) (by rfl) (by rfl) hnews (strs_one _) (by decide) (by unfold maxLen; omega) (by omega) hs7 w7.heap.size rfl ?_; intro g8 c8 w8 hown8 hg8 hat8 hlt8; have G8 := Lib.hid (G7.out.app (n := Z7.length) (m := 1) (ys := [⟨#[41]⟩]) rfl rfl hown8 hg8 rfl hat8); have h8g := G8.out.gro)
        | (have hs7 : w0.heap.size ≤ w7.heap.size := Nat.le_trans hs0R G7.out.gro.size; have hnews : ∀ j u, ([⟨#[41]⟩].map Value.string)[j]? = some u → w7.cell? ((⟨w6.heap.size, 0, none⟩ : Addr).add j) = some u := World.news_of_block ((hg7.block w6.heap.size (by simp) (fun e => hne6 e.symm)).trans (heap_alloc_new w6 (.cells #[.string ⟨#[41]⟩] 9))); refine step_append_lies _ (by rfl) _ _ 28 (by rfl) w0.heap.size 9 i _ 1 16 Tryz.underlying28 HI.out HZ0.out HZ1.out HZ2.out (by rfl) (by decide) v7 Z7.length (Z7.map Value.string) (by rfl) G7.out.own ⟨w6.heap.size, 0, none⟩ 1 1 ([⟨#[41]⟩].map Value.string) (by rfl) (by rfl) hnews (strs_one _) (by decide) (by unfold maxLen; omega) (by omega) hs7 w7.heap.size rfl ?_; intro g8 c8 w8 hown8 hg8 hat8 hlt8; have G8 := Lib.hid (G7.out.app (n := Z7.length) (m := 1) (ys := [⟨#[41]⟩]) rfl rfl hown8 hg8 rfl hat8); have h8g := G8.out.gro)
        | (have G7a := G7.out.bel ((Below.refl _ _).alloc (Nat.le_refl _) (.cells #[.string ⟨#[41]⟩] 9)); have hs7 : w0.heap.size ≤ (w7.alloc (.cells #[.string ⟨#[41]⟩] 9)).heap.size := Nat.le_trans hs0R G7a.gro.size; have hnews : ∀ j u, ([⟨#[41]⟩].map Value.string)[j]? = some u → (w7.alloc (.cells #[.string ⟨#[41]⟩] 9)).cell? ((⟨w7.heap.size, 0, none⟩ : Addr).add j) = some u := World.news_of_block (heap_alloc_new w7 (.cells #[.string ⟨#[41]⟩] 9)); refine step_append_lies _ (by rfl) _ _ 28 (by rfl) w0.heap.size 9 i _ 1 16 Tryz.underlying28 HI.out HZ0.out HZ1.out HZ2.out (by rfl) (by decide) v7 Z7.length (Z7.map Value.string) (by rfl) G7a.own ⟨w7.heap.size, 0, none⟩ 1 1 ([⟨#[41]⟩].map Value.string) (by rfl) (by rfl) hnews (strs_one _) (by decide) (by unfold maxLen; omega) (by omega) hs7 (w7.heap.size + 1) (by simp) ?_; intro g8 c8 w8 hown8 hg8 hat8 hlt8; have G8 := Lib.hid (G7a.app (n := Z7.length) (m := 1) (ys := [⟨#[41]⟩]) rfl rfl hown8 hg8 (by simp) hat8); have h8g := G8.out.gro)
        | fail)
    all_goals
      go_wp2_with fail
      go_ret
      exact ⟨_, rfl, G8.out.own, HFG.out _ G8.out.gro, HFA.out _ G8.out.atb⟩
  · have hw1b : (t.name.toList == [123, 125]) = true := by rw [hw1]; rfl
    have hw3 : ¬ t.name.toList = [46] := by rw [hw1]; decide
    have hw3b : (t.name.toList == [46]) = false := by rw [hw1]; rfl
    have l1 : ((LN : Int) == 1) = false := by simp <;> omega
    have l2 : ¬ ((LN : Int) = 1) := by omega
    go_enter Tryz.func59, Tryz.ntmps59
    go_wp2_with fail
    refine (HNUM.out _ HBX).mono ?_; rintro e w1 ⟨rfl, hB1⟩
    have HX1 := Lib.hid (HX.out.call hB1)
    have y0 := HX1.out.wb.c0
    have y1 := HX1.out.wb.c1
    have y2 := HX1.out.wb.c2
    have y3 := HX1.out.wb.c3
    have z0 := HX1.out.tb.c0
    have z1 := HX1.out.tb.c1
    have z2 := HX1.out.tb.c2
    have z3 := HX1.out.tb.c3
    rw [← HL.out] at z3
    rw [HKK.out] at z0
    have hb1 := HX1.out.bel
    have GW1 := Lib.hid (HG0.out.bel hB1)
    clear HX HG0 HBX HNUM hB1
    go_wp2_with fail
    refine (HOPR.out _ hb1).mono ?_; rintro e w2 ⟨rfl, hB2⟩
    have hB2a := hB2.alloc hB2.size (.cells #[.string p.name, .int .i64 p.typ, .int .i64 p.prec] 80)
    have HXR := Lib.hid (HX1.out.call hB2a)
    have GW := Lib.hid (Gro.start (GW1.out.bel hB2a).own)
    have hbR := HXR.out.bel
    have HOB := Lib.hid ((BoxG.start w2 p 80))
    clear y0 y1 y2 y3 z0 z1 z2 z3 HX1 HOPR hB2 hB2a GW1 hb1
    go_upto_region 19 with fail
    have hlR : w2.heap.size + 1 = (w2.alloc (.cells #[.string p.name, .int .i64 p.typ, .int .i64 p.prec] 80)).heap.size := by simp
    generalize w2.alloc (.cells #[.string p.name, .int .i64 p.typ, .int .i64 p.prec] 80) = wR at *
    have HRA := Lib.hid (HHR.out wR hbR)
    have HKP : Hid (∀ X, wR.grownBy X v.ownBlock → X.cell? ⟨w.heap.size, 0, none⟩ = some (.slice TA TN TC) ∧ X.cell? ⟨w.heap.size, 1, none⟩ = some (.bool o.q) ∧ X.cell? ⟨w.heap.size, 2, none⟩ = some (.bool o.ig) ∧ X.cell? ⟨w.heap.size, 3, none⟩ = some (.bool o.nu) ∧ X.cell? ⟨w.heap.size + 1, 0, none⟩ = some (.int .i64 3) ∧ X.cell? ⟨w.heap.size + 1, 1, none⟩ = some (.int .i64 t.num) ∧ X.cell? ⟨w.heap.size + 1, 2, none⟩ = some (.string t.name) ∧ X.cell? ⟨w.heap.size + 1, 3, none⟩ = some (.slice A LN cap) ∧ wR.grownBy X v.ownBlock) := Lib.hid (fun X h => by
      have hwb := HXR.out.wb
      have htb := HXR.out.tb
      have hc : ∀ k j, w.heap.size ≤ k → k < wR.heap.size → X.cell? ⟨k, j, none⟩ = wR.cell? ⟨k, j, none⟩ := fun k j h1 h2 => gro_cell h _ h2 (fun e => by have := HVLT.out k e; omega)
      have h3 := htb.c3
      rw [← HL.out] at h3
      have hi2 := hwb.c2
      have _ := hi2
      have ht0 := htb.c0
      rw [HKK.out] at ht0
      exact ⟨(hc _ _ (by omega) hwb.lt).trans hwb.c0, (hc _ _ (by omega) hwb.lt).trans hwb.c1, (hc _ _ (by omega) hwb.lt).trans hi2, (hc _ _ (by omega) hwb.lt).trans hwb.c3, (hc _ _ (by omega) htb.lt).trans ht0, (hc _ _ (by omega) htb.lt).trans htb.c1, (hc _ _ (by omega) htb.lt).trans htb.c2, (hc _ _ (by omega) htb.lt).trans h3, h⟩)
    have HBG : Hid (∀ X, wR.grownBy X v.ownBlock → Below w0.heap.size w0 X) := Lib.hid (fun X h => (HB0.out _ hbR).grown h (HB0.out _ hbR).size (fun k hk => (HOO.out.low hk).1))
    have HFG : Hid (∀ X, wR.grownBy X v.ownBlock → w.grownBy X v.ownBlock) := Lib.hid (fun X h => bel_grown hbR h)
    have HFA : Hid (∀ v', AtB wR v v' → AtB w v v') := Lib.hid (fun v' h => h.imp id fun ⟨k, h1, h2⟩ => ⟨k, h1, Nat.le_trans hbR.size h2⟩)
    have hs0R := (HB0.out _ hbR).size
    have GD0 := Lib.hid (GW.out.bel (Below.refl _ _).drew)
    have GD1 := Lib.hid ((GW.out.bel ((Below.refl _ _).alloc (Nat.le_refl _) (.cells #[.string ⟨#[41]⟩] 9))).bel (Below.refl _ _).drew)
    have hwl := hbR.size
    clear HHR HB0 HOO HXR HOB hlR
    go_region_held3 (fun X => X.cell? ⟨w.heap.size, 0, none⟩ = some (.slice TA TN TC) ∧ X.cell? ⟨w.heap.size, 1, none⟩ = some (.bool o.q) ∧ X.cell? ⟨w.heap.size, 2, none⟩ = some (.bool o.ig) ∧ X.cell? ⟨w.heap.size, 3, none⟩ = some (.bool o.nu) ∧ X.cell? ⟨w.heap.size + 1, 0, none⟩ = some (.int .i64 3) ∧ X.cell? ⟨w.heap.size + 1, 1, none⟩ = some (.int .i64 t.num) ∧ X.cell? ⟨w.heap.size + 1, 2, none⟩ = some (.string t.name) ∧ X.cell? ⟨w.heap.size + 1, 3, none⟩ = some (.slice A LN cap) ∧ wR.grownBy X v.ownBlock)
      (first
        | with_reducible exact HKP.out _ h8g
        | with_reducible exact HKP.out _ h7g
        | with_reducible exact HKP.out _ h6g
        | with_reducible exact HKP.out _ h4g
        | exact HKP.out _ GD0.out.gro
        | with_reducible exact HKP.out _ (grown_bel h7g ((Below.refl _ _).alloc (Nat.le_refl _) _))
        | with_reducible exact HKP.out _ (grown_bel h6g ((Below.refl _ _).alloc (Nat.le_refl _) _))
        | with_reducible exact HKP.out _ (grown_bel h4g ((Below.refl _ _).alloc (Nat.le_refl _) _))
        | with_reducible exact HKP.out _ (grown_bel (grown_bel h4g ((Below.refl _ _).alloc (Nat.le_refl _) _)) ((Below.refl _ _).alloc (Nat.le_refl _) _))
        | with_reducible exact HKP.out _ (grown_bel (grown_self _ _) (((Below.refl _ _).alloc (Nat.le_refl _) _).drew))
        | exact HKP.out _ (grown_bel (grown_bel (grown_self _ _) ((Below.refl _ _).alloc (Nat.le_refl _) _)) (((Below.refl _ _).alloc (Nat.le_refl _) _).drew))
        | fail)
      (first
        | (go_at_call 87; (with_reducible refine (HNM2.out wR.drew).mono ?_); rintro e w4 ⟨rfl, hB4⟩; have G4 := Lib.hid (GD0.out.bel hB4); have G4' := Lib.hid ((Gro.start GD0.out.own).bel hB4); have h4g := G4.out.gro; have h4s : wR.heap.size ≤ w4.heap.size := Nat.le_trans GD0.out.gro.size hB4.size)
        | (go_at_call 87; (with_reducible refine (HNM2.out (wR.alloc (.cells #[.string ⟨#[41]⟩] 9)).drew).mono ?_); rintro e w4 ⟨rfl, hB4⟩; have G4 := Lib.hid (GD1.out.bel hB4); have G4' := Lib.hid ((Gro.start GD1.out.own).bel hB4); have h4g := G4.out.gro; have h4s : wR.heap.size ≤ w4.heap.size := Nat.le_trans GD1.out.gro.size hB4.size)
        | (have GA := ((G4.out.bel ((Below.refl _ _).alloc (Nat.le_refl _) (.cells #[.string nm, .string ⟨#[40]⟩] 9)))); have GA' := ((G4'.out.bel ((Below.refl _ _).alloc (Nat.le_refl _) (.cells #[.string nm, .string ⟨#[40]⟩] 9)))); have hsA : w0.heap.size ≤ (w4.alloc (.cells #[.string nm, .string ⟨#[40]⟩] 9)).heap.size := Nat.le_trans hs0R GA.gro.size; have hnA : ∀ j u, ([nm, ⟨#[40]⟩].map Value.string)[j]? = some u → (w4.alloc (.cells #[.string nm, .string ⟨#[40]⟩] 9)).cell? ((⟨w4.heap.size, 0, none⟩ : Addr).add j) = some u := (World.news_of_block (heap_alloc_new w4 (.cells #[.string nm, .string ⟨#[40]⟩] 9))); refine step_append_lies _ (by rfl) _ _ 28 (by rfl) w0.heap.size 9 i _ 1 16 Tryz.underlying28 HI.out HZ0.out HZ1.out HZ2.out (by rfl) (by decide) v xs.length (xs.map Value.string) (by rfl) GA.own ⟨w4.heap.size, 0, none⟩ 2 2 ([nm, ⟨#[40]⟩].map Value.string) (by rfl) (by rfl) hnA (strs_one _) (by decide) (by unfold maxLen; omega) (by omega) hsA (w4.heap.size + 1) (by simp) ?_; intro g6 c6 w6 hown6 hg6 hat6 hlt6; have G6 := Lib.hid (GA.app (m := 2) (ys := [nm, ⟨#[40]⟩]) rfl rfl hown6 hg6 (by simp) hat6); have G6' := Lib.hid (GA'.app (m := 2) (ys := [nm, ⟨#[40]⟩]) rfl rfl hown6 hg6 (by simp) hat6); have h6g := G6.out.gro; have hne6 : (Value.slice (some ⟨g6, 0, none⟩) (xs.length + 2) c6).ownBlock ≠ some w6.heap.size := (fun e => absurd (Option.some.inj e) (Nat.ne_of_lt hlt6)))
        | (have GA := ((G4.out.bel ((Below.refl _ _).alloc (Nat.le_refl _) (.cells #[.string ⟨#[41]⟩] 9))).bel ((Below.refl _ _).alloc (Nat.le_refl _) (.cells #[.string nm, .string ⟨#[40]⟩] 9))); have GA' := Gro.start GA.own; have hsA : w0.heap.size ≤ ((w4.alloc (.cells #[.string ⟨#[41]⟩] 9)).alloc (.cells #[.string nm, .string ⟨#[40]⟩] 9)).heap.size := Nat.le_trans hs0R GA.gro.size; have hnA : ∀ j u, ([nm, ⟨#[40]⟩].map Value.string)[j]? = some u → ((w4.alloc (.cells #[.string ⟨#[41]⟩] 9)).alloc (.cells #[.string nm, .string ⟨#[40]⟩] 9)).cell? ((⟨(w4.heap.size + 1), 0, none⟩ : Addr).add j) = some u := (by have h := World.news_of_block (heap_alloc_new (w4.alloc (.cells #[.string ⟨#[41]⟩] 9)) (.cells #[.string nm, .string ⟨#[40]⟩] 9)); rw [show (w4.alloc (.cells #[.string ⟨#[41]⟩] 9)).heap.size = w4.heap.size + 1 by simp] at h; exact h); refine step_append_lies _ (by rfl) _ _ 28 (by rfl) w0.heap.size 9 i _ 1 16 Tryz.underlying28 HI.out HZ0.out HZ1.out HZ2.out (by rfl) (by decide) v xs.length (xs.map Value.string) (by rfl) GA.own ⟨(w4.heap.size + 1), 0, none⟩ 2 2 ([nm, ⟨#[40]⟩].map Value.string) (by rfl) (by rfl) hnA (strs_one _) (by decide) (by unfold maxLen; omega) (by omega) hsA (w4.heap.size + 1 + 1) (by simp) ?_; intro g6 c6 w6 hown6 hg6 hat6 hlt6; have G6 := Lib.hid (GA.app (m := 2) (ys := [nm, ⟨#[40]⟩]) rfl rfl hown6 hg6 (by simp) hat6); have G6' := Lib.hid (GA'.app (m := 2) (ys := [nm, ⟨#[40]⟩]) rfl rfl hown6 hg6 (by simp) hat6); have h6g := G6.out.gro; have hne6 : (Value.slice (some ⟨g6, 0, none⟩) (xs.length + 2) c6).ownBlock ≠ some w6.heap.size := (fun e => absurd (Option.some.inj e) (Nat.ne_of_lt hlt6)))
        | (have GA := ((G4.out.bel ((Below.refl _ _).alloc (Nat.le_refl _) (.cells #[.string nm, .string ⟨#[40]⟩] 9))).bel ((Below.refl _ _).alloc (Nat.le_refl _) (.cells #[.string ⟨#[41]⟩] 9))); have GA' := Gro.start GA.own; have hsA : w0.heap.size ≤ ((w4.alloc (.cells #[.string nm, .string ⟨#[40]⟩] 9)).alloc (.cells #[.string ⟨#[41]⟩] 9)).heap.size := Nat.le_trans hs0R GA.gro.size; have hnA : ∀ j u, ([nm, ⟨#[40]⟩].map Value.string)[j]? = some u → ((w4.alloc (.cells #[.string nm, .string ⟨#[40]⟩] 9)).alloc (.cells #[.string ⟨#[41]⟩] 9)).cell? ((⟨w4.heap.size, 0, none⟩ : Addr).add j) = some u := (World.news_of_block ((Below.heap_alloc (w4.alloc (.cells #[.string nm, .string ⟨#[40]⟩] 9)) (.cells #[.string ⟨#[41]⟩] 9) w4.heap.size (by simp)).trans (heap_alloc_new w4 (.cells #[.string nm, .string ⟨#[40]⟩] 9)))); refine step_append_lies _ (by rfl) _ _ 28 (by rfl) w0.heap.size 9 i _ 1 16 Tryz.underlying28 HI.out HZ0.out HZ1.out HZ2.out (by rfl) (by decide) v xs.length (xs.map Value.string) (by rfl) GA.own ⟨w4.heap.size, 0, none⟩ 2 2 ([nm, ⟨#[40]⟩].map Value.string) (by rfl) (by rfl) hnA (strs_one _) (by decide) (by unfold maxLen; omega) (by omega) hsA (w4.heap.size + 1 + 1) (by simp) ?_; intro g6 c6 w6 hown6 hg6 hat6 hlt6; have G6 := Lib.hid (GA.app (m := 2) (ys := [nm, ⟨#[40]⟩]) rfl rfl hown6 hg6 (by simp) hat6); have G6' := Lib.hid (GA'.app (m := 2) (ys := [nm, ⟨#[40]⟩]) rfl rfl hown6 hg6 (by simp) hat6); have h6g := G6.out.gro; have hne6 : (Value.slice (some ⟨g6, 0, none⟩) (xs.length + 2) c6).ownBlock ≠ some w6.heap.size := (fun e => absurd (Option.some.inj e) (Nat.ne_of_lt hlt6)))
        | (go_at_call 91; (with_reducible refine (HROW.out w6 _ (HBG.out _ G6.out.gro) (HRA.out.gro G6.out.gro G6.out.atb) G6.out.own).mono ?_); rintro e w7 ⟨v7, rfl, hO7, hg7, ha7⟩; have G7 := Lib.hid (G6.out.step hO7 hg7 ha7); have G7' := Lib.hid (G6'.out.step hO7 hg7 ha7); have h7g := G7.out.gro; rw [← HZ7.out] at G7 G7')
        | (go_at_call 91; have GE := Lib.hid (G6.out.bel ((Below.refl _ _).alloc (Nat.le_refl _) (.cells #[.string ⟨#[41]⟩] 9))); have GE' := Lib.hid (G6'.out.bel ((Below.refl _ _).alloc (Nat.le_refl _) (.cells #[.string ⟨#[41]⟩] 9))); (with_reducible refine (HROW.out (w6.alloc (.cells #[.string ⟨#[41]⟩] 9)) _ (HBG.out _ GE.out.gro) (HRA.out.gro GE.out.gro GE.out.atb) GE.out.own).mono ?_); rintro e w7 ⟨v7, rfl, hO7, hg7, ha7⟩; have G7 := Lib.hid (GE.out.step hO7 hg7 ha7); have G7' := Lib.hid (GE'.out.step hO7 hg7 ha7); have h7g := G7.out.gro; rw [← HZ7.out] at G7 G7')
        | (have hs7 : w0.heap.size ≤ w7.heap.size := Nat.le_trans hs0R G7.out.gro.size; have hne : v.ownBlock ≠ some wR.heap.size := (fun e => by have := HVLT.out _ e; omega); have hnews : ∀ j u, ([⟨#[41]⟩].map Value.string)[j]? = some u → w7.cell? ((⟨wR.heap.size, 0, none⟩ : Addr).add j) = some u := World.news_of_block ((G7'.out.gro.block wR.heap.size (by simp <;> omega) (fun e => hne e.symm)).trans (heap_alloc_new wR (.cells #[.string ⟨#[41]⟩] 9))); refine step_append_lies _ (by rfl) _ _ 28 (by rfl) w0.heap.size 9 i _ 1 16 Tryz.underlying28 HI.out HZ0.out HZ1.out HZ2.out (by rfl) (by decide) v7 Z7.length (Z7.map Value.string) (by rfl) G7.out.own ⟨wR.heap.size, 0, none⟩ 1 1 ([⟨#[41]⟩].map Value.string) (by rfl) (by rfl) hnews (strs_one _) (by decide) (by unfold maxLen; omega) (by omega) hs7 w7.heap.size rfl ?_; intro g8 c8 w8 hown8 hg8 hat8 hlt8; have G8 := Lib.hid (G7.out.app (n := Z7.length) (m := 1) (ys := [⟨#[41]⟩]) rfl rfl hown8 hg8 rfl hat8); have h8g := G8.out.gro)
        | (have hs7 : w0.heap.size ≤ w7.heap.size := Nat.le_trans hs0R G7.out.gro.size; have hne : v.ownBlock ≠ some w4.heap.size := (fun e => by have := HVLT.out _ e; omega); have hnews : ∀ j u, ([⟨#[41]⟩].map Value.string)[j]? = some u → w7.cell? ((⟨w4.heap.size, 0, none⟩ : Addr).add j) = some u := World.news_of_block ((G7'.out.gro.block w4.heap.size (by simp <;> omega) (fun e => hne e.symm)).trans ((Below.heap_alloc (w4.alloc (.cells #[.string ⟨#[41]⟩] 9)) (.cells #[.string nm, .string ⟨#[40]⟩] 9) w4.heap.size (by simp)).trans (heap_alloc_new w4 (.cells #[.string ⟨#[41]⟩] 9)))); refine step_append_lies _ (by rfl) _ _ 28 (by rfl) w0.heap.size 9 i _ 1 16 Tryz.underlying28 HI.out HZ0.out HZ1.out HZ2.out (by rfl) (by decide) v7 Z7.length (Z7.map Value.string) (by rfl) G7.out.own ⟨w4.heap.size, 0, none⟩ 1 1 ([⟨#[41]⟩].map Value.string) (by rfl) (by rfl) hnews (strs_one _) (by decide) (by unfold maxLen; omega) (by omega) hs7 w7.heap.size rfl ?_; intro g8 c8 w8 hown8 hg8 hat8 hlt8; have G8 := Lib.hid (G7.out.app (n := Z7.length) (m := 1) (ys := [⟨#[41]⟩]) rfl rfl hown8 hg8 rfl hat8); have h8g := G8.out.gro)
        | (have hs7 : w0.heap.size ≤ w7.heap.size := Nat.le_trans hs0R G7.out.gro.size; have hne : v.ownBlock ≠ some (w4.heap.size + 1) := (fun e => by have := HVLT.out _ e; omega); have hnews : ∀ j u, ([⟨#[41]⟩].map Value.string)[j]? = some u → w7.cell? ((⟨(w4.heap.size + 1), 0, none⟩ : Addr).add j) = some u := World.news_of_block ((G7'.out.gro.block (w4.heap.size + 1) (by simp <;> omega) (fun e => hne e.symm)).trans (by have h := heap_alloc_new (w4.alloc (.cells #[.string nm, .string ⟨#[40]⟩] 9)) (.cells #[.string ⟨#[41]⟩] 9); rw [show (w4.alloc (.cells #[.string nm, .string ⟨#[40]⟩] 9)).heap.size = w4.heap.size + 1 by simp] at h; exact h)); refine step_append_lies _ (by rfl) _ _ 28 (by rfl) w0.heap.size 9 i _ 1 16 Tryz.underlying28 HI.out HZ0.out HZ1.out HZ2.out (by rfl) (by decide) v7 Z7.length (Z7.map Value.string) (by rfl) G7.out.own ⟨(w4.heap.size + 1), 0, none⟩ 1 1 ([⟨#[41]⟩].map Value.string) (by rfl) (by rfl) hnews (strs_one _) (by decide) (by unfold maxLen; omega) (by omega) hs7 w7.heap.size rfl ?_; intro g8 c8 w8 hown8 hg8 hat8 hlt8; have G8 := Lib.hid (G7.out.app (n := Z7.length) (m := 1) (ys := [⟨#[41]⟩]) rfl rfl hown8 hg8 rfl hat8); have h8g := G8.out.gro)
        | (have hs7 : w0.heap.size ≤ w7.heap.size := Nat.le_trans hs0R G7.out.gro.size; have hnews : ∀ j u, ([⟨#[41]⟩].map Value.string)[j]? = some u → w7.cell? ((⟨w6.heap.size, 0, none⟩ : Addr).add j) = some u := World.news_of_block ((hg7.block w6.heap.size (by simp) (fun e => hne6 e.symm)).trans (heap_alloc_new w6 (.cells #[.string ⟨#[41]⟩] 9))); refine step_append_lies _ (by rfl) _ _ 28 (by rfl) w0.heap.size 9 i _ 1 16 Tryz.underlying28 HI.out HZ0.out HZ1.out HZ2.out (by rfl) (by decide) v7 Z7.length (Z7.map Value.string) (by rfl) G7.out.own ⟨w6.heap.size, 0, none⟩ 1 1 ([⟨#[41]⟩].map Value.string) (by rfl) (by rfl) hnews (strs_one _) (by decide) (by unfold maxLen; omega) (by omega) hs7 w7.heap.size rfl ?_; intro g8 c8 w8 hown8 hg8 hat8 hlt8; have G8 := Lib.hid (G7.out.app (n := Z7.length) (m := 1) (ys := [⟨#[41]⟩]) rfl rfl hown8 hg8 rfl hat8); have h8g := G8.out.gro)
        | (have G7a := G7.out.bel ((Below.refl _ _).alloc (Nat.le_refl _) (.cells #[.string ⟨#[41]⟩] 9)); have hs7 : w0.heap.size ≤ (w7.alloc (.cells #[.string ⟨#[41]⟩] 9)).heap.size := Nat.le_trans hs0R G7a.gro.size; have hnews : ∀ j u, ([⟨#[41]⟩].map Value.string)[j]? = some u → (w7.alloc (.cells #[.string ⟨#[41]⟩] 9)).cell? ((⟨w7.heap.size, 0, none⟩ : Addr).add j) = some u := World.news_of_block (heap_alloc_new w7 (.cells #[.string ⟨#[41]⟩] 9)); refine step_append_lies _ (by rfl) _ _ 28 (by rfl) w0.heap.size 9 i _ 1 16 Tryz.underlying28 HI.out HZ0.out HZ1.out HZ2.out (by rfl) (by decide) v7 Z7.length (Z7.map Value.string) (by rfl) G7a.own ⟨w7.heap.size, 0, none⟩ 1 1 ([⟨#[41]⟩].map Value.string) (by rfl) (by rfl) hnews (strs_one _) (by decide) (by unfold maxLen; omega) (by omega) hs7 (w7.heap.size + 1) (by simp) ?_; intro g8 c8 w8 hown8 hg8 hat8 hlt8; have G8 := Lib.hid (G7a.app (n := Z7.length) (m := 1) (ys := [⟨#[41]⟩]) rfl rfl hown8 hg8 (by simp) hat8); have h8g := G8.out.gro)
        | fail)
    all_goals
      go_wp2_with fail
      go_ret
      exact ⟨_, rfl, G8.out.own, HFG.out _ G8.out.gro, HFA.out _ G8.out.atb⟩
  · have hw1b : (t.name.toList == [123, 125]) = true := by rw [hw1]; rfl
    have hw3 : ¬ t.name.toList = [46] := by rw [hw1]; decide
    have hw3b : (t.name.toList == [46]) = false := by rw [hw1]; rfl
    have HIG := Lib.hid hw2
    rw [hw2] at HX HBX HG0 HNUM HOPR HNM2 HROW ⊢
    clear hw2
    go_enter Tryz.func59, Tryz.ntmps59
    go_wp2_with fail
    refine (HNUM.out _ HBX).mono ?_; rintro e w1 ⟨rfl, hB1⟩
    have HX1 := Lib.hid (HX.out.call hB1)
    have y0 := HX1.out.wb.c0
    have y1 := HX1.out.wb.c1
    have y2 := HX1.out.wb.c2
    have y3 := HX1.out.wb.c3
    have z0 := HX1.out.tb.c0
    have z1 := HX1.out.tb.c1
    have z2 := HX1.out.tb.c2
    have z3 := HX1.out.tb.c3
    rw [← HL.out] at z3
    rw [HKK.out] at z0
    rw [HIG.out] at y2
    have hb1 := HX1.out.bel
    have GW1 := Lib.hid (HG0.out.bel hB1)
    clear HX HG0 HBX HNUM hB1
    go_wp2_with fail
    refine (HOPR.out _ hb1).mono ?_; rintro e w2 ⟨rfl, hB2⟩
    have hB2a := hB2.alloc hB2.size (.cells #[.string p.name, .int .i64 p.typ, .int .i64 p.prec] 80)
    have HXR := Lib.hid (HX1.out.call hB2a)
    have GW := Lib.hid (Gro.start (GW1.out.bel hB2a).own)
    have hbR := HXR.out.bel
    have HOB := Lib.hid ((BoxG.start w2 p 80))
    clear y0 y1 y2 y3 z0 z1 z2 z3 HX1 HOPR hB2 hB2a GW1 hb1
    go_upto_region 19 with fail
    have hlR : w2.heap.size + 1 = (w2.alloc (.cells #[.string p.name, .int .i64 p.typ, .int .i64 p.prec] 80)).heap.size := by simp
    generalize w2.alloc (.cells #[.string p.name, .int .i64 p.typ, .int .i64 p.prec] 80) = wR at *
    have HRA := Lib.hid (HHR.out wR hbR)
    have HKP : Hid (∀ X, wR.grownBy X v.ownBlock → X.cell? ⟨w.heap.size, 0, none⟩ = some (.slice TA TN TC) ∧ X.cell? ⟨w.heap.size, 1, none⟩ = some (.bool o.q) ∧ X.cell? ⟨w.heap.size, 2, none⟩ = some (.bool true) ∧ X.cell? ⟨w.heap.size, 3, none⟩ = some (.bool o.nu) ∧ X.cell? ⟨w.heap.size + 1, 0, none⟩ = some (.int .i64 3) ∧ X.cell? ⟨w.heap.size + 1, 1, none⟩ = some (.int .i64 t.num) ∧ X.cell? ⟨w.heap.size + 1, 2, none⟩ = some (.string t.name) ∧ X.cell? ⟨w.heap.size + 1, 3, none⟩ = some (.slice A 1 cap) ∧ wR.grownBy X v.ownBlock) := Lib.hid (fun X h => by
      have hwb := HXR.out.wb
      have htb := HXR.out.tb
      have hc : ∀ k j, w.heap.size ≤ k → k < wR.heap.size → X.cell? ⟨k, j, none⟩ = wR.cell? ⟨k, j, none⟩ := fun k j h1 h2 => gro_cell h _ h2 (fun e => by have := HVLT.out k e; omega)
      have h3 := htb.c3
      rw [← HL.out] at h3
      have hi2 := hwb.c2
      rw [HIG.out] at hi2
      have ht0 := htb.c0
      rw [HKK.out] at ht0
      exact ⟨(hc _ _ (by omega) hwb.lt).trans hwb.c0, (hc _ _ (by omega) hwb.lt).trans hwb.c1, (hc _ _ (by omega) hwb.lt).trans hi2, (hc _ _ (by omega) hwb.lt).trans hwb.c3, (hc _ _ (by omega) htb.lt).trans ht0, (hc _ _ (by omega) htb.lt).trans htb.c1, (hc _ _ (by omega) htb.lt).trans htb.c2, (hc _ _ (by omega) htb.lt).trans h3, h⟩)
    have HBG : Hid (∀ X, wR.grownBy X v.ownBlock → Below w0.heap.size w0 X) := Lib.hid (fun X h => (HB0.out _ hbR).grown h (HB0.out _ hbR).size (fun k hk => (HOO.out.low hk).1))
    have HFG : Hid (∀ X, wR.grownBy X v.ownBlock → w.grownBy X v.ownBlock) := Lib.hid (fun X h => bel_grown hbR h)
    have HFA : Hid (∀ v', AtB wR v v' → AtB w v v') := Lib.hid (fun v' h => h.imp id fun ⟨k, h1, h2⟩ => ⟨k, h1, Nat.le_trans hbR.size h2⟩)
    have hs0R := (HB0.out _ hbR).size
    have GD0 := Lib.hid (GW.out.bel (Below.refl _ _).drew)
    have GD1 := Lib.hid ((GW.out.bel ((Below.refl _ _).alloc (Nat.le_refl _) (.cells #[.string ⟨#[41]⟩] 9))).bel (Below.refl _ _).drew)
    have hwl := hbR.size
    clear HHR HB0 HOO HXR HOB hlR
    go_region_held3 (fun X => X.cell? ⟨w.heap.size, 0, none⟩ = some (.slice TA TN TC) ∧ X.cell? ⟨w.heap.size, 1, none⟩ = some (.bool o.q) ∧ X.cell? ⟨w.heap.size, 2, none⟩ = some (.bool true) ∧ X.cell? ⟨w.heap.size, 3, none⟩ = some (.bool o.nu) ∧ X.cell? ⟨w.heap.size + 1, 0, none⟩ = some (.int .i64 3) ∧ X.cell? ⟨w.heap.size + 1, 1, none⟩ = some (.int .i64 t.num) ∧ X.cell? ⟨w.heap.size + 1, 2, none⟩ = some (.string t.name) ∧ X.cell? ⟨w.heap.size + 1, 3, none⟩ = some (.slice A 1 cap) ∧ wR.grownBy X v.ownBlock)
      (first
        | with_reducible exact HKP.out _ h8g
        | with_reducible exact HKP.out _ h7g
        | with_reducible exact HKP.out _ h6g
        | with_reducible exact HKP.out _ h4g
        | exact HKP.out _ GD0.out.gro
        | with_reducible exact HKP.out _ (grown_bel h7g ((Below.refl _ _).alloc (Nat.le_refl _) _))
        | with_reducible exact HKP.out _ (grown_bel h6g ((Below.refl _ _).alloc (Nat.le_refl _) _))
        | with_reducible exact HKP.out _ (grown_bel h4g ((Below.refl _ _).alloc (Nat.le_refl _) _))
        | with_reducible exact HKP.out _ (grown_bel (grown_bel h4g ((Below.refl _ _).alloc (Nat.le_refl _) _)) ((Below.refl _ _).alloc (Nat.le_refl _) _))
        | with_reducible exact HKP.out _ (grown_bel (grown_self _ _) (((Below.refl _ _).alloc (Nat.le_refl _) _).drew))
        | exact HKP.out _ (grown_bel (grown_bel (grown_self _ _) ((Below.refl _ _).alloc (Nat.le_refl _) _)) (((Below.refl _ _).alloc (Nat.le_refl _) _).drew))
        | fail)
      (first
        | (go_at_call 87; (with_reducible refine (HNM2.out wR.drew).mono ?_); rintro e w4 ⟨rfl, hB4⟩; have G4 := Lib.hid (GD0.out.bel hB4); have G4' := Lib.hid ((Gro.start GD0.out.own).bel hB4); have h4g := G4.out.gro; have h4s : wR.heap.size ≤ w4.heap.size := Nat.le_trans GD0.out.gro.size hB4.size)
        | (go_at_call 87; (with_reducible refine (HNM2.out (wR.alloc (.cells #[.string ⟨#[41]⟩] 9)).drew).mono ?_); rintro e w4 ⟨rfl, hB4⟩; have G4 := Lib.hid (GD1.out.bel hB4); have G4' := Lib.hid ((Gro.start GD1.out.own).bel hB4); have h4g := G4.out.gro; have h4s : wR.heap.size ≤ w4.heap.size := Nat.le_trans GD1.out.gro.size hB4.size)
        | (have GA := ((G4.out.bel ((Below.refl _ _).alloc (Nat.le_refl _) (.cells #[.string nm, .string ⟨#[40]⟩] 9)))); have GA' := ((G4'.out.bel ((Below.refl _ _).alloc (Nat.le_refl _) (.cells #[.string nm, .string ⟨#[40]⟩] 9)))); have hsA : w0.heap.size ≤ (w4.alloc (.cells #[.string nm, .string ⟨#[40]⟩] 9)).heap.size := Nat.le_trans hs0R GA.gro.size; have hnA : ∀ j u, ([nm, ⟨#[40]⟩].map Value.string)[j]? = some u → (w4.alloc (.cells #[.string nm, .string ⟨#[40]⟩] 9)).cell? ((⟨w4.heap.size, 0, none⟩ : Addr).add j) = some u := (World.news_of_block (heap_alloc_new w4 (.cells #[.string nm, .string ⟨#[40]⟩] 9))); refine step_append_lies _ (by rfl) _ _ 28 (by rfl) w0.heap.size 9 i _ 1 16 Tryz.underlying28 HI.out HZ0.out HZ1.out HZ2.out (by rfl) (by decide) v xs.length (xs.map Value.string) (by rfl) GA.own ⟨w4.heap.size, 0, none⟩ 2 2 ([nm, ⟨#[40]⟩].map Value.string) (by rfl) (by rfl) hnA (strs_one _) (by decide) (by unfold maxLen; omega) (by omega) hsA (w4.heap.size + 1) (by simp) ?_; intro g6 c6 w6 hown6 hg6 hat6 hlt6; have G6 := Lib.hid (GA.app (m := 2) (ys := [nm, ⟨#[40]⟩]) rfl rfl hown6 hg6 (by simp) hat6); have G6' := Lib.hid (GA'.app (m := 2) (ys := [nm, ⟨#[40]⟩]) rfl rfl hown6 hg6 (by simp) hat6); have h6g := G6.out.gro; have hne6 : (Value.slice (some ⟨g6, 0, none⟩) (xs.length + 2) c6).ownBlock ≠ some w6.heap.size := (fun e => absurd (Option.some.inj e) (Nat.ne_of_lt hlt6)))
        | (have GA := ((G4.out.bel ((Below.refl _ _).alloc (Nat.le_refl _) (.cells #[.string ⟨#[41]⟩] 9))).bel ((Below.refl _ _).alloc (Nat.le_refl _) (.cells #[.string nm, .string ⟨#[40]⟩] 9))); have GA' := Gro.start GA.own; have hsA : w0.heap.size ≤ ((w4.alloc (.cells #[.string ⟨#[41]⟩] 9)).alloc (.cells #[.string nm, .string ⟨#[40]⟩] 9)).heap.size := Nat.le_trans hs0R GA.gro.size; have hnA : ∀ j u, ([nm, ⟨#[40]⟩].map Value.string)[j]? = some u → ((w4.alloc (.cells #[.string ⟨#[41]⟩] 9)).alloc (.cells #[.string nm, .string ⟨#[40]⟩] 9)).cell? ((⟨(w4.heap.size + 1), 0, none⟩ : Addr).add j) = some u := (by have h := World.news_of_block (heap_alloc_new (w4.alloc (.cells #[.string ⟨#[41]⟩] 9)) (.cells #[.string nm, .string ⟨#[40]⟩] 9)); rw [show (w4.alloc (.cells #[.string ⟨#[41]⟩] 9)).heap.size = w4.heap.size + 1 by simp] at h; exact h); refine step_append_lies _ (by rfl) _ _ 28 (by rfl) w0.heap.size 9 i _ 1 16 Tryz.underlying28 HI.out HZ0.out HZ1.out HZ2.out (by rfl) (by decide) v xs.length (xs.map Value.string) (by rfl) GA.own ⟨(w4.heap.size + 1), 0, none⟩ 2 2 ([nm, ⟨#[40]⟩].map Value.string) (by rfl) (by rfl) hnA (strs_one _) (by decide) (by unfold maxLen; omega) (by omega) hsA (w4.heap.size + 1 + 1) (by simp) ?_; intro g6 c6 w6 hown6 hg6 hat6 hlt6; have G6 := Lib.hid (GA.app (m := 2) (ys := [nm, ⟨#[40]⟩]) rfl rfl hown6 hg6 (by simp) hat6); have G6' := Lib.hid (GA'.app (m := 2) (ys := [nm, ⟨#[40]⟩]) rfl rfl hown6 hg6 (by simp) hat6); have h6g := G6.out.gro; have hne6 : (Value.slice (some ⟨g6, 0, none⟩) (xs.length + 2) c6).ownBlock ≠ some w6.heap.size := (fun e => absurd (Option.some.inj e) (Nat.ne_of_lt hlt6)))
        | (have GA := ((G4.out.bel ((Below.refl _ _).alloc (Nat.le_refl _) (.cells #[.string nm, .string ⟨#[40]⟩] 9))).bel ((Below.refl _ _).alloc (Nat.le_refl _) (.cells #[.string ⟨#[41]⟩] 9))); have GA' := Gro.start GA.own; have hsA : w0.heap.size ≤ ((w4.alloc (.cells #[.string nm, .string ⟨#[40]⟩] 9)).alloc (.cells #[.string ⟨#[41]⟩] 9)).heap.size := Nat.le_trans hs0R GA.gro.size; have hnA : ∀ j u, ([nm, ⟨#[40]⟩].map Value.string)[j]? = some u → ((w4.alloc (.cells #[.string nm, .string ⟨#[40]⟩] 9)).alloc (.cells #[.string ⟨#[41]⟩] 9)).cell? ((⟨w4.heap.size, 0, none⟩ : Addr).add j) = some u := (World.news_of_block ((Below.heap_alloc (w4.alloc (.cells #[.string nm, .string ⟨#[40]⟩] 9)) (.cells #[.string ⟨#[41]⟩] 9) w4.heap.size (by simp)).trans (heap_alloc_new w4 (.cells #[.string nm, .string ⟨#[40]⟩] 9)))); refine step_append_lies _ (by rfl) _ _ 28 (by rfl) w0.heap.size 9 i _ 1 16 Tryz.underlying28 HI.out HZ0.out HZ1.out HZ2.out (by rfl) (by decide) v xs.length (xs.map Value.string) (by rfl) GA.own ⟨w4.heap.size, 0, none⟩ 2 2 ([nm, ⟨#[40]⟩].map Value.string) (by rfl) (by rfl) hnA (strs_one _) (by decide) (by unfold maxLen; omega) (by omega) hsA (w4.heap.size + 1 + 1) (by simp) ?_; intro g6 c6 w6 hown6 hg6 hat6 hlt6; have G6 := Lib.hid (GA.app (m := 2) (ys := [nm, ⟨#[40]⟩]) rfl rfl hown6 hg6 (by simp) hat6); have G6' := Lib.hid (GA'.app (m := 2) (ys := [nm, ⟨#[40]⟩]) rfl rfl hown6 hg6 (by simp) hat6); have h6g := G6.out.gro; have hne6 : (Value.slice (some ⟨g6, 0, none⟩) (xs.length + 2) c6).ownBlock ≠ some w6.heap.size := (fun e => absurd (Option.some.inj e) (Nat.ne_of_lt hlt6)))
        | (go_at_call 91; (with_reducible refine (HROW.out w6 _ (HBG.out _ G6.out.gro) (HRA.out.gro G6.out.gro G6.out.atb) G6.out.own).mono ?_); rintro e w7 ⟨v7, rfl, hO7, hg7, ha7⟩; have G7 := Lib.hid (G6.out.step hO7 hg7 ha7); have G7' := Lib.hid (G6'.out.step hO7 hg7 ha7); have h7g := G7.out.gro; rw [← HZ7.out] at G7 G7')
        | (go_at_call 91; have GE := Lib.hid (G6.out.bel ((Below.refl _ _).alloc (Nat.le_refl _) (.cells #[.string ⟨#[41]⟩] 9))); have GE' := Lib.hid (G6'.out.bel ((Below.refl _ _).alloc (Nat.le_refl _) (.cells #[.string ⟨#[41]⟩] 9))); (with_reducible refine (HROW.out (w6.alloc (.cells #[.string ⟨#[41]⟩] 9)) _ (HBG.out _ GE.out.gro) (HRA.out.gro GE.out.gro GE.out.atb) GE.out.own).mono ?_); rintro e w7 ⟨v7, rfl, hO7, hg7, ha7⟩; have G7 := Lib.hid (GE.out.step hO7 hg7 ha7); have G7' := Lib.hid (GE'.out.step hO7 hg7 ha7); have h7g := G7.out.gro; rw [← HZ7.out] at G7 G7')
        | (have hs7 : w0.heap.size ≤ w7.heap.size := Nat.le_trans hs0R G7.out.gro.size; have hne : v.ownBlock ≠ some wR.heap.size := (fun e => by have := HVLT.out _ e; omega); have hnews : ∀ j u, ([⟨#[41]⟩].map Value.string)[j]? = some u → w7.cell? ((⟨wR.heap.size, 0, none⟩ : Addr).add j) = some u := World.news_of_block ((G7'.out.gro.block wR.heap.size (by simp <;> omega) (fun e => hne e.symm)).trans (heap_alloc_new wR (.cells #[.string ⟨#[41]⟩] 9))); refine step_append_lies _ (by rfl) _ _ 28 (by rfl) w0.heap.size 9 i _ 1 16 Tryz.underlying28 HI.out HZ0.out HZ1.out HZ2.out (by rfl) (by decide) v7 Z7.length (Z7.map Value.string) (by rfl) G7.out.own ⟨wR.heap.size, 0, none⟩ 1 1 ([⟨#[41]⟩].map Value.string) (by rfl) (by rfl) hnews (strs_one _) (by decide) (by unfold maxLen; omega) (by omega) hs7 w7.heap.size rfl ?_; intro g8 c8 w8 hown8 hg8 hat8 hlt8; have G8 := Lib.hid (G7.out.app (n := Z7.length) (m := 1) (ys := [⟨#[41]⟩]) rfl rfl hown8 hg8 rfl hat8); have h8g := G8.out.gro)
        | (have hs7 : w0.heap.size ≤ w7.heap.size := Nat.le_trans hs0R G7.out.gro.size; have hne : v.ownBlock ≠ some w4.heap.size := (fun e => by have := HVLT.out _ e; omega); have hnews : ∀ j u, ([⟨#[41]⟩].map Value.string)[j]? = some u → w7.cell? ((⟨w4.heap.size, 0, none⟩ : Addr).add j) = some u := World.news_of_block ((G7'.out.gro.block w4.heap.size (by simp <;> omega) (fun e => hne e.symm)).trans ((Below.heap_alloc (w4.alloc (.cells #[.string ⟨#[41]⟩] 9)) (.cells #[.string nm, .string ⟨#[40]⟩] 9) w4.heap.size (by simp)).trans (heap_alloc_new w4 (.cells #[.string ⟨#[41]⟩] 9)))); refine step_append_lies _ (by rfl) _ _ 28 (by rfl) w0.heap.size 9 i _ 1 16 Tryz.underlying28 HI.out HZ0.out HZ1.out HZ2.out (by rfl) (by decide) v7 Z7.length (Z7.map Value.string) (by rfl) G7.out.own ⟨w4.heap.size, 0, none⟩ 1 1 ([⟨#[41]⟩].map Value.string) (by rfl) (by rfl) hnews (strs_one _) (by decide) (by unfold maxLen; omega) (by omega) hs7 w7.heap.size rfl ?_; intro g8 c8 w8 hown8 hg8 hat8 hlt8; have G8 := Lib.hid (G7.out.app (n := Z7.length) (m := 1) (ys := [⟨#[41]⟩]) rfl rfl hown8 hg8 rfl hat8); have h8g := G8.out.gro)
        | (have hs7 : w0.heap.size ≤ w7.heap.size := Nat.le_trans hs0R G7.out.gro.size; have hne : v.ownBlock ≠ some (w4.heap.size + 1) := (fun e => by have := HVLT.out _ e; omega); have hnews : ∀ j u, ([⟨#[41]⟩].map Value.string)[j]? = some u → w7.cell? ((⟨(w4.heap.size + 1), 0, none⟩ : Addr).add j) = some u := World.news_of_block ((G7'.out.gro.block (w4.heap.size + 1) (by simp <;> omega) (fun e => hne e.symm)).trans (by have h := heap_alloc_new (w4.alloc (.cells #[.string nm, .string ⟨#[40]⟩] 9)) (.cells #[.string ⟨#[41]⟩] 9); rw [show (w4.alloc (.cells #[.string nm, .string ⟨#[40]⟩] 9)).heap.size = w4.heap.size + 1 by simp] at h; exact h)); refine step_append_lies _ (by rfl) _ _ 28 (by rfl) w0.heap.size 9 i _ 1 16 Tryz.underlying28 HI.out HZ0.out HZ1.out HZ2.out (by rfl) (by decide) v7 Z7.length (Z7.map Value.string) (by rfl) G7.out.own ⟨(w4.heap.size + 1), 0, none⟩ 1 1 ([⟨#[41]⟩].map Value.string) (by rfl) (by rfl) hnews (strs_one _) (by decide) (by unfold maxLen; omega) (by omega) hs7 w7.heap.size rfl ?_; intro g8 c8 w8 hown8 hg8 hat8 hlt8; have G8 := Lib.hid (G7.out.app (n := Z7.length) (m := 1) (ys := [⟨#[41]⟩]) rfl rfl hown8 hg8 rfl hat8); have h8g := G8.out.gro)
        | (have hs7 : w0.heap.size ≤ w7.heap.size := Nat.le_trans hs0R G7.out.gro.size; have hnews : ∀ j u, ([⟨#[41]⟩].map Value.string)[j]? = some u → w7.cell? ((⟨w6.heap.size, 0, none⟩ : Addr).add j) = some u := World.news_of_block ((hg7.block w6.heap.size (by simp) (fun e => hne6 e.symm)).trans (heap_alloc_new w6 (.cells #[.string ⟨#[41]⟩] 9))); refine step_append_lies _ (by rfl) _ _ 28 (by rfl) w0.heap.size 9 i _ 1 16 Tryz.underlying28 HI.out HZ0.out HZ1.out HZ2.out (by rfl) (by decide) v7 Z7.length (Z7.map Value.string) (by rfl) G7.out.own ⟨w6.heap.size, 0, none⟩ 1 1 ([⟨#[41]⟩].map Value.string) (by rfl) (by rfl) hnews (strs_one _) (by decide) (by unfold maxLen; omega) (by omega) hs7 w7.heap.size rfl ?_; intro g8 c8 w8 hown8 hg8 hat8 hlt8; have G8 := Lib.hid (G7.out.app (n := Z7.length) (m := 1) (ys := [⟨#[41]⟩]) rfl rfl hown8 hg8 rfl hat8); have h8g := G8.out.gro)
        | (have G7a := G7.out.bel ((Below.refl _ _).alloc (Nat.le_refl _) (.cells #[.string ⟨#[41]⟩] 9)); have hs7 : w0.heap.size ≤ (w7.alloc (.cells #[.string ⟨#[41]⟩] 9)).heap.size := Nat.le_trans hs0R G7a.gro.size; have hnews : ∀ j u, ([⟨#[41]⟩].map Value.string)[j]? = some u → (w7.alloc (.cells #[.string ⟨#[41]⟩] 9)).cell? ((⟨w7.heap.size, 0, none⟩ : Addr).add j) = some u := World.news_of_block (heap_alloc_new w7 (.cells #[.string ⟨#[41]⟩] 9)); refine step_append_lies _ (by rfl) _ _ 28 (by rfl) w0.heap.size 9 i _ 1 16 Tryz.underlying28 HI.out HZ0.out HZ1.out HZ2.out (by rfl) (by decide) v7 Z7.length (Z7.map Value.string) (by rfl) G7a.own ⟨w7.heap.size, 0, none⟩ 1 1 ([⟨#[41]⟩].map Value.string) (by rfl) (by rfl) hnews (strs_one _) (by decide) (by unfold maxLen; omega) (by omega) hs7 (w7.heap.size + 1) (by simp) ?_; intro g8 c8 w8 hown8 hg8 hat8 hlt8; have G8 := Lib.hid (G7a.app (n := Z7.length) (m := 1) (ys := [⟨#[41]⟩]) rfl rfl hown8 hg8 (by simp) hat8); have h8g := G8.out.gro)
        | fail)
    all_goals
      go_wp2_with fail
      go_ret
      exact ⟨_, rfl, G8.out.own, HFG.out _ G8.out.gro, HFA.out _ G8.out.atb⟩
  · have hw1b : (t.name.toList == [46]) = false := by simpa using hw1
    have hw2b : (t.name.toList == [123, 125]) = false := by simpa using hw2
    go_enter Tryz.func59, Tryz.ntmps59
    go_wp2_with fail
    refine (HNUM.out _ HBX).mono ?_; rintro e w1 ⟨rfl, hB1⟩
    have HX1 := Lib.hid (HX.out.call hB1)
    have y0 := HX1.out.wb.c0
    have y1 := HX1.out.wb.c1
    have y2 := HX1.out.wb.c2
    have y3 := HX1.out.wb.c3
    have z0 := HX1.out.tb.c0
    have z1 := HX1.out.tb.c1
    have z2 := HX1.out.tb.c2
    have z3 := HX1.out.tb.c3
    rw [← HL.out] at z3
    rw [HKK.out] at z0
    have hb1 := HX1.out.bel
    have GW1 := Lib.hid (HG0.out.bel hB1)
    clear HX HG0 HBX HNUM hB1
    go_wp2_with fail
    refine (HOPR.out _ hb1).mono ?_; rintro e w2 ⟨rfl, hB2⟩
    have hB2a := hB2.alloc hB2.size (.cells #[.string p.name, .int .i64 p.typ, .int .i64 p.prec] 80)
    have HXR := Lib.hid (HX1.out.call hB2a)
    have GW := Lib.hid (Gro.start (GW1.out.bel hB2a).own)
    have hbR := HXR.out.bel
    have HOB := Lib.hid ((BoxG.start w2 p 80))
    clear y0 y1 y2 y3 z0 z1 z2 z3 HX1 HOPR hB2 hB2a GW1 hb1
    go_upto_region 19 with fail
    have hlR : w2.heap.size + 1 = (w2.alloc (.cells #[.string p.name, .int .i64 p.typ, .int .i64 p.prec] 80)).heap.size := by simp
    generalize w2.alloc (.cells #[.string p.name, .int .i64 p.typ, .int .i64 p.prec] 80) = wR at *
    have HRA := Lib.hid (HHR.out wR hbR)
    have HKP : Hid (∀ X, wR.grownBy X v.ownBlock → X.cell? ⟨w.heap.size, 0, none⟩ = some (.slice TA TN TC) ∧ X.cell? ⟨w.heap.size, 1, none⟩ = some (.bool o.q) ∧ X.cell? ⟨w.heap.size, 2, none⟩ = some (.bool o.ig) ∧ X.cell? ⟨w.heap.size, 3, none⟩ = some (.bool o.nu) ∧ X.cell? ⟨w.heap.size + 1, 0, none⟩ = some (.int .i64 3) ∧ X.cell? ⟨w.heap.size + 1, 1, none⟩ = some (.int .i64 t.num) ∧ X.cell? ⟨w.heap.size + 1, 2, none⟩ = some (.string t.name) ∧ X.cell? ⟨w.heap.size + 1, 3, none⟩ = some (.slice A LN cap) ∧ wR.grownBy X v.ownBlock) := Lib.hid (fun X h => by
      have hwb := HXR.out.wb
      have htb := HXR.out.tb
      have hc : ∀ k j, w.heap.size ≤ k → k < wR.heap.size → X.cell? ⟨k, j, none⟩ = wR.cell? ⟨k, j, none⟩ := fun k j h1 h2 => gro_cell h _ h2 (fun e => by have := HVLT.out k e; omega)
      have h3 := htb.c3
      rw [← HL.out] at h3
      have hi2 := hwb.c2
      have _ := hi2
      have ht0 := htb.c0
      rw [HKK.out] at ht0
      exact ⟨(hc _ _ (by omega) hwb.lt).trans hwb.c0, (hc _ _ (by omega) hwb.lt).trans hwb.c1, (hc _ _ (by omega) hwb.lt).trans hi2, (hc _ _ (by omega) hwb.lt).trans hwb.c3, (hc _ _ (by omega) htb.lt).trans ht0, (hc _ _ (by omega) htb.lt).trans htb.c1, (hc _ _ (by omega) htb.lt).trans htb.c2, (hc _ _ (by omega) htb.lt).trans h3, h⟩)
    have HBG : Hid (∀ X, wR.grownBy X v.ownBlock → Below w0.heap.size w0 X) := Lib.hid (fun X h => (HB0.out _ hbR).grown h (HB0.out _ hbR).size (fun k hk => (HOO.out.low hk).1))
    have HFG : Hid (∀ X, wR.grownBy X v.ownBlock → w.grownBy X v.ownBlock) := Lib.hid (fun X h => bel_grown hbR h)
    have HFA : Hid (∀ v', AtB wR v v' → AtB w v v') := Lib.hid (fun v' h => h.imp id fun ⟨k, h1, h2⟩ => ⟨k, h1, Nat.le_trans hbR.size h2⟩)
    have hs0R := (HB0.out _ hbR).size
    have GD0 := Lib.hid (GW.out.bel (Below.refl _ _).drew)
    have GD1 := Lib.hid ((GW.out.bel ((Below.refl _ _).alloc (Nat.le_refl _) (.cells #[.string ⟨#[41]⟩] 9))).bel (Below.refl _ _).drew)
    have hwl := hbR.size
    clear HHR HB0 HOO HXR HOB hlR
    go_region_held3 (fun X => X.cell? ⟨w.heap.size, 0, none⟩ = some (.slice TA TN TC) ∧ X.cell? ⟨w.heap.size, 1, none⟩ = some (.bool o.q) ∧ X.cell? ⟨w.heap.size, 2, none⟩ = some (.bool o.ig) ∧ X.cell? ⟨w.heap.size, 3, none⟩ = some (.bool o.nu) ∧ X.cell? ⟨w.heap.size + 1, 0, none⟩ = some (.int .i64 3) ∧ X.cell? ⟨w.heap.size + 1, 1, none⟩ = some (.int .i64 t.num) ∧ X.cell? ⟨w.heap.size + 1, 2, none⟩ = some (.string t.name) ∧ X.cell? ⟨w.heap.size + 1, 3, none⟩ = some (.slice A LN cap) ∧ wR.grownBy X v.ownBlock)
      (first
        | with_reducible exact HKP.out _ h8g
        | with_reducible exact HKP.out _ h7g
        | with_reducible exact HKP.out _ h6g
        | with_reducible exact HKP.out _ h4g
        | exact HKP.out _ GD0.out.gro
        | with_reducible exact HKP.out _ (grown_bel h7g ((Below.refl _ _).alloc (Nat.le_refl _) _))
        | with_reducible exact HKP.out _ (grown_bel h6g ((Below.refl _ _).alloc (Nat.le_refl _) _))
        | with_reducible exact HKP.out _ (grown_bel h4g ((Below.refl _ _).alloc (Nat.le_refl _) _))
        | with_reducible exact HKP.out _ (grown_bel (grown_bel h4g ((Below.refl _ _).alloc (Nat.le_refl _) _)) ((Below.refl _ _).alloc (Nat.le_refl _) _))
        | with_reducible exact HKP.out _ (grown_bel (grown_self _ _) (((Below.refl _ _).alloc (Nat.le_refl _) _).drew))
        | exact HKP.out _ (grown_bel (grown_bel (grown_self _ _) ((Below.refl _ _).alloc (Nat.le_refl _) _)) (((Below.refl _ _).alloc (Nat.le_refl _) _).drew))
        | fail)
      (first
        | (go_at_call 87; (with_reducible refine (HNM2.out wR.drew).mono ?_); rintro e w4 ⟨rfl, hB4⟩; have G4 := Lib.hid (GD0.out.bel hB4); have G4' := Lib.hid ((Gro.start GD0.out.own).bel hB4); have h4g := G4.out.gro; have h4s : wR.heap.size ≤ w4.heap.size := Nat.le_trans GD0.out.gro.size hB4.size)
        | (go_at_call 87; (with_reducible refine (HNM2.out (wR.alloc (.cells #[.string ⟨#[41]⟩] 9)).drew).mono ?_); rintro e w4 ⟨rfl, hB4⟩; have G4 := Lib.hid (GD1.out.bel hB4); have G4' := Lib.hid ((Gro.start GD1.out.own).bel hB4); have h4g := G4.out.gro; have h4s : wR.heap.size ≤ w4.heap.size := Nat.le_trans GD1.out.gro.size hB4.size)
        | (have GA := ((G4.out.bel ((Below.refl _ _).alloc (Nat.le_refl _) (.cells #[.string nm, .string ⟨#[40]⟩] 9)))); have GA' := ((G4'.out.bel ((Below.refl _ _).alloc (Nat.le_refl _) (.cells #[.string nm, .string ⟨#[40]⟩] 9)))); have hsA : w0.heap.size ≤ (w4.alloc (.cells #[.string nm, .string ⟨#[40]⟩] 9)).heap.size := Nat.le_trans hs0R GA.gro.size; have hnA : ∀ j u, ([nm, ⟨#[40]⟩].map Value.string)[j]? = some u → (w4.alloc (.cells #[.string nm, .string ⟨#[40]⟩] 9)).cell? ((⟨w4.heap.size, 0, none⟩ : Addr).add j) = some u := (World.news_of_block (heap_alloc_new w4 (.cells #[.string nm, .string ⟨#[40]⟩] 9))); refine step_append_lies _ (by rfl) _ _ 28 (by rfl) w0.heap.size 9 i _ 1 16 Tryz.underlying28 HI.out HZ0.out HZ1.out HZ2.out (by rfl) (by decide) v xs.length (xs.map Value.string) (by rfl) GA.own ⟨w4.heap.size, 0, none⟩ 2 2 ([nm, ⟨#[40]⟩].map Value.string) (by rfl) (by rfl) hnA (strs_one _) (by decide) (by unfold maxLen; omega) (by omega) hsA (w4.heap.size + 1) (by simp) ?_; intro g6 c6 w6 hown6 hg6 hat6 hlt6; have G6 := Lib.hid (GA.app (m := 2) (ys := [nm, ⟨#[40]⟩]) rfl rfl hown6 hg6 (by simp) hat6); have G6' := Lib.hid (GA'.app (m := 2) (ys := [nm, ⟨#[40]⟩]) rfl rfl hown6 hg6 (by simp) hat6); have h6g := G6.out.gro; have hne6 : (Value.slice (some ⟨g6, 0, none⟩) (xs.length + 2) c6).ownBlock ≠ some w6.heap.size := (fun e => absurd (Option.some.inj e) (Nat.ne_of_lt hlt6)))
        | (have GA := ((G4.out.bel ((Below.refl _ _).alloc (Nat.le_refl _) (.cells #[.string ⟨#[41]⟩] 9))).bel ((Below.refl _ _).alloc (Nat.le_refl _) (.cells #[.string nm, .string ⟨#[40]⟩] 9))); have GA' := Gro.start GA.own; have hsA : w0.heap.size ≤ ((w4.alloc (.cells #[.string ⟨#[41]⟩] 9)).alloc (.cells #[.string nm, .string ⟨#[40]⟩] 9)).heap.size := Nat.le_trans hs0R GA.gro.size; have hnA : ∀ j u, ([nm, ⟨#[40]⟩].map Value.string)[j]? = some u → ((w4.alloc (.cells #[.string ⟨#[41]⟩] 9)).alloc (.cells #[.string nm, .string ⟨#[40]⟩] 9)).cell? ((⟨(w4.heap.size + 1), 0, none⟩ : Addr).add j) = some u := (by have h := World.news_of_block (heap_alloc_new (w4.alloc (.cells #[.string ⟨#[41]⟩] 9)) (.cells #[.string nm, .string ⟨#[40]⟩] 9)); rw [show (w4.alloc (.cells #[.string ⟨#[41]⟩] 9)).heap.size = w4.heap.size + 1 by simp] at h; exact h); refine step_append_lies _ (by rfl) _ _ 28 (by rfl) w0.heap.size 9 i _ 1 16 Tryz.underlying28 HI.out HZ0.out HZ1.out HZ2.out (by rfl) (by decide) v xs.length (xs.map Value.string) (by rfl) GA.own ⟨(w4.heap.size + 1), 0, none⟩ 2 2 ([nm, ⟨#[40]⟩].map Value.string) (by rfl) (by rfl) hnA (strs_one _) (by decide) (by unfold maxLen; omega) (by omega) hsA (w4.heap.size + 1 + 1) (by simp) ?_; intro g6 c6 w6 hown6 hg6 hat6 hlt6; have G6 := Lib.hid (GA.app (m := 2) (ys := [nm, ⟨#[40]⟩]) rfl rfl hown6 hg6 (by simp) hat6); have G6' := Lib.hid (GA'.app (m := 2) (ys := [nm, ⟨#[40]⟩]) rfl rfl hown6 hg6 (by simp) hat6); have h6g := G6.out.gro; have hne6 : (Value.slice (some ⟨g6, 0, none⟩) (xs.length + 2) c6).ownBlock ≠ some w6.heap.size := (fun e => absurd (Option.some.inj e) (Nat.ne_of_lt hlt6)))
        | (have GA := ((G4.out.bel ((Below.refl _ _).alloc (Nat.le_refl _) (.cells #[.string nm, .string ⟨#[40]⟩] 9))).bel ((Below.refl _ _).alloc (Nat.le_refl _) (.cells #[.string ⟨#[41]⟩] 9))); have GA' := Gro.start GA.own; have hsA : w0.heap.size ≤ ((w4.alloc (.cells #[.string nm, .string ⟨#[40]⟩] 9)).alloc (.cells #[.string ⟨#[41]⟩] 9)).heap.size := Nat.le_trans hs0R GA.gro.size; have hnA : ∀ j u, ([nm, ⟨#[40]⟩].map Value.string)[j]? = some u → ((w4.alloc (.cells #[.string nm, .string ⟨#[40]⟩] 9)).alloc (.cells #[.string ⟨#[41]⟩] 9)).cell? ((⟨w4.heap.size, 0, none⟩ : Addr).add j) = some u := (World.news_of_block ((Below.heap_alloc (w4.alloc (.cells #[.string nm, .string ⟨#[40]⟩] 9)) (.cells #[.string ⟨#[41]⟩] 9) w4.heap.size (by simp)).trans (heap_alloc_new w4 (.cells #[.string nm, .string ⟨#[40]⟩] 9)))); refine step_append_lies _ (by rfl) _ _ 28 (by rfl) w0.heap.size 9 i _ 1 16 Tryz.underlying28 HI.out HZ0.out HZ1.out HZ2.out (by rfl) (by decide) v xs.length (xs.map Value.string) (by rfl) GA.own ⟨w4.heap.size, 0, none⟩ 2 2 ([nm, ⟨#[40]⟩].map Value.string) (by rfl) (by rfl) hnA (strs_one _) (by decide) (by unfold maxLen; omega) (by omega) hsA (w4.heap.size + 1 + 1) (by simp) ?_; intro g6 c6 w6 hown6 hg6 hat6 hlt6; have G6 := Lib.hid (GA.app (m := 2) (ys := [nm, ⟨#[40]⟩]) rfl rfl hown6 hg6 (by simp) hat6); have G6' := Lib.hid (GA'.app (m := 2) (ys := [nm, ⟨#[40]⟩]) rfl rfl hown6 hg6 (by simp) hat6); have h6g := G6.out.gro; have hne6 : (Value.slice (some ⟨g6, 0, none⟩) (xs.length + 2) c6).ownBlock ≠ some w6.heap.size := (fun e => absurd (Option.some.inj e) (Nat.ne_of_lt hlt6)))
        | (go_at_call 91; (with_reducible refine (HROW.out w6 _ (HBG.out _ G6.out.gro) (HRA.out.gro G6.out.gro G6.out.atb) G6.out.own).mono ?_); rintro e w7 ⟨v7, rfl, hO7, hg7, ha7⟩; have G7 := Lib.hid (G6.out.step hO7 hg7 ha7); have G7' := Lib.hid (G6'.out.step hO7 hg7 ha7); have h7g := G7.out.gro; rw [← HZ7.out] at G7 G7')
        | (go_at_call 91; have GE := Lib.hid (G6.out.bel ((Below.refl _ _).alloc (Nat.le_refl _) (.cells #[.string ⟨#[41]⟩] 9))); have GE' := Lib.hid (G6'.out.bel ((Below.refl _ _).alloc (Nat.le_refl _) (.cells #[.string ⟨#[41]⟩] 9))); (with_reducible refine (HROW.out (w6.alloc (.cells #[.string ⟨#[41]⟩] 9)) _ (HBG.out _ GE.out.gro) (HRA.out.gro GE.out.gro GE.out.atb) GE.out.own).mono ?_); rintro e w7 ⟨v7, rfl, hO7, hg7, ha7⟩; have G7 := Lib.hid (GE.out.step hO7 hg7 ha7); have G7' := Lib.hid (GE'.out.step hO7 hg7 ha7); have h7g := G7.out.gro; rw [← HZ7.out] at G7 G7')
        | (have hs7 : w0.heap.size ≤ w7.heap.size := Nat.le_trans hs0R G7.out.gro.size; have hne : v.ownBlock ≠ some wR.heap.size := (fun e => by have := HVLT.out _ e; omega); have hnews : ∀ j u, ([⟨#[41]⟩].map Value.string)[j]? = some u → w7.cell? ((⟨wR.heap.size, 0, none⟩ : Addr).add j) = some u := World.news_of_block ((G7'.out.gro.block wR.heap.size (by simp <;> omega) (fun e => hne e.symm)).trans (heap_alloc_new wR (.cells #[.string ⟨#[41]⟩] 9))); refine step_append_lies _ (by rfl) _ _ 28 (by rfl) w0.heap.size 9 i _ 1 16 Tryz.underlying28 HI.out HZ0.out HZ1.out HZ2.out (by rfl) (by decide) v7 Z7.length (Z7.map Value.string) (by rfl) G7.out.own ⟨wR.heap.size, 0, none⟩ 1 1 ([⟨#[41]⟩].map Value.string) (by rfl) (by rfl) hnews (strs_one _) (by decide) (by unfold maxLen; omega) (by omega) hs7 w7.heap.size rfl ?_; intro g8 c8 w8 hown8 hg8 hat8 hlt8; have G8 := Lib.hid (G7.out.app (n := Z7.length) (m := 1) (ys := [⟨#[41]⟩]) rfl rfl hown8 hg8 rfl hat8); have h8g := G8.out.gro)
        | (have hs7 : w0.heap.size ≤ w7.heap.size := Nat.le_trans hs0R G7.out.gro.size; have hne : v.ownBlock ≠ some w4.heap.size := (fun e => by have := HVLT.out _ e; omega); have hnews : ∀ j u, ([⟨#[41]⟩].map Value.string)[j]? = some u → w7.cell? ((⟨w4.heap.size, 0, none⟩ : Addr).add j) = some u := World.news_of_block ((G7'.out.gro.block w4.heap.size (by simp <;> omega) (fun e => hne e.symm)).trans ((Below.heap_alloc (w4.alloc (.cells #[.string ⟨#[41]⟩] 9)) (.cells #[.string nm, .string ⟨#[40]⟩] 9) w4.heap.size (by simp)).trans (heap_alloc_new w4 (.cells #[.string ⟨#[41]⟩] 9)))); refine step_append_lies _ (by rfl) _ _ 28 (by rfl) w0.heap.size 9 i _ 1 16 Tryz.underlying28 HI.out HZ0.out HZ1.out HZ2.out (by rfl) (by decide) v7 Z7.length (Z7.map Value.string) (by rfl) G7.out.own ⟨w4.heap.size, 0, none⟩ 1 1 ([⟨#[41]⟩].map Value.string) (by rfl) (by rfl) hnews (strs_one _) (by decide) (by unfold maxLen; omega) (by omega) hs7 w7.heap.size rfl ?_; intro g8 c8 w8 hown8 hg8 hat8 hlt8; have G8 := Lib.hid (G7.out.app (n := Z7.length) (m := 1) (ys := [⟨#[41]⟩]) rfl rfl hown8 hg8 rfl hat8); have h8g := G8.out.gro)
        | (have hs7 : w0.heap.size ≤ w7.heap.size := Nat.le_trans hs0R G7.out.gro.size; have hne : v.ownBlock ≠ some (w4.heap.size + 1) := (fun e => by have := HVLT.out _ e; omega); have hnews : ∀ j u, ([⟨#[41]⟩].map Value.string)[j]? = some u → w7.cell? ((⟨(w4.heap.size + 1), 0, none⟩ : Addr).add j) = some u := World.news_of_block ((G7'.out.gro.block (w4.heap.size + 1) (by simp <;> omega) (fun e => hne e.symm)).trans (by have h := heap_alloc_new (w4.alloc (.cells #[.string nm, .string ⟨#[40]⟩] 9)) (.cells #[.string ⟨#[41]⟩] 9); rw [show (w4.alloc (.cells #[.string nm, .string ⟨#[40]⟩] 9)).heap.size = w4.heap.size + 1 by simp] at h; exact h)); refine step_append_lies _ (by rfl) _ _ 28 (by rfl) w0.heap.size 9 i _ 1 16 Tryz.underlying28 HI.out HZ0.out HZ1.out HZ2.out (by rfl) (by decide) v7 Z7.length (Z7.map Value.string) (by rfl) G7.out.own ⟨(w4.heap.size + 1), 0, none⟩ 1 1 ([⟨#[41]⟩].map Value.string) (by rfl) (by rfl) hnews (strs_one _) (by decide) (by unfold maxLen; omega) (by omega) hs7 w7.heap.size rfl ?_; intro g8 c8 w8 hown8 hg8 hat8 hlt8; have G8 := Lib.hid (G7.out.app (n := Z7.length) (m := 1) (ys := [⟨#[41]⟩]) rfl rfl hown8 hg8 rfl hat8); have h8g := G8.out.gro)
        | (have hs7 : w0.heap.size ≤ w7.heap.size := Nat.le_trans hs0R G7.out.gro.size; have hnews : ∀ j u, ([⟨#[41]⟩].map Value.string)[j]? = some u → w7.cell? ((⟨w6.heap.size, 0, none⟩ : Addr).add j) = some u := World.news_of_block ((hg7.block w6.heap.size (by simp) (fun e => hne6 e.symm)).trans (heap_alloc_new w6 (.cells #[.string ⟨#[41]⟩] 9))); refine step_append_lies _ (by rfl) _ _ 28 (by rfl) w0.heap.size 9 i _ 1 16 Tryz.underlying28 HI.out HZ0.out HZ1.out HZ2.out (by rfl) (by decide) v7 Z7.length (Z7.map Value.string) (by rfl) G7.out.own ⟨w6.heap.size, 0, none⟩ 1 1 ([⟨#[41]⟩].map Value.string) (by rfl) (by rfl) hnews (strs_one _) (by decide) (by unfold maxLen; omega) (by omega) hs7 w7.heap.size rfl ?_; intro g8 c8 w8 hown8 hg8 hat8 hlt8; have G8 := Lib.hid (G7.out.app (n := Z7.length) (m := 1) (ys := [⟨#[41]⟩]) rfl rfl hown8 hg8 rfl hat8); have h8g := G8.out.gro)
        | (have G7a := G7.out.bel ((Below.refl _ _).alloc (Nat.le_refl _) (.cells #[.string ⟨#[41]⟩] 9)); have hs7 : w0.heap.size ≤ (w7.alloc (.cells #[.string ⟨#[41]⟩] 9)).heap.size := Nat.le_trans hs0R G7a.gro.size; have hnews : ∀ j u, ([⟨#[41]⟩].map Value.string)[j]? = some u → (w7.alloc (.cells #[.string ⟨#[41]⟩] 9)).cell? ((⟨w7.heap.size, 0, none⟩ : Addr).add j) = some u := World.news_of_block (heap_alloc_new w7 (.cells #[.string ⟨#[41]⟩] 9)); refine step_append_lies _ (by rfl) _ _ 28 (by rfl) w0.heap.size 9 i _ 1 16 Tryz.underlying28 HI.out HZ0.out HZ1.out HZ2.out (by rfl) (by decide) v7 Z7.length (Z7.map Value.string) (by rfl) G7a.own ⟨w7.heap.size, 0, none⟩ 1 1 ([⟨#[41]⟩].map Value.string) (by rfl) (by rfl) hnews (strs_one _) (by decide) (by unfold maxLen; omega) (by omega) hs7 (w7.heap.size + 1) (by simp) ?_; intro g8 c8 w8 hown8 hg8 hat8 hlt8; have G8 := Lib.hid (G7a.app (n := Z7.length) (m := 1) (ys := [⟨#[41]⟩]) rfl rfl hown8 hg8 (by simp) hat8); have h8g := G8.out.gro)
        | fail)
    all_goals
      go_wp2_with fail
      go_ret
      exact ⟨_, rfl, G8.out.own, HFG.out _ G8.out.gro, HFA.out _ G8.out.atb⟩
end Go.Proofs.YtgapnafkelokaaaGreatDoor
