/- The reference's writer: into, first part. The reference's writer: into, second part. -/
import Derived.Test.YtgapnafkelokaaaGreatDoorM21
namespace Go.Proofs.YtgapnafkelokaaaGreatDoor
open Go.RowKit Hb
set_option maxRecDepth 100000
set_option maxHeartbeats 6400000 in
theorem i_var {o : WO} {T : List OpR} {TA : Option Addr} {TN TC : Nat} {w0 : World} {t : Tm} (hk : t.kind = 0) (hok : Tm.All Okf t) : IOK o T TA TN TC w0 t := by
  intro max opd hmx A cap w v xs hB hT hO hlen
  obtain ⟨i, hi, hz0, hz1, hz2⟩ := info_parts infoStr
  have HI := Lib.hid hi
  have HZ0 := Lib.hid hz0
  have HZ1 := Lib.hid hz1
  have HZ2 := Lib.hid hz2
  clear hi hz0 hz1 hz2
  obtain ⟨LN, HL⟩ : ∃ LN, Hid (LN = t.args.length) := ⟨_, Lib.hid rfl⟩
  have HX := Lib.hid (Rf2.start w o TA TN TC t A cap LN 70 24 HL.out)
  have HBX := HX.out.bel
  have hp1 := t.nodes_pos
  have HB := Lib.hid hB
  have HB0 := Lib.hid (fun W (h : Below w.heap.size w W) => hB.trans (h.mono hB.size))
  have hs0 := hB.size
  have HG0 := Lib.hid ((Gro.start hO).bel HBX)
  have HLEN := Lib.hid hlen
  have HP : Hid (pcs o T t max opd = [s1 95 ++ fmI t.num]) := Lib.hid (by
    unfold pcs placeW; rw [if_pos hk])
  have HTX := Lib.hid (fun W => r2_text t.num ((nodeFit_iff t).1 hok.here.2).1 ((nodeFit_iff t).1 hok.here.2).2 W)
  have hfl := fm_small hok.here.2
  rw [HP.out]
  unfold tmV rwV at *
  rw [← HL.out]
  rw [hk] at HX HBX HG0 ⊢
  clear hk hok hB hT hO HB hmx HX
  generalize t.num = n at *
  go_enter Tryz.func59, Tryz.ntmps59
  go_wp2_with fail
  refine (HTX.out _).mono ?_; rintro e w1 ⟨rfl, hB1⟩
  have HG1 := Lib.hid (HG0.out.bel hB1)
  have HGA := Lib.hid (HG1.out.bel ((Below.refl _ w1).alloc (Nat.le_refl _) (.cells #[.string (⟨#[95]⟩ ++ fmI n)] 9)))
  have HNW : Hid (∀ j u, ([(⟨#[95]⟩ ++ fmI n)].map Value.string)[j]? = some u → (w1.alloc (.cells #[.string (⟨#[95]⟩ ++ fmI n)] 9)).cell? ((⟨w1.heap.size, 0, none⟩ : Addr).add j) = some u) := Lib.hid (World.news_of_block (heap_alloc_new w1 (.cells #[.string (⟨#[95]⟩ ++ fmI n)] 9)))
  have hbs : w0.heap.size ≤ (w1.alloc (.cells #[.string (⟨#[95]⟩ ++ fmI n)] 9)).heap.size := Nat.le_trans hs0 HGA.out.gro.size
  clear HG0 HG1 HTX HBX
  have hxl : xs.length ≤ 100000 := by omega
  go_wp2_with ((with_reducible refine at_appSS ?_); go_must (refine wpList_append_own_at _ rfl _ _ 28 rfl w0.heap.size 9 i _ 1 16 Tryz.underlying28 HI.out HZ0.out HZ1.out HZ2.out rfl (by decide) _ xs.length (xs.map Value.string) rfl HGA.out.own ⟨w1.heap.size, 0, none⟩ 1 1 ([(⟨#[95]⟩ ++ fmI n)].map Value.string) rfl rfl HNW.out (strs_one _) (by unfold maxLen; omega) (by omega) hbs ?_; intro zv zw zho zhg _ zhat))
  have G4 := Lib.hid (HGA.out.step (OwnS.join (xs := xs) (ys := [(⟨#[95]⟩ ++ fmI n)]) (by simp) zho) zhg (AtB.of_new zhat))
  go_ret
  exact ⟨_, rfl, G4.out.own, G4.out.gro, G4.out.atb⟩
set_option maxHeartbeats 6400000 in
theorem i_int {o : WO} {T : List OpR} {TA : Option Addr} {TN TC : Nat} {w0 : World} {t : Tm} (hk : t.kind = 1) (hok : Tm.All Okf t) : IOK o T TA TN TC w0 t := by
  intro max opd hmx A cap w v xs hB hT hO hlen
  obtain ⟨i, hi, hz0, hz1, hz2⟩ := info_parts infoStr
  have HI := Lib.hid hi
  have HZ0 := Lib.hid hz0
  have HZ1 := Lib.hid hz1
  have HZ2 := Lib.hid hz2
  clear hi hz0 hz1 hz2
  obtain ⟨LN, HL⟩ : ∃ LN, Hid (LN = t.args.length) := ⟨_, Lib.hid rfl⟩
  have HX := Lib.hid (Rf2.start w o TA TN TC t A cap LN 70 24 HL.out)
  have HBX := HX.out.bel
  have hp1 := t.nodes_pos
  have HB := Lib.hid hB
  have HB0 := Lib.hid (fun W (h : Below w.heap.size w W) => hB.trans (h.mono hB.size))
  have hs0 := hB.size
  have HG0 := Lib.hid ((Gro.start hO).bel HBX)
  have HLEN := Lib.hid hlen
  have HP : Hid (pcs o T t max opd = [fmI t.num]) := Lib.hid (by
    unfold pcs placeW; rw [if_neg (by omega), if_pos hk])
  have HTX := Lib.hid (fun W => r2_text t.num ((nodeFit_iff t).1 hok.here.2).1 ((nodeFit_iff t).1 hok.here.2).2 W)
  have hfl := fm_small hok.here.2
  rw [HP.out]
  unfold tmV rwV at *
  rw [← HL.out]
  rw [hk] at HX HBX HG0 ⊢
  clear hk hok hB hT hO HB hmx HX
  generalize t.num = n at *
  go_enter Tryz.func59, Tryz.ntmps59
  go_wp2_with fail
  refine (HTX.out _).mono ?_; rintro e w1 ⟨rfl, hB1⟩
  have HG1 := Lib.hid (HG0.out.bel hB1)
  have HGA := Lib.hid (HG1.out.bel ((Below.refl _ w1).alloc (Nat.le_refl _) (.cells #[.string (fmI n)] 9)))
  have HNW : Hid (∀ j u, ([(fmI n)].map Value.string)[j]? = some u → (w1.alloc (.cells #[.string (fmI n)] 9)).cell? ((⟨w1.heap.size, 0, none⟩ : Addr).add j) = some u) := Lib.hid (World.news_of_block (heap_alloc_new w1 (.cells #[.string (fmI n)] 9)))
  have hbs : w0.heap.size ≤ (w1.alloc (.cells #[.string (fmI n)] 9)).heap.size := Nat.le_trans hs0 HGA.out.gro.size
  clear HG0 HG1 HTX HBX
  have hxl : xs.length ≤ 100000 := by omega
  go_wp2_with ((with_reducible refine at_appSS ?_); go_must (refine wpList_append_own_at _ rfl _ _ 28 rfl w0.heap.size 9 i _ 1 16 Tryz.underlying28 HI.out HZ0.out HZ1.out HZ2.out rfl (by decide) _ xs.length (xs.map Value.string) rfl HGA.out.own ⟨w1.heap.size, 0, none⟩ 1 1 ([(fmI n)].map Value.string) rfl rfl HNW.out (strs_one _) (by unfold maxLen; omega) (by omega) hbs ?_; intro zv zw zho zhg _ zhat))
  have G4 := Lib.hid (HGA.out.step (OwnS.join (xs := xs) (ys := [(fmI n)]) (by simp) zho) zhg (AtB.of_new zhat))
  go_ret
  exact ⟨_, rfl, G4.out.own, G4.out.gro, G4.out.atb⟩
set_option maxHeartbeats 6400000 in
theorem i_atom {o : WO} {T : List OpR} {TA : Option Addr} {TN TC : Nat} {w0 : World} {t : Tm} (hk : t.kind = 2) (few : TN ≤ 400) (hTab : Tab w0 TA TN TC T) (hok : Tm.All Okf t) : IOK o T TA TN TC w0 t := by
  intro max opd hmx A cap w v xs hB hT hO hlen
  obtain ⟨i, hi, hz0, hz1, hz2⟩ := info_parts infoStr
  have HI := Lib.hid hi
  have HZ0 := Lib.hid hz0
  have HZ1 := Lib.hid hz1
  have HZ2 := Lib.hid hz2
  clear hi hz0 hz1 hz2
  obtain ⟨LN, HL⟩ : ∃ LN, Hid (LN = t.args.length) := ⟨_, Lib.hid rfl⟩
  have HX := Lib.hid (Rf2.start w o TA TN TC t A cap LN 70 24 HL.out)
  have HBX := HX.out.bel
  have hp1 := t.nodes_pos
  have HB := Lib.hid hB
  have HB0 := Lib.hid (fun W (h : Below w.heap.size w W) => hB.trans (h.mono hB.size))
  have hs0 := hB.size
  have HG0 := Lib.hid ((Gro.start hO).bel HBX)
  have HLEN := Lib.hid hlen
  have HP : Hid (pcs o T t max opd = brk [nmW o t.name] (opd && isAny T t.name)) := Lib.hid (by
    unfold pcs placeW; rw [if_neg (by omega), if_neg (by omega), if_pos hk])
  have HNM := Lib.hid (fun W => r_name o TA TN TC t.name W (by have := nodeOk_name hok.here.1; omega))
  have HIS : Hid (∀ W (h : Below w.heap.size w W), Calls Tryz.prog 24 #[.slice TA TN TC, .string t.name] W fun e w' => e = .returned (.bool (isAny T t.name)) ∧ Below W.heap.size W w') := Lib.hid (fun W (h : Below w.heap.size w W) => ref_isO TA TN TC T t.name W few (hTab.below (HB0.out W h)))
  have hxl : xs.length ≤ 99991 := by omega
  rw [HP.out]
  unfold tmV rwV at *
  rw [← HL.out]
  rw [hk] at HX HBX HG0 ⊢
  clear hk hok hB hT hO HB hmx few hTab
  obtain ⟨nm, HNE⟩ : ∃ nm, Hid (nm = nmW o t.name) := ⟨_, Lib.hid rfl⟩
  rw [← HNE.out] at HNM ⊢
  clear HNE
  generalize isAny T t.name = ia at *
  cases opd
  · rw [Bool.false_and]
    go_enter Tryz.func59, Tryz.ntmps59
    go_wp2_with fail
    refine (HNM.out _).mono ?_; rintro e w1 ⟨rfl, hB1⟩
    have HG1 := Lib.hid (HG0.out.bel hB1)
    have HGA := Lib.hid (HG1.out.bel ((Below.refl _ w1).alloc (Nat.le_refl _) (.cells #[.string nm] 9)))
    have HNW : Hid (∀ j u, ([nm].map Value.string)[j]? = some u → (w1.alloc (.cells #[.string nm] 9)).cell? ((⟨w1.heap.size, 0, none⟩ : Addr).add j) = some u) := Lib.hid (World.news_of_block (heap_alloc_new w1 (.cells #[.string nm] 9)))
    have hbs : w0.heap.size ≤ (w1.alloc (.cells #[.string nm] 9)).heap.size := Nat.le_trans hs0 HGA.out.gro.size
    clear HG0 HG1 HBX HIS HNM HX
    go_wp2_with ((with_reducible refine at_appSS ?_); go_must (refine wpList_append_own_at _ rfl _ _ 28 rfl w0.heap.size 9 i _ 1 16 Tryz.underlying28 HI.out HZ0.out HZ1.out HZ2.out rfl (by decide) _ xs.length (xs.map Value.string) rfl HGA.out.own ⟨w1.heap.size, 0, none⟩ 1 1 ([nm].map Value.string) rfl rfl HNW.out (strs_one _) (by unfold maxLen; omega) (by omega) hbs ?_; intro zv zw zho zhg _ zhat))
    have G4 := Lib.hid (HGA.out.step (OwnS.join (xs := xs) (ys := [nm]) (by simp) zho) zhg (AtB.of_new zhat))
    go_ret
    exact ⟨_, rfl, G4.out.own, G4.out.gro, G4.out.atb⟩
  · rw [Bool.true_and]
    cases ia
    · go_enter Tryz.func59, Tryz.ntmps59
      go_wp2_with fail
      refine (HIS.out _ HBX).mono ?_; rintro e w0' ⟨rfl, hB0⟩
      have HG1 := Lib.hid (HG0.out.bel hB0)
      have HX1 := Lib.hid (HX.out.call hB0)
      have y0 := HX1.out.wb.c0
      have y1 := HX1.out.wb.c1
      have y2 := HX1.out.wb.c2
      have y3 := HX1.out.wb.c3
      have y4 := HX1.out.tb.c2
      clear HG0 HX HBX HIS
      go_wp2_with fail
      refine (HNM.out _).mono ?_; rintro e w1 ⟨rfl, hB1⟩
      have HG2 := Lib.hid (HG1.out.bel hB1)
      have HGA := Lib.hid (HG2.out.bel ((Below.refl _ w1).alloc (Nat.le_refl _) (.cells #[.string nm] 9)))
      have HNW : Hid (∀ j u, ([nm].map Value.string)[j]? = some u → (w1.alloc (.cells #[.string nm] 9)).cell? ((⟨w1.heap.size, 0, none⟩ : Addr).add j) = some u) := Lib.hid (World.news_of_block (heap_alloc_new w1 (.cells #[.string nm] 9)))
      have hbs : w0.heap.size ≤ (w1.alloc (.cells #[.string nm] 9)).heap.size := Nat.le_trans hs0 HGA.out.gro.size
      clear HG1 HG2 HNM HX1 y0 y1 y2 y3 y4
      go_wp2_with ((with_reducible refine at_appSS ?_); go_must (refine wpList_append_own_at _ rfl _ _ 28 rfl w0.heap.size 9 i _ 1 16 Tryz.underlying28 HI.out HZ0.out HZ1.out HZ2.out rfl (by decide) _ xs.length (xs.map Value.string) rfl HGA.out.own ⟨w1.heap.size, 0, none⟩ 1 1 ([nm].map Value.string) rfl rfl HNW.out (strs_one _) (by unfold maxLen; omega) (by omega) hbs ?_; intro zv zw zho zhg _ zhat))
      have G4 := Lib.hid (HGA.out.step (OwnS.join (xs := xs) (ys := [nm]) (by simp) zho) zhg (AtB.of_new zhat))
      go_ret
      exact ⟨_, rfl, G4.out.own, G4.out.gro, G4.out.atb⟩
    · go_enter Tryz.func59, Tryz.ntmps59
      go_wp2_with fail
      refine (HIS.out _ HBX).mono ?_; rintro e w0' ⟨rfl, hB0⟩
      have HG1 := Lib.hid (HG0.out.bel hB0)
      have HX1 := Lib.hid (HX.out.call hB0)
      have y0 := HX1.out.wb.c0
      have y1 := HX1.out.wb.c1
      have y2 := HX1.out.wb.c2
      have y3 := HX1.out.wb.c3
      have y4 := HX1.out.tb.c2
      clear HG0 HX HBX HIS
      go_wp2_with fail
      refine (HNM.out _).mono ?_; rintro e w1 ⟨rfl, hB1⟩
      have HG2 := Lib.hid (HG1.out.bel hB1)
      have HGA := Lib.hid (HG2.out.bel ((Below.refl _ w1).alloc (Nat.le_refl _) (.cells #[.string ⟨#[40]⟩, .string nm, .string ⟨#[41]⟩] 9)))
      have HNW : Hid (∀ j u, ([⟨#[40]⟩, nm, ⟨#[41]⟩].map Value.string)[j]? = some u → (w1.alloc (.cells #[.string ⟨#[40]⟩, .string nm, .string ⟨#[41]⟩] 9)).cell? ((⟨w1.heap.size, 0, none⟩ : Addr).add j) = some u) := Lib.hid (World.news_of_block (heap_alloc_new w1 (.cells #[.string ⟨#[40]⟩, .string nm, .string ⟨#[41]⟩] 9)))
      have hbs : w0.heap.size ≤ (w1.alloc (.cells #[.string ⟨#[40]⟩, .string nm, .string ⟨#[41]⟩] 9)).heap.size := Nat.le_trans hs0 HGA.out.gro.size
      clear HG1 HG2 HNM HX1 y0 y1 y2 y3 y4
      go_wp2_with ((with_reducible refine at_appSS ?_); go_must (refine wpList_append_own_at _ rfl _ _ 28 rfl w0.heap.size 9 i _ 1 16 Tryz.underlying28 HI.out HZ0.out HZ1.out HZ2.out rfl (by decide) _ xs.length (xs.map Value.string) rfl HGA.out.own ⟨w1.heap.size, 0, none⟩ 3 3 ([⟨#[40]⟩, nm, ⟨#[41]⟩].map Value.string) rfl rfl HNW.out (strs_one _) (by unfold maxLen; omega) (by omega) hbs ?_; intro zv zw zho zhg _ zhat))
      have G4 := Lib.hid (HGA.out.step (OwnS.join (xs := xs) (ys := [s1 40, nm, s1 41]) (by simp) zho) zhg (AtB.of_new zhat))
      go_ret
      exact ⟨_, rfl, G4.out.own, G4.out.gro, G4.out.atb⟩
set_option maxHeartbeats 6400000 in
theorem i_num {o : WO} {T : List OpR} {TA : Option Addr} {TN TC : Nat} {w0 : World} {t : Tm} (hk : t.kind = 3) (hok : Tm.All Okf t) (hnum : isNum o t = true) : IOK o T TA TN TC w0 t := by
  intro max opd hmx A cap w v xs hB hT hO hlen
  obtain ⟨i, hi, hz0, hz1, hz2⟩ := info_parts infoStr
  have HI := Lib.hid hi
  have HZ0 := Lib.hid hz0
  have HZ1 := Lib.hid hz1
  have HZ2 := Lib.hid hz2
  clear hi hz0 hz1 hz2
  obtain ⟨LN, HL⟩ : ∃ LN, Hid (LN = t.args.length) := ⟨_, Lib.hid rfl⟩
  have HX := Lib.hid (Rf2.start w o TA TN TC t A cap LN 70 24 HL.out)
  have HBX := HX.out.bel
  have hp1 := t.nodes_pos
  have HB := Lib.hid hB
  have HB0 := Lib.hid (fun W (h : Below w.heap.size w W) => hB.trans (h.mono hB.size))
  have hs0 := hB.size
  have HG0 := Lib.hid ((Gro.start hO).bel HBX)
  have HLEN := Lib.hid hlen
  have h0 : ¬ t.kind = 0 := by omega
  have h1 : ¬ t.kind = 1 := by omega
  have h2 : ¬ t.kind = 2 := by omega
  have HP0 : Hid (pcs o T t max opd = brk (str o T t).1 (decide (max < (str o T t).2.prec))) := Lib.hid (by unfold pcs placeW; rw [if_neg h0, if_neg h1, if_neg h2])
  have HST := Lib.hid (str_eq o T (Okf.k4 hok))
  have HNUM := Lib.hid (fun W (h : Below w.heap.size w W) => r_numbered o TA TN TC t (List.all_eq_true.2 fun x hx => (hok.sub x hx).here.2) A cap W ((hT.keep (HB0.out W h)).mono (HB0.out W h).size))
  have HP : Hid (pcs o T t max opd = [numW o t]) := Lib.hid (by
    rw [HP0.out, HST.out, st_0 hnum]
    unfold ruleNum
    rw [if_pos hnum, numW_yes hnum, decide_eq_false (by show ¬ max < 0; omega)]; rfl)
  have hxl : xs.length ≤ 99991 := by omega
  rw [HP.out]
  unfold tmV rwV at *
  rw [← HL.out] at HNUM ⊢
  rw [hnum] at HNUM
  rw [hk] at HX HBX HG0 HNUM ⊢
  clear hk hok hB hT hO HB hmx h0 h1 h2 HX hnum
  generalize numW o t = nm at *
  go_enter Tryz.func59, Tryz.ntmps59
  go_wp2_with fail
  refine (HNUM.out _ HBX).mono ?_; rintro e w1 ⟨rfl, hB1⟩
  have HG1 := Lib.hid (HG0.out.bel hB1)
  have HGA := Lib.hid (HG1.out.bel ((Below.refl _ w1).alloc (Nat.le_refl _) (.cells #[.string nm] 9)))
  have HNW : Hid (∀ j u, ([nm].map Value.string)[j]? = some u → (w1.alloc (.cells #[.string nm] 9)).cell? ((⟨w1.heap.size, 0, none⟩ : Addr).add j) = some u) := Lib.hid (World.news_of_block (heap_alloc_new w1 (.cells #[.string nm] 9)))
  have hbs : w0.heap.size ≤ (w1.alloc (.cells #[.string nm] 9)).heap.size := Nat.le_trans hs0 HGA.out.gro.size
  clear HG0 HG1 HBX HNUM
  go_wp2_with ((with_reducible refine at_appSS ?_); go_must (refine wpList_append_own_at _ rfl _ _ 28 rfl w0.heap.size 9 i _ 1 16 Tryz.underlying28 HI.out HZ0.out HZ1.out HZ2.out rfl (by decide) _ xs.length (xs.map Value.string) rfl HGA.out.own ⟨w1.heap.size, 0, none⟩ 1 1 ([nm].map Value.string) rfl rfl HNW.out (strs_one _) (by unfold maxLen; omega) (by omega) hbs ?_; intro zv zw zho zhg _ zhat))
  have G4 := Lib.hid (HGA.out.step (OwnS.join (xs := xs) (ys := [nm]) (by simp) zho) zhg (AtB.of_new zhat))
  go_ret
  exact ⟨_, rfl, G4.out.own, G4.out.gro, G4.out.atb⟩
set_option maxHeartbeats 6400000 in
theorem i_list {o : WO} {T : List OpR} {TA : Option Addr} {TN TC : Nat} {w0 : World} {t : Tm} (hk : t.kind = 3) (hok : Tm.All Okf t) (hnum : isNum o t = false) (hls : condList t = true) (hI : ∀ x ∈ elemsT t, IOK o T TA TN TC w0 x) (hIt : IOK o T TA TN TC w0 (tailT t)) : IOK o T TA TN TC w0 t := by
  intro max opd hmx A cap w v xs hB hT hO hlen
  obtain ⟨i, hi, hz0, hz1, hz2⟩ := info_parts infoStr
  have HI := Lib.hid hi
  have HZ0 := Lib.hid hz0
  have HZ1 := Lib.hid hz1
  have HZ2 := Lib.hid hz2
  clear hi hz0 hz1 hz2
  obtain ⟨LN, HL⟩ : ∃ LN, Hid (LN = t.args.length) := ⟨_, Lib.hid rfl⟩
  have HX := Lib.hid (Rf2.start w o TA TN TC t A cap LN 70 24 HL.out)
  have HBX := HX.out.bel
  have hp1 := t.nodes_pos
  have HB := Lib.hid hB
  have HB0 := Lib.hid (fun W (h : Below w.heap.size w W) => hB.trans (h.mono hB.size))
  have hs0 := hB.size
  have HG0 := Lib.hid ((Gro.start hO).bel HBX)
  have HLEN := Lib.hid hlen
  have h0 : ¬ t.kind = 0 := by omega
  have h1 : ¬ t.kind = 1 := by omega
  have h2 : ¬ t.kind = 2 := by omega
  have HP0 : Hid (pcs o T t max opd = brk (str o T t).1 (decide (max < (str o T t).2.prec))) := Lib.hid (by unfold pcs placeW; rw [if_neg h0, if_neg h1, if_neg h2])
  have HST := Lib.hid (str_eq o T (Okf.k4 hok))
  have HNUM := Lib.hid (fun W (h : Below w.heap.size w W) => r_numbered o TA TN TC t (List.all_eq_true.2 fun x hx => (hok.sub x hx).here.2) A cap W ((hT.keep (HB0.out W h)).mono (HB0.out W h).size))
  have hnl : t.name.toList = [46] ∧ t.args.length = 2 := by unfold condList Tm.isNm at hls; simpa using hls
  have hcons : t.cons = true := by unfold Tm.cons; rw [hk]; unfold condList at hls; rw [hls]; rfl
  have HP : Hid (pcs o T t max opd = s1 91 :: ((rowW (argW o T (str o T)) (elemsT t) ++ tailW (argW o T (str o T)) (tailT t)) ++ [s1 93])) := Lib.hid (by
    rw [HP0.out, HST.out, st_1 hnum hls]
    unfold ruleList
    rw [if_pos hls, decide_eq_false (by show ¬ max < 0; omega)]; rfl)
  have HLS := Lib.hid (fun W (h : Below w.heap.size w W) (hg : Gro w0.heap.size 9 w v W v xs) => r_list t hcons hI hIt (Okf.k4 hok) A cap W v xs (HB0.out W h) hT hg.own hlen)
  have hl2 : LN = 2 := by rw [HL.out]; exact hnl.2
  have hn46 := hnl.1
  have hn46b : (t.name.toList == [46]) = true := by rw [hn46]; rfl
  rw [HP.out]
  unfold tmV rwV at *
  rw [← HL.out] at HNUM HLS ⊢
  subst hl2
  rw [hnum] at HNUM
  rw [hk] at HX HBX HG0 HNUM HLS ⊢
  have hkk := hk
  clear hok hB hT hO HB hmx h0 h1 h2 hnum hls hI hIt hcons hnl
  generalize numW o t = nm at *
  have HKK := Lib.hid hkk
  clear hkk hk
  go_enter Tryz.func59, Tryz.ntmps59
  go_wp2_with fail
  refine (HNUM.out _ HBX).mono ?_; rintro e w1 ⟨rfl, hB1⟩
  have HG1 := Lib.hid (HG0.out.bel hB1)
  have HX1 := Lib.hid (HX.out.call hB1)
  have hb1 := HX1.out.bel
  have hk := HKK.out
  have y0 := HX1.out.wb.c0
  have y1 := HX1.out.wb.c1
  have y2 := HX1.out.wb.c2
  have y3 := HX1.out.wb.c3
  have z0 := HX1.out.tb.c0
  have z1 := HX1.out.tb.c1
  have z2 := HX1.out.tb.c2
  have z3 := HX1.out.tb.c3
  rw [← HL.out] at z3
  rw [hk] at z0
  clear HG0 HX HBX HNUM hk
  go_wp2_with fail
  refine (HLS.out _ hb1 HG1.out).mono ?_; rintro e w2 ⟨v2, rfl, hO2, hg2, ha2⟩
  have G2 := Lib.hid (HG1.out.step hO2 hg2 ha2)
  clear hO2 hg2 ha2
  go_wp2_with fail
  go_ret
  exact ⟨_, rfl, G2.out.own, G2.out.gro, G2.out.atb⟩
end Go.Proofs.YtgapnafkelokaaaGreatDoor
namespace Go.Proofs.YtgapnafkelokaaaGreatDoor
open Go.RowKit Hb
set_option maxRecDepth 100000
set_option maxHeartbeats 6400000 in
theorem i_cur {o : WO} {T : List OpR} {TA : Option Addr} {TN TC : Nat} {w0 : World} {t : Tm} (hk : t.kind = 3) (hok : Tm.All Okf t) (hnum : isNum o t = false) (hls : condList t = false) (hcu : condCur o t = true) (hI : IOK o T TA TN TC w0 (t.arg 0)) : IOK o T TA TN TC w0 t := by
  intro max opd hmx A cap w v xs hB hT hO hlen
  obtain ⟨i, hi, hz0, hz1, hz2⟩ := info_parts infoStr
  have HI := Lib.hid hi
  have HZ0 := Lib.hid hz0
  have HZ1 := Lib.hid hz1
  have HZ2 := Lib.hid hz2
  clear hi hz0 hz1 hz2
  obtain ⟨LN, HL⟩ : ∃ LN, Hid (LN = t.args.length) := ⟨_, Lib.hid rfl⟩
  have HX := Lib.hid (Rf2.start w o TA TN TC t A cap LN 70 24 HL.out)
  have HBX := HX.out.bel
  have hp1 := t.nodes_pos
  have HB := Lib.hid hB
  have HB0 := Lib.hid (fun W (h : Below w.heap.size w W) => hB.trans (h.mono hB.size))
  have hs0 := hB.size
  have HG0 := Lib.hid ((Gro.start hO).bel HBX)
  have HLEN := Lib.hid hlen
  have h0 : ¬ t.kind = 0 := by omega
  have h1 : ¬ t.kind = 1 := by omega
  have h2 : ¬ t.kind = 2 := by omega
  have HP0 : Hid (pcs o T t max opd = brk (str o T t).1 (decide (max < (str o T t).2.prec))) := Lib.hid (by unfold pcs placeW; rw [if_neg h0, if_neg h1, if_neg h2])
  have HST := Lib.hid (str_eq o T (Okf.k4 hok))
  have HNUM := Lib.hid (fun W (h : Below w.heap.size w W) => r_numbered o TA TN TC t (List.all_eq_true.2 fun x hx => (hok.sub x hx).here.2) A cap W ((hT.keep (HB0.out W h)).mono (HB0.out W h).size))
  have hcc : o.ig = false ∧ t.name.toList = [123, 125] ∧ t.args.length = 1 := by unfold condCur Tm.isNm at hcu; simpa using hcu
  have HP : Hid (pcs o T t max opd = s1 123 :: (pcs o T (t.arg 0) 1200 false ++ [s1 125])) := Lib.hid (by
    rw [HP0.out, HST.out, st_2 hnum hls hcu]
    unfold ruleCur
    rw [if_pos hcu, decide_eq_false (by show ¬ max < 0; omega)]; rfl)
  have hlen1 := hcc.2.2
  obtain ⟨b, off, Ax, cx, rfl, hb, e0, e1, e2, e3, hsx⟩ := hT.get 0 (by omega)
  rw [Nat.zero_mul, Nat.add_zero] at e0 e1 e2 e3
  have HA0 := Lib.hid (Tm.arg_get t 0 (by omega))
  rw [← HA0.out] at hsx e0 e1 e2 e3
  have HE : Hid (∀ W, Below w0.heap.size w0 W → W.cell? ⟨b, off, none⟩ = some (.int .i64 (t.arg 0).kind) ∧ W.cell? ⟨b, off + 1, none⟩ = some (.int .i64 (t.arg 0).num) ∧ W.cell? ⟨b, off + 2, none⟩ = some (.string (t.arg 0).name) ∧ W.cell? ⟨b, off + 3, none⟩ = some (.slice Ax (t.arg 0).args.length cx)) := Lib.hid (fun W h => by
    have hc : ∀ k, W.cell? ⟨b, k, none⟩ = w0.cell? ⟨b, k, none⟩ := fun k => h.cell (p := ⟨b, k, none⟩) hb
    exact ⟨(hc _).trans e0, (hc _).trans e1, (hc _).trans e2, (hc _).trans e3⟩)
  have hnod := t.nodes_arg 0 (by omega)
  have HI0 := Lib.hid (fun W v' (h : Below w0.heap.size w0 W) (ho : OwnS 9 w0.heap.size W v' (xs ++ [⟨#[123]⟩])) => hI 1200 false (by decide) Ax cx W v' _ h hsx ho (by rw [List.length_append, List.length_singleton]; omega))
  have hpl := pcs_len o T ((Okf.k4 hok).arg 0) 1200 false
  have HVLT : Hid (∀ k, v.ownBlock = some k → k < w.heap.size) := Lib.hid (fun k hk => (hO.low hk).2)
  have HOO := Lib.hid hO
  have hl2 : LN = 1 := by rw [HL.out]; exact hlen1
  have hn1 := hcc.2.1
  have hn1b : (t.name.toList == [123, 125]) = true := by rw [hn1]; rfl
  have hn2 : ¬ t.name.toList = [46] := by rw [hn1]; decide
  have hn2b : (t.name.toList == [46]) = false := by rw [hn1]; rfl
  have hig := hcc.1
  rw [HP.out]
  unfold tmV rwV at *
  rw [← HL.out] at HNUM ⊢
  subst hl2
  rw [hnum] at HNUM
  rw [hk, hig] at HX HBX HG0 HNUM ⊢
  rw [hig] at HI0
  have HKK := Lib.hid hk
  have HIG := Lib.hid hig
  obtain ⟨Z7, HZ7⟩ : ∃ Z7, Hid (Z7 = (xs ++ [⟨#[123]⟩]) ++ pcs o T (t.arg 0) 1200 false) := ⟨_, Lib.hid rfl⟩
  have HRES : Hid (xs ++ (s1 123 :: (pcs o T (t.arg 0) 1200 false ++ [s1 125])) = Z7 ++ [⟨#[125]⟩]) := Lib.hid (by rw [HZ7.out]; unfold s1; simp)
  have hz7 : Z7.length ≤ 99999 := by rw [HZ7.out]; simp only [List.length_append, List.length_singleton]; omega
  rw [HRES.out]
  have hxl : xs.length ≤ 99991 := by omega
  clear hok hB hT hO HB hmx h0 h1 h2 hnum hls hcu hI HA0 hcc hk hig e0 e1 e2 e3 hsx HP HP0 HST HRES HLEN hpl
  generalize numW o t = nm at *
  generalize t.arg 0 = x at *
  go_enter Tryz.func59, Tryz.ntmps59
  go_wp2_with fail
  refine (HNUM.out _ HBX).mono ?_; rintro e w1 ⟨rfl, hB1⟩
  have HX1 := Lib.hid (HX.out.call hB1)
  have hb1 := HX1.out.bel
  have GW := Lib.hid (Gro.start (HG0.out.bel hB1).own)
  have hk := HKK.out
  have y0 := HX1.out.wb.c0
  have y1 := HX1.out.wb.c1
  have y2 := HX1.out.wb.c2
  have y3 := HX1.out.wb.c3
  have z0 := HX1.out.tb.c0
  have z1 := HX1.out.tb.c1
  have z2 := HX1.out.tb.c2
  have z3 := HX1.out.tb.c3
  rw [← HL.out] at z3
  rw [hk] at z0
  rw [HIG.out] at y2
  clear HG0 HX HBX HNUM hk hB1
  go_upto_region 16 with fail
  have HKP : Hid (∀ X, w1.grownBy X v.ownBlock → X.cell? ⟨w.heap.size, 0, none⟩ = some (.slice TA TN TC) ∧ X.cell? ⟨w.heap.size, 1, none⟩ = some (.bool o.q) ∧ X.cell? ⟨w.heap.size, 2, none⟩ = some (.bool false) ∧ X.cell? ⟨w.heap.size, 3, none⟩ = some (.bool o.nu) ∧ X.cell? ⟨w.heap.size + 1, 3, none⟩ = some (.slice (some ⟨b, off, none⟩) 1 cap) ∧ X.cell? ⟨b, off, none⟩ = some (.int .i64 x.kind) ∧ X.cell? ⟨b, off + 1, none⟩ = some (.int .i64 x.num) ∧ X.cell? ⟨b, off + 2, none⟩ = some (.string x.name) ∧ X.cell? ⟨b, off + 3, none⟩ = some (.slice Ax x.args.length cx) ∧ w1.grownBy X v.ownBlock) := Lib.hid (fun X h => by
    have hwb := HX1.out.wb
    have htb := HX1.out.tb
    have hc : ∀ k j, w.heap.size ≤ k → k < w1.heap.size → X.cell? ⟨k, j, none⟩ = w1.cell? ⟨k, j, none⟩ := fun k j h1 h2 => gro_cell h _ h2 (fun e => by have := HVLT.out k e; omega)
    have hB := (HB0.out _ hb1).grown h (HB0.out _ hb1).size (fun k hk => (HOO.out.low hk).1)
    obtain ⟨a0, a1, a2, a3⟩ := HE.out X hB
    have h3 := htb.c3
    rw [← HL.out] at h3
    have hi2 := hwb.c2
    rw [HIG.out] at hi2
    exact ⟨(hc _ _ (by omega) hwb.lt).trans hwb.c0, (hc _ _ (by omega) hwb.lt).trans hwb.c1, (hc _ _ (by omega) hwb.lt).trans hi2, (hc _ _ (by omega) hwb.lt).trans hwb.c3, (hc _ _ (by omega) htb.lt).trans h3, a0, a1, a2, a3, h⟩)
  have HBG : Hid (∀ X, w1.grownBy X v.ownBlock → Below w0.heap.size w0 X) := Lib.hid (fun X h => (HB0.out _ hb1).grown h (HB0.out _ hb1).size (fun k hk => (HOO.out.low hk).1))
  have HFG : Hid (∀ X, w1.grownBy X v.ownBlock → w.grownBy X v.ownBlock) := Lib.hid (fun X h => bel_grown hb1 h)
  have HFA : Hid (∀ v', AtB w1 v v' → AtB w v v') := Lib.hid (fun v' h => h.imp id fun ⟨k, h1, h2⟩ => ⟨k, h1, Nat.le_trans hb1.size h2⟩)
  have hs0R := (HB0.out _ hb1).size
  have GD0 := Lib.hid (GW.out.bel (Below.refl _ _).drew)
  have hwl := hb1.size
  clear y0 y1 y2 y3 z0 z1 z2 z3 HE HB0 HOO hn1 hn1b hn2 hn2b HX1
  have hi0 : (0 : Int) < (1 : Int) := by decide
  go_region_held3 (fun X => X.cell? ⟨w.heap.size, 0, none⟩ = some (.slice TA TN TC) ∧ X.cell? ⟨w.heap.size, 1, none⟩ = some (.bool o.q) ∧ X.cell? ⟨w.heap.size, 2, none⟩ = some (.bool false) ∧ X.cell? ⟨w.heap.size, 3, none⟩ = some (.bool o.nu) ∧ X.cell? ⟨w.heap.size + 1, 3, none⟩ = some (.slice (some ⟨b, off, none⟩) 1 cap) ∧ X.cell? ⟨b, off, none⟩ = some (.int .i64 x.kind) ∧ X.cell? ⟨b, off + 1, none⟩ = some (.int .i64 x.num) ∧ X.cell? ⟨b, off + 2, none⟩ = some (.string x.name) ∧ X.cell? ⟨b, off + 3, none⟩ = some (.slice Ax x.args.length cx) ∧ w1.grownBy X v.ownBlock)
    (first
      | with_reducible exact HKP.out _ h8g
      | with_reducible exact HKP.out _ h7g
      | with_reducible exact HKP.out _ h6g
      | exact HKP.out _ GD0.out.gro
      | with_reducible exact HKP.out _ (grown_bel h7g ((Below.refl _ _).alloc (Nat.le_refl _) _))
      | with_reducible exact HKP.out _ (grown_bel h6g ((Below.refl _ _).alloc (Nat.le_refl _) _))
      | with_reducible exact HKP.out _ (grown_bel (grown_self _ _) (((Below.refl _ _).alloc (Nat.le_refl _) _).drew))
      | exact HKP.out _ (grown_bel (grown_bel (grown_self _ _) ((Below.refl _ _).alloc (Nat.le_refl _) _)) (((Below.refl _ _).alloc (Nat.le_refl _) _).drew))
      | fail)
    (first
      | (have GA := (((GW.out.bel ((Below.refl _ _).alloc (Nat.le_refl _) (.cells #[.string ⟨#[123]⟩] 9)))).bel (Below.refl _ _).drew); have GA' := Gro.start GA.own; have hsA : w0.heap.size ≤ (w1.alloc (.cells #[.string ⟨#[123]⟩] 9)).drew.heap.size := Nat.le_trans hs0R GA.gro.size; have hnA : ∀ j u, ([⟨#[123]⟩].map Value.string)[j]? = some u → (w1.alloc (.cells #[.string ⟨#[123]⟩] 9)).drew.cell? ((⟨w1.heap.size, 0, none⟩ : Addr).add j) = some u := (World.news_of_block (heap_alloc_new w1 (.cells #[.string ⟨#[123]⟩] 9))); refine step_append_lies _ (by rfl) _ _ 28 (by rfl) w0.heap.size 9 i _ 1 16 Tryz.underlying28 HI.out HZ0.out HZ1.out HZ2.out (by rfl) (by decide) v xs.length (xs.map Value.string) (by rfl) GA.own ⟨w1.heap.size, 0, none⟩ 1 1 ([⟨#[123]⟩].map Value.string) (by rfl) (by rfl) hnA (strs_one _) (by decide) (by unfold maxLen; omega) (by omega) hsA (w1.heap.size + 1) (by simp) ?_; intro g6 c6 w6 hown6 hg6 hat6 hlt6; have G6 := Lib.hid (GA.app (m := 1) (ys := [⟨#[123]⟩]) rfl rfl hown6 hg6 (by simp) hat6); have G6' := Lib.hid (GA'.app (m := 1) (ys := [⟨#[123]⟩]) rfl rfl hown6 hg6 (by simp) hat6); have h6g := G6.out.gro; have hne6 : (Value.slice (some ⟨g6, 0, none⟩) (xs.length + 1) c6).ownBlock ≠ some w6.heap.size := (fun e => absurd (Option.some.inj e) (Nat.ne_of_lt hlt6)))
      | (have GA := (((GW.out.bel ((Below.refl _ _).alloc (Nat.le_refl _) (.cells #[.string ⟨#[125]⟩] 9))).bel ((Below.refl _ _).alloc (Nat.le_refl _) (.cells #[.string ⟨#[123]⟩] 9))).bel (Below.refl _ _).drew); have GA' := Gro.start GA.own; have hsA : w0.heap.size ≤ ((w1.alloc (.cells #[.string ⟨#[125]⟩] 9)).alloc (.cells #[.string ⟨#[123]⟩] 9)).drew.heap.size := Nat.le_trans hs0R GA.gro.size; have hnA : ∀ j u, ([⟨#[123]⟩].map Value.string)[j]? = some u → ((w1.alloc (.cells #[.string ⟨#[125]⟩] 9)).alloc (.cells #[.string ⟨#[123]⟩] 9)).drew.cell? ((⟨(w1.heap.size + 1), 0, none⟩ : Addr).add j) = some u := (by have h := World.news_of_block (heap_alloc_new (w1.alloc (.cells #[.string ⟨#[125]⟩] 9)) (.cells #[.string ⟨#[123]⟩] 9)); rw [show (w1.alloc (.cells #[.string ⟨#[125]⟩] 9)).heap.size = w1.heap.size + 1 by simp] at h; exact h); refine step_append_lies _ (by rfl) _ _ 28 (by rfl) w0.heap.size 9 i _ 1 16 Tryz.underlying28 HI.out HZ0.out HZ1.out HZ2.out (by rfl) (by decide) v xs.length (xs.map Value.string) (by rfl) GA.own ⟨(w1.heap.size + 1), 0, none⟩ 1 1 ([⟨#[123]⟩].map Value.string) (by rfl) (by rfl) hnA (strs_one _) (by decide) (by unfold maxLen; omega) (by omega) hsA (w1.heap.size + 1 + 1) (by simp) ?_; intro g6 c6 w6 hown6 hg6 hat6 hlt6; have G6 := Lib.hid (GA.app (m := 1) (ys := [⟨#[123]⟩]) rfl rfl hown6 hg6 (by simp) hat6); have G6' := Lib.hid (GA'.app (m := 1) (ys := [⟨#[123]⟩]) rfl rfl hown6 hg6 (by simp) hat6); have h6g := G6.out.gro; have hne6 : (Value.slice (some ⟨g6, 0, none⟩) (xs.length + 1) c6).ownBlock ≠ some w6.heap.size := (fun e => absurd (Option.some.inj e) (Nat.ne_of_lt hlt6)))
      | (have GA := (((GW.out.bel ((Below.refl _ _).alloc (Nat.le_refl _) (.cells #[.string ⟨#[123]⟩] 9))).bel ((Below.refl _ _).alloc (Nat.le_refl _) (.cells #[.string ⟨#[125]⟩] 9))).bel (Below.refl _ _).drew); have GA' := Gro.start GA.own; have hsA : w0.heap.size ≤ ((w1.alloc (.cells #[.string ⟨#[123]⟩] 9)).alloc (.cells #[.string ⟨#[125]⟩] 9)).drew.heap.size := Nat.le_trans hs0R GA.gro.size; have hnA : ∀ j u, ([⟨#[123]⟩].map Value.string)[j]? = some u → ((w1.alloc (.cells #[.string ⟨#[123]⟩] 9)).alloc (.cells #[.string ⟨#[125]⟩] 9)).drew.cell? ((⟨w1.heap.size, 0, none⟩ : Addr).add j) = some u := (World.news_of_block ((Below.heap_alloc (w1.alloc (.cells #[.string ⟨#[123]⟩] 9)) (.cells #[.string ⟨#[125]⟩] 9) w1.heap.size (by simp)).trans (heap_alloc_new w1 (.cells #[.string ⟨#[123]⟩] 9)))); refine step_append_lies _ (by rfl) _ _ 28 (by rfl) w0.heap.size 9 i _ 1 16 Tryz.underlying28 HI.out HZ0.out HZ1.out HZ2.out (by rfl) (by decide) v xs.length (xs.map Value.string) (by rfl) GA.own ⟨w1.heap.size, 0, none⟩ 1 1 ([⟨#[123]⟩].map Value.string) (by rfl) (by rfl) hnA (strs_one _) (by decide) (by unfold maxLen; omega) (by omega) hsA (w1.heap.size + 1 + 1) (by simp) ?_; intro g6 c6 w6 hown6 hg6 hat6 hlt6; have G6 := Lib.hid (GA.app (m := 1) (ys := [⟨#[123]⟩]) rfl rfl hown6 hg6 (by simp) hat6); have G6' := Lib.hid (GA'.app (m := 1) (ys := [⟨#[123]⟩]) rfl rfl hown6 hg6 (by simp) hat6); have h6g := G6.out.gro; have hne6 : (Value.slice (some ⟨g6, 0, none⟩) (xs.length + 1) c6).ownBlock ≠ some w6.heap.size := (fun e => absurd (Option.some.inj e) (Nat.ne_of_lt hlt6)))
      | (go_at_call 59; (with_reducible refine (HI0.out w6 _ (HBG.out _ G6.out.gro) G6.out.own).mono ?_); rintro e w7 ⟨v7, rfl, hO7, hg7, ha7⟩; have G7 := Lib.hid (G6.out.step hO7 hg7 ha7); have G7' := Lib.hid (G6'.out.step hO7 hg7 ha7); have h7g := G7.out.gro; rw [← HZ7.out] at G7 G7')
      | (go_at_call 59; have GE := Lib.hid (G6.out.bel ((Below.refl _ _).alloc (Nat.le_refl _) (.cells #[.string ⟨#[125]⟩] 9))); have GE' := Lib.hid (G6'.out.bel ((Below.refl _ _).alloc (Nat.le_refl _) (.cells #[.string ⟨#[125]⟩] 9))); (with_reducible refine (HI0.out (w6.alloc (.cells #[.string ⟨#[125]⟩] 9)) _ (HBG.out _ GE.out.gro) GE.out.own).mono ?_); rintro e w7 ⟨v7, rfl, hO7, hg7, ha7⟩; have G7 := Lib.hid (GE.out.step hO7 hg7 ha7); have G7' := Lib.hid (GE'.out.step hO7 hg7 ha7); have h7g := G7.out.gro; rw [← HZ7.out] at G7 G7')
      | (have hs7 : w0.heap.size ≤ w7.heap.size := Nat.le_trans hs0R G7.out.gro.size; have hne : v.ownBlock ≠ some w1.heap.size := (fun e => by have := HVLT.out _ e; omega); have hnews : ∀ j u, ([⟨#[125]⟩].map Value.string)[j]? = some u → w7.cell? ((⟨w1.heap.size, 0, none⟩ : Addr).add j) = some u := World.news_of_block ((G7'.out.gro.block w1.heap.size (by simp <;> omega) (fun e => hne e.symm)).trans ((Below.heap_alloc (w1.alloc (.cells #[.string ⟨#[125]⟩] 9)) (.cells #[.string ⟨#[123]⟩] 9) w1.heap.size (by simp)).trans (heap_alloc_new w1 (.cells #[.string ⟨#[125]⟩] 9)))); refine step_append_lies _ (by rfl) _ _ 28 (by rfl) w0.heap.size 9 i _ 1 16 Tryz.underlying28 HI.out HZ0.out HZ1.out HZ2.out (by rfl) (by decide) v7 Z7.length (Z7.map Value.string) (by rfl) G7.out.own ⟨w1.heap.size, 0, none⟩ 1 1 ([⟨#[125]⟩].map Value.string) (by rfl) (by rfl) hnews (strs_one _) (by decide) (by unfold maxLen; omega) (by omega) hs7 w7.heap.size rfl ?_; intro g8 c8 w8 hown8 hg8 hat8 hlt8; have G8 := Lib.hid (G7.out.app (n := Z7.length) (m := 1) (ys := [⟨#[125]⟩]) rfl rfl hown8 hg8 rfl hat8); have h8g := G8.out.gro)
      | (have hs7 : w0.heap.size ≤ w7.heap.size := Nat.le_trans hs0R G7.out.gro.size; have hne : v.ownBlock ≠ some (w1.heap.size + 1) := (fun e => by have := HVLT.out _ e; omega); have hnews : ∀ j u, ([⟨#[125]⟩].map Value.string)[j]? = some u → w7.cell? ((⟨(w1.heap.size + 1), 0, none⟩ : Addr).add j) = some u := World.news_of_block ((G7'.out.gro.block (w1.heap.size + 1) (by simp <;> omega) (fun e => hne e.symm)).trans (by have h := heap_alloc_new (w1.alloc (.cells #[.string ⟨#[123]⟩] 9)) (.cells #[.string ⟨#[125]⟩] 9); rw [show (w1.alloc (.cells #[.string ⟨#[123]⟩] 9)).heap.size = w1.heap.size + 1 by simp] at h; exact h)); refine step_append_lies _ (by rfl) _ _ 28 (by rfl) w0.heap.size 9 i _ 1 16 Tryz.underlying28 HI.out HZ0.out HZ1.out HZ2.out (by rfl) (by decide) v7 Z7.length (Z7.map Value.string) (by rfl) G7.out.own ⟨(w1.heap.size + 1), 0, none⟩ 1 1 ([⟨#[125]⟩].map Value.string) (by rfl) (by rfl) hnews (strs_one _) (by decide) (by unfold maxLen; omega) (by omega) hs7 w7.heap.size rfl ?_; intro g8 c8 w8 hown8 hg8 hat8 hlt8; have G8 := Lib.hid (G7.out.app (n := Z7.length) (m := 1) (ys := [⟨#[125]⟩]) rfl rfl hown8 hg8 rfl hat8); have h8g := G8.out.gro)
      | (have hs7 : w0.heap.size ≤ w7.heap.size := Nat.le_trans hs0R G7.out.gro.size; have hnews : ∀ j u, ([⟨#[125]⟩].map Value.string)[j]? = some u → w7.cell? ((⟨w6.heap.size, 0, none⟩ : Addr).add j) = some u := World.news_of_block ((hg7.block w6.heap.size (by simp) (fun e => hne6 e.symm)).trans (heap_alloc_new w6 (.cells #[.string ⟨#[125]⟩] 9))); refine step_append_lies _ (by rfl) _ _ 28 (by rfl) w0.heap.size 9 i _ 1 16 Tryz.underlying28 HI.out HZ0.out HZ1.out HZ2.out (by rfl) (by decide) v7 Z7.length (Z7.map Value.string) (by rfl) G7.out.own ⟨w6.heap.size, 0, none⟩ 1 1 ([⟨#[125]⟩].map Value.string) (by rfl) (by rfl) hnews (strs_one _) (by decide) (by unfold maxLen; omega) (by omega) hs7 w7.heap.size rfl ?_; intro g8 c8 w8 hown8 hg8 hat8 hlt8; have G8 := Lib.hid (G7.out.app (n := Z7.length) (m := 1) (ys := [⟨#[125]⟩]) rfl rfl hown8 hg8 rfl hat8); have h8g := G8.out.gro)
      | (have G7a := G7.out.bel ((Below.refl _ _).alloc (Nat.le_refl _) (.cells #[.string ⟨#[125]⟩] 9)); have hs7 : w0.heap.size ≤ (w7.alloc (.cells #[.string ⟨#[125]⟩] 9)).heap.size := Nat.le_trans hs0R G7a.gro.size; have hnews : ∀ j u, ([⟨#[125]⟩].map Value.string)[j]? = some u → (w7.alloc (.cells #[.string ⟨#[125]⟩] 9)).cell? ((⟨w7.heap.size, 0, none⟩ : Addr).add j) = some u := World.news_of_block (heap_alloc_new w7 (.cells #[.string ⟨#[125]⟩] 9)); refine step_append_lies _ (by rfl) _ _ 28 (by rfl) w0.heap.size 9 i _ 1 16 Tryz.underlying28 HI.out HZ0.out HZ1.out HZ2.out (by rfl) (by decide) v7 Z7.length (Z7.map Value.string) (by rfl) G7a.own ⟨w7.heap.size, 0, none⟩ 1 1 ([⟨#[125]⟩].map Value.string) (by rfl) (by rfl) hnews (strs_one _) (by decide) (by unfold maxLen; omega) (by omega) hs7 (w7.heap.size + 1) (by simp) ?_; intro g8 c8 w8 hown8 hg8 hat8 hlt8; have G8 := Lib.hid (G7a.app (n := Z7.length) (m := 1) (ys := [⟨#[125]⟩]) rfl rfl hown8 hg8 (by simp) hat8); have h8g := G8.out.gro)
      | fail)
  all_goals
    go_wp2_with fail
    go_ret
    exact ⟨_, rfl, G8.out.own, HFG.out _ G8.out.gro, HFA.out _ G8.out.atb⟩
end Go.Proofs.YtgapnafkelokaaaGreatDoor
