/- Clause, of the program and of the reference. -/
import Derived.Test.YtgapnafkelokaaaGreatDoorM24
namespace Hb
open Go Go.RowKit
def isRule (t : Tm) : Bool := t.kind == 3 && (t.name.toList == [58, 45] && t.args.length == 2)
def isTrue (u : Tm) : Bool := u.kind == 2 && u.name.toList == [116, 114, 117, 101]
/-- The term of a clause. -/
def clT (t u : Tm) : Tm := if (isRule t || !isTrue u) = true then .mk 3 0 ⟨#[58, 45]⟩ [t, u] else t
theorem clT_pair {t u : Tm} (h : isRule t = true ∨ isTrue u = false) : clT t u = .mk 3 0 ⟨#[58, 45]⟩ [t, u] := by
  unfold clT
  rw [if_pos]
  rcases h with h | h
  · rw [h]; rfl
  · rw [h]; simp
theorem clT_head {t u : Tm} (h : isRule t = false) (k : isTrue u = true) : clT t u = t := by
  unfold clT
  rw [if_neg]
  rw [h, k]; decide
def oQ : WO := ⟨true, false, false⟩
/-- What Clause gives. -/
def clR (T : List OpR) (t u : Tm) : ByteArray × Int := if (validT t && (validT u && opsValid T)) = true then limR (joinB (pcs oQ T (clT t u) 1200 false ++ [s1 46]) ++ ⟨#[10]⟩) else (⟨#[]⟩, 1)
theorem clR_no {T : List OpR} {t u : Tm} (h : (validT t && (validT u && opsValid T)) = false) : clR T t u = (⟨#[]⟩, 1) := by unfold clR; rw [h]; rfl
theorem clR_yes {T : List OpR} {t u : Tm} (h : (validT t && (validT u && opsValid T)) = true) : clR T t u = limR (joinB (pcs oQ T (clT t u) 1200 false ++ [s1 46]) ++ ⟨#[10]⟩) := by unfold clR; rw [if_pos h]
theorem clT_ok {t u : Tm} (ht : validT t = true) (hu : validT u = true) (ft : Tm.All (fun x => nodeFit x = true) t) (fu : Tm.All (fun x => nodeFit x = true) u) :
    Tm.All Okf (clT t u) ∧ (clT t u).nodes ≤ 5000 ∧ TopOk (clT t u) := by
  obtain ⟨o1, n1⟩ := Okf.of_valid ht ft
  obtain ⟨o2, n2⟩ := Okf.of_valid hu fu
  by_cases h : (isRule t || !isTrue u) = true
  · have e : clT t u = .mk 3 0 ⟨#[58, 45]⟩ [t, u] := by unfold clT; rw [if_pos h]
    rw [e]
    have hn : (Tm.mk 3 0 ⟨#[58, 45]⟩ [t, u]).nodes = 1 + (t.nodes + u.nodes) := by rw [Tm.nodes_eq]; simp [Tm.args]
    refine ⟨.mk _ ⟨by unfold nodeOk Tm.kind Tm.num Tm.name Tm.args; simp; decide, by unfold nodeFit Tm.num; rfl⟩ fun a ha => ?_, by omega, .inr ⟨rfl, by unfold condList Tm.isNm Tm.name; simp [tl_data], by omega, fun x hx => ?_⟩⟩
    · simp [Tm.args] at ha
      rcases ha with rfl | rfl
      · exact o1
      · exact o2
    · simp [Tm.args] at hx
      rcases hx with rfl | rfl
      · exact n1
      · exact n2
  · have e : clT t u = t := by unfold clT; rw [if_neg h]
    rw [e]
    exact ⟨o1, by omega, .inl n1⟩
theorem cl_small {T : List OpR} {t : Tm} (hok : Tm.All Okf t) (hn : t.nodes ≤ 5000) : (pcs oQ T t 1200 false).length ≤ 45000 ∧ ∀ s ∈ pcs oQ T t 1200 false ++ [s1 46], s.size ≤ 1000000 := by
  have h1 := pcs_len oQ T (Okf.k4 hok) 1200 false
  refine ⟨by omega, fun s hs => ?_⟩
  rcases List.mem_append.1 hs with hs | hs
  · have := pcs_small oQ T hok 1200 false s hs; omega
  · rw [List.mem_singleton] at hs; rw [hs]; show 1 ≤ _; decide
/-- The box of a clause. -/
structure CBx (w0 w : World) (t u : Tm) (A B : Option Addr) (c d : Nat) : Prop where
  bel : Below w0.heap.size w0 w
  lt : w0.heap.size < w.heap.size
  c0 : w.cell? ⟨w0.heap.size, 0, none⟩ = some (.int .i64 t.kind)
  c1 : w.cell? ⟨w0.heap.size, 1, none⟩ = some (.int .i64 t.num)
  c2 : w.cell? ⟨w0.heap.size, 2, none⟩ = some (.string t.name)
  c3 : w.cell? ⟨w0.heap.size, 3, none⟩ = some (.slice A t.args.length c)
  c4 : w.cell? ⟨w0.heap.size, 4, none⟩ = some (.int .i64 u.kind)
  c5 : w.cell? ⟨w0.heap.size, 5, none⟩ = some (.int .i64 u.num)
  c6 : w.cell? ⟨w0.heap.size, 6, none⟩ = some (.string u.name)
  c7 : w.cell? ⟨w0.heap.size, 7, none⟩ = some (.slice B u.args.length d)
theorem CBx.call {w0 w w' : World} {t u : Tm} {A B : Option Addr} {c d : Nat} (h : CBx w0 w t u A B c d) (hB : Below w.heap.size w w') : CBx w0 w' t u A B c d :=
  ⟨h.bel.trans (hB.mono h.bel.size), Nat.lt_of_lt_of_le h.lt hB.size, (hB.cell (p := ⟨_, _, none⟩) h.lt).trans h.c0, (hB.cell (p := ⟨_, _, none⟩) h.lt).trans h.c1, (hB.cell (p := ⟨_, _, none⟩) h.lt).trans h.c2, (hB.cell (p := ⟨_, _, none⟩) h.lt).trans h.c3,
   (hB.cell (p := ⟨_, _, none⟩) h.lt).trans h.c4, (hB.cell (p := ⟨_, _, none⟩) h.lt).trans h.c5, (hB.cell (p := ⟨_, _, none⟩) h.lt).trans h.c6, (hB.cell (p := ⟨_, _, none⟩) h.lt).trans h.c7⟩
theorem CBx.start (w : World) (t u : Tm) (A B : Option Addr) (c d LN MN : Nat) (e : TypeId) (hL : LN = t.args.length) (hM : MN = u.args.length) :
    CBx w (w.alloc (.cells #[.int .i64 t.kind, .int .i64 t.num, .string t.name, .slice A LN c, .int .i64 u.kind, .int .i64 u.num, .string u.name, .slice B MN d] e)) t u A B c d := by
  subst hL hM
  have b : ∀ j, (w.alloc (.cells #[.int .i64 t.kind, .int .i64 t.num, .string t.name, .slice A t.args.length c, .int .i64 u.kind, .int .i64 u.num, .string u.name, .slice B u.args.length d] e)).cell? ⟨w.heap.size, j, none⟩ = (#[.int .i64 t.kind, .int .i64 t.num, .string t.name, .slice A t.args.length c, .int .i64 u.kind, .int .i64 u.num, .string u.name, .slice B u.args.length d] : Array Value)[j]? := fun j => World.cell?_alloc_new w _ e j
  exact ⟨(Below.refl _ _).alloc (Nat.le_refl _) _, by simp, b 0, b 1, b 2, b 3, b 4, b 5, b 6, b 7⟩
/-- The value of a clause. -/
def clV (t u : Tm) (A B : Option Addr) (c d : Nat) : Value := .agg #[.int .i64 t.kind, .int .i64 t.num, .string t.name, .slice A t.args.length c, .int .i64 u.kind, .int .i64 u.num, .string u.name, .slice B u.args.length d]
/-- The row of a clause's two terms. -/
theorem cl_row {w0 W : World} {t u : Tm} {A B : Option Addr} {c d LN MN : Nat} (e : TypeId) (hL : LN = t.args.length) (hM : MN = u.args.length) (hT : TmsAt w0.heap.size w0 A t.args) (hU : TmsAt w0.heap.size w0 B u.args) (hB : Below w0.heap.size w0 W) :
    TmsAt (W.alloc (.cells #[.int .i64 t.kind, .int .i64 t.num, .string t.name, .slice A LN c, .int .i64 u.kind, .int .i64 u.num, .string u.name, .slice B MN d] e)).heap.size (W.alloc (.cells #[.int .i64 t.kind, .int .i64 t.num, .string t.name, .slice A LN c, .int .i64 u.kind, .int .i64 u.num, .string u.name, .slice B MN d] e)) (some ⟨W.heap.size, 0, none⟩) (Tm.mk 3 0 ⟨#[58, 45]⟩ [t, u]).args := by
  subst hL hM
  have h := tms_row (w := W) e [(t, A, c), (u, B, d)] (by unfold maxLen; simp) (fun r hr => by
    simp at hr
    rcases hr with rfl | rfl
    · exact (hT.keep hB).mono hB.size
    · exact (hU.keep hB).mono hB.size)
  exact h
end Hb
namespace Go.Proofs.YtgapnafkelokaaaGreatDoor
open Go.RowKit Hb
set_option maxRecDepth 100000
theorem cl_pok {T : List OpR} {TA : Option Addr} {TN TC : Nat} {t u : Tm} (ht : validT t = true) (hu : validT u = true) (ft : Tm.All (fun x => nodeFit x = true) t) (fu : Tm.All (fun x => nodeFit x = true) u) : POK oQ T TA TN TC (str oQ T) (clT t u) := by
  obtain ⟨h1, h2, h3⟩ := clT_ok ht hu ft fu
  rcases h3 with h3 | ⟨h3, h4, _, h5⟩
  · exact w_pok h3 h1
  · exact w_top h3 h4 h2 h1 h5
set_option maxHeartbeats 6400000 in
theorem w_clause {T : List OpR} {TA : Option Addr} {TN TC : Nat} {t u : Tm} (ft : Tm.All (fun x => nodeFit x = true) t) (fu : Tm.All (fun x => nodeFit x = true) u) (A B : Option Addr) (c d : Nat) (w : World) (hD : DoorOk w) (hm : TN ≤ maxLen) (hTab : Tab w TA TN TC T) (hT : TmsAt w.heap.size w A t.args) (hU : TmsAt w.heap.size w B u.args) :
    Calls Tryz.prog 16 #[clV t u A B c d, .slice TA TN TC] w fun e w' => e = .returned (.tuple #[.string (clR T t u).1, .int .i64 (clR T t u).2]) ∧ Below w.heap.size w w' := by
  have HX := Lib.hid (CBx.start w t u A B c d t.args.length u.args.length 38 rfl rfl)
  have HV1 := Lib.hid (fun W (h : CBx w W t u A B c d) => (t_valid t A c W ((hT.keep h.bel).mono h.bel.size)).mono fun _ _ hh => (⟨hh.1, h.call hh.2⟩ : _ ∧ CBx w _ t u A B c d))
  have HV2 := Lib.hid (fun W (h : CBx w W t u A B c d) => (t_valid u B d W ((hU.keep h.bel).mono h.bel.size)).mono fun _ _ hh => (⟨hh.1, h.call hh.2⟩ : _ ∧ CBx w _ t u A B c d))
  have HV3 := Lib.hid (fun W (h : CBx w W t u A B c d) => (ops_validL TA TN TC T W hTab.len hm (hTab.below h.bel).ops).mono fun _ _ hh => (⟨hh.1, h.call hh.2⟩ : _ ∧ CBx w _ t u A B c d))
  cases h1 : validT t
  · have HN := Lib.hid (clR_no (T := T) (t := t) (u := u) (by rw [h1]; rfl))
    rw [h1] at HV1
    rw [HN.out]
    clear HV2 HV3 h1 hT hU hTab ft fu hD
    unfold tmV clV at *
    generalize hLN : t.args.length = LN at *
    generalize hMN : u.args.length = MN at *
    have HL := Lib.hid hLN
    have HM := Lib.hid hMN
    clear hLN hMN
    go_enter Tryz.func16, Tryz.ntmps16
    go_wp2_with fail
    refine (HV1.out _ HX.out).mono ?_; rintro e w1 ⟨rfl, hX1⟩
    have hbel := hX1.bel
    go_wp2_with fail
    exact bodyPost_ret (v := .tuple #[.string ⟨#[]⟩, .int .i64 1]) (by simp [results, Tryz.results16, go_sem]) rfl ⟨rfl, hbel⟩
  cases h2 : validT u
  · have HN := Lib.hid (clR_no (T := T) (t := t) (u := u) (by rw [h1, h2]; rfl))
    rw [h1] at HV1
    rw [h2] at HV2
    rw [HN.out]
    clear HV3 h1 h2 hT hU hTab ft fu hD
    unfold tmV clV at *
    generalize hLN : t.args.length = LN at *
    generalize hMN : u.args.length = MN at *
    have HL := Lib.hid hLN
    have HM := Lib.hid hMN
    clear hLN hMN
    go_enter Tryz.func16, Tryz.ntmps16
    go_wp2_with fail
    refine (HV1.out _ HX.out).mono ?_; rintro e w1 ⟨rfl, hX1⟩
    have c4 := hX1.c4
    have c5 := hX1.c5
    have c6 := hX1.c6
    have c7 := hX1.c7
    rw [HM.out] at c7
    go_wp2_with fail
    refine (HV2.out _ hX1).mono ?_; rintro e w2 ⟨rfl, hX2⟩
    have hbel := hX2.bel
    go_wp2_with fail
    exact bodyPost_ret (v := .tuple #[.string ⟨#[]⟩, .int .i64 1]) (by simp [results, Tryz.results16, go_sem]) rfl ⟨rfl, hbel⟩
  cases h3 : opsValid T
  · have HN := Lib.hid (clR_no (T := T) (t := t) (u := u) (by rw [h1, h2, h3]; rfl))
    rw [h1] at HV1
    rw [h2] at HV2
    rw [h3] at HV3
    rw [HN.out]
    clear  h1 h2 h3 hT hU hTab ft fu hD
    unfold tmV clV at *
    generalize hLN : t.args.length = LN at *
    generalize hMN : u.args.length = MN at *
    have HL := Lib.hid hLN
    have HM := Lib.hid hMN
    clear hLN hMN
    go_enter Tryz.func16, Tryz.ntmps16
    go_wp2_with fail
    refine (HV1.out _ HX.out).mono ?_; rintro e w1 ⟨rfl, hX1⟩
    have c4 := hX1.c4
    have c5 := hX1.c5
    have c6 := hX1.c6
    have c7 := hX1.c7
    rw [HM.out] at c7
    go_wp2_with fail
    refine (HV2.out _ hX1).mono ?_; rintro e w2 ⟨rfl, hX2⟩
    go_wp2_with fail
    refine (HV3.out _ hX2).mono ?_; rintro e w3 ⟨rfl, hX3⟩
    have hbel := hX3.bel
    go_wp2_with fail
    exact bodyPost_ret (v := .tuple #[.string ⟨#[]⟩, .int .i64 1]) (by simp [results, Tryz.results16, go_sem]) rfl ⟨rfl, hbel⟩
  have HN := Lib.hid (clR_yes (T := T) (t := t) (u := u) (by rw [h1, h2, h3]; rfl))
  obtain ⟨k1, k2, k5⟩ := clT_ok h1 h2 ft fu
  obtain ⟨k3, k4⟩ := cl_small (T := T) k1 k2
  have few : TN ≤ 400 := by have := valid_few h3; have := hTab.len; omega
  have HTM := Lib.hid (fun A' c' W (h : Below w.heap.size w W) (hA : TmsAt W.heap.size W A' (clT t u).args) => w_term (cl_pok (T := T) (TA := TA) (TN := TN) (TC := TC) h1 h2 ft fu) 1200 A' c' W ⟨hD.below h, hTab.below h, few⟩ hA)
  have HTP : Hid (clT t u = .mk 3 0 ⟨#[58, 45]⟩ [t, u] → ∀ W g, Below w.heap.size w W → TmsAt W.heap.size W (some ⟨g, 0, none⟩) (Tm.mk 3 0 ⟨#[58, 45]⟩ [t, u]).args → Calls Tryz.prog 32 #[wrV oQ TA TN TC, .agg #[.int .i64 3, .int .i64 0, .string ⟨#[58, 45]⟩, .slice (some ⟨g, 0, none⟩) 2 2], .int .i64 1200] W fun e w' => ∃ v, e = .returned v ∧ Below w.heap.size w w' ∧ OwnS 9 w.heap.size w' v (pcs oQ T (clT t u) 1200 false)) := Lib.hid (fun h W g hb ha => by
    have := HTM.out (some ⟨g, 0, none⟩) 2 W hb (by rw [h]; exact ha)
    rw [h] at this ⊢
    exact this.mono fun _ _ hh => hh.imp fun _ hv => ⟨hv.1, hb.trans (hv.2.1.mono hb.size), hv.2.2.mono hb.size⟩)
  have HTH : Hid (clT t u = t → ∀ W, Below w.heap.size w W → Calls Tryz.prog 32 #[wrV oQ TA TN TC, tmV t A c, .int .i64 1200] W fun e w' => ∃ v, e = .returned v ∧ Below w.heap.size w w' ∧ OwnS 9 w.heap.size w' v (pcs oQ T (clT t u) 1200 false)) := Lib.hid (fun h W hb => by
    have := HTM.out A c W hb (by rw [h]; exact (hT.keep hb).mono hb.size)
    rw [h] at this ⊢
    exact this.mono fun _ _ hh => hh.imp fun _ hv => ⟨hv.1, hb.trans (hv.2.1.mono hb.size), hv.2.2.mono hb.size⟩)
  have HROW := Lib.hid (fun W g (hb : Below w.heap.size w W) (hg : W.heap.size = g) => (by have := cl_row (w0 := w) (W := W) (t := t) (u := u) (c := c) (d := d) 24 rfl rfl hT hU hb; rw [hg] at this; exact this : TmsAt (W.alloc (.cells #[.int .i64 t.kind, .int .i64 t.num, .string t.name, .slice A t.args.length c, .int .i64 u.kind, .int .i64 u.num, .string u.name, .slice B u.args.length d] 24)).heap.size (W.alloc (.cells #[.int .i64 t.kind, .int .i64 t.num, .string t.name, .slice A t.args.length c, .int .i64 u.kind, .int .i64 u.num, .string u.name, .slice B u.args.length d] 24)) (some ⟨g, 0, none⟩) (Tm.mk 3 0 ⟨#[58, 45]⟩ [t, u]).args))
  have HJ := Lib.hid (fun v W (h : OwnS 9 w.heap.size W v (pcs oQ T (clT t u) 1200 false ++ [s1 46])) => w_joinO W h (by rw [List.length_append]; show _ + 1 ≤ _; omega) k4)
  have hjs := joinB_size k4 (by rw [List.length_append]; show _ + 1 ≤ _; omega)
  have HLM := Lib.hid (fun W => w_limited (joinB (pcs oQ T (clT t u) 1200 false ++ [s1 46]) ++ ⟨#[10]⟩) W (by rw [app_size']; unfold maxLen; show _ + 1 ≤ _; omega))
  rw [h1] at HV1
  rw [h2] at HV2
  rw [h3] at HV3
  rw [HN.out]
  clear h1 h2 h3 hT hU hTab ft fu hD k1 k2 k4 k5 few HN HTM
  have HCP := Lib.hid (clT_pair (t := t) (u := u))
  have HCH := Lib.hid (clT_head (t := t) (u := u))
  generalize limR (joinB (pcs oQ T (clT t u) 1200 false ++ [s1 46]) ++ ⟨#[10]⟩) = r at *
  generalize joinB (pcs oQ T (clT t u) 1200 false ++ [s1 46]) = js at *
  generalize pcs oQ T (clT t u) 1200 false = ps at *
  generalize clT t u = q at *
  have HR : Hid (isRule t = (t.kind == 3 && (t.name.toList == [58, 45] && t.args.length == 2))) := Lib.hid rfl
  have HTR : Hid (isTrue u = (u.kind == 2 && u.name.toList == [116, 114, 117, 101])) := Lib.hid rfl
  unfold tmV clV wrV oQ at *
  generalize hLN : t.args.length = LN at *
  generalize hMN : u.args.length = MN at *
  have HL := Lib.hid hLN
  have HM := Lib.hid hMN
  clear hLN hMN
  go_enter Tryz.func16, Tryz.ntmps16
  go_wp2_with fail
  refine (HV1.out _ HX.out).mono ?_; rintro e w1 ⟨rfl, hX1⟩
  have c4 := hX1.c4
  have c5 := hX1.c5
  have c6 := hX1.c6
  have c7 := hX1.c7
  rw [HM.out] at c7
  go_wp2_with fail
  refine (HV2.out _ hX1).mono ?_; rintro e w2 ⟨rfl, hX2⟩
  clear c4 c5 c6 c7
  go_wp2_with fail
  refine (HV3.out _ hX2).mono ?_; rintro e w3 ⟨rfl, hX3⟩
  have hbel := hX3.bel
  have hlt := hX3.lt
  have c0 := hX3.c0
  have c1 := hX3.c1
  have c2 := hX3.c2
  have c3 := hX3.c3
  have c4 := hX3.c4
  have c5 := hX3.c5
  have c6 := hX3.c6
  have c7 := hX3.c7
  rw [HL.out] at c3
  rw [HM.out] at c7
  have hbs := hbel.size
  have HSA : Hid (∀ o, (w3.alloc o).heap.size = w3.heap.size + 1) := Lib.hid (fun o => by simp)
  clear hX1 hX2 hX3 HX HV1 HV2 HV3 HL HM
  generalize t.kind = a0 at *
  generalize t.num = a1 at *
  generalize t.name = a2 at *
  generalize u.kind = b0 at *
  generalize u.num = b1 at *
  generalize u.name = b2 at *
  by_cases f0 : a0 = 3
  · subst f0
    cases f1 : (a2.toList == [58, 45])
    · have f2 : ¬ a2.toList = [58, 45] := by simpa using f1
      have hR : isRule t = false := by rw [HR.out, f1]; rfl
      by_cases g0 : b0 = 2
      · subst g0
        cases g1 : (b2.toList == [116, 114, 117, 101])
        · have g2 : ¬ b2.toList = [116, 114, 117, 101] := by simpa using g1
          have hQ : isTrue u = false := by rw [HTR.out, g1]; rfl
          go_wp2_with fail
          refine (HTP.out (HCP.out (.inr hQ)) _ _ ?_ (HROW.out _ _ ?_ ?_)).mono ?_
          · exact (hbel.alloc hbs _).alloc (by rw [HSA.out]; omega) _
          · exact hbel.alloc hbs _
          · exact HSA.out _
          rintro e w5 ⟨v5, rfl, hB5, hO5⟩
          have hb5 := hB5
          have hs5 := hb5.size
          have HO5 := Lib.hid hO5
          clear hO5
          go_wp2_with ((with_reducible refine at_appSS ?_); refine wpList_append_one rfl _ _ 28 9 rfl Tryz.underlying28 _ 1 16 infoStr rfl (by decide) w.heap.size _ _ _ rfl w5 HO5.out #[.string ⟨#[46]⟩] rfl (by simp [Value.oneCell']) rfl rfl (by omega) (by omega) hs5 ?_; intro v6 w6 ho6 hB6 hg6)
          have HO6 : Hid (OwnS 9 w.heap.size w6 v6 (ps ++ [s1 46])) := Lib.hid (OwnS.snoc (m := [s1 46]) ho6)
          have hb6 := hb5.trans hB6
          clear ho6 hg6 hB6
          refine (HJ.out _ _ HO6.out).mono ?_; rintro e w7 ⟨rfl, hB7⟩
          have hb7 := hb6.trans (hB7.mono hb6.size)
          go_wp2_with fail
          refine (HLM.out _).mono ?_; rintro e w8 ⟨rfl, rfl⟩
          go_wp2_with fail
          exact bodyPost_ret (v := .tuple #[.string r.1, .int .i64 r.2]) (by simp [results, Tryz.results16, go_sem]) rfl ⟨rfl, hb7⟩
        · have g2 : b2.toList = [116, 114, 117, 101] := by simpa using g1
          have hQ : isTrue u = true := by rw [HTR.out, g1]; rfl
          go_wp2_with fail
          refine (HTH.out (HCH.out hR hQ) _ ?_).mono ?_
          · exact hbel.alloc hbs _
          rintro e w5 ⟨v5, rfl, hB5, hO5⟩
          have hb5 := hB5
          have hs5 := hb5.size
          have HO5 := Lib.hid hO5
          clear hO5
          go_wp2_with ((with_reducible refine at_appSS ?_); refine wpList_append_one rfl _ _ 28 9 rfl Tryz.underlying28 _ 1 16 infoStr rfl (by decide) w.heap.size _ _ _ rfl w5 HO5.out #[.string ⟨#[46]⟩] rfl (by simp [Value.oneCell']) rfl rfl (by omega) (by omega) hs5 ?_; intro v6 w6 ho6 hB6 hg6)
          have HO6 : Hid (OwnS 9 w.heap.size w6 v6 (ps ++ [s1 46])) := Lib.hid (OwnS.snoc (m := [s1 46]) ho6)
          have hb6 := hb5.trans hB6
          clear ho6 hg6 hB6
          refine (HJ.out _ _ HO6.out).mono ?_; rintro e w7 ⟨rfl, hB7⟩
          have hb7 := hb6.trans (hB7.mono hb6.size)
          go_wp2_with fail
          refine (HLM.out _).mono ?_; rintro e w8 ⟨rfl, rfl⟩
          go_wp2_with fail
          exact bodyPost_ret (v := .tuple #[.string r.1, .int .i64 r.2]) (by simp [results, Tryz.results16, go_sem]) rfl ⟨rfl, hb7⟩
      · have g3 : (b0 == 2) = false := by simpa using g0
        have hQ : isTrue u = false := by rw [HTR.out, g3]; rfl
        go_wp2_with fail
        refine (HTP.out (HCP.out (.inr hQ)) _ _ ?_ (HROW.out _ _ ?_ ?_)).mono ?_
        · exact (hbel.alloc hbs _).alloc (by rw [HSA.out]; omega) _
        · exact hbel.alloc hbs _
        · exact HSA.out _
        rintro e w5 ⟨v5, rfl, hB5, hO5⟩
        have hb5 := hB5
        have hs5 := hb5.size
        have HO5 := Lib.hid hO5
        clear hO5
        go_wp2_with ((with_reducible refine at_appSS ?_); refine wpList_append_one rfl _ _ 28 9 rfl Tryz.underlying28 _ 1 16 infoStr rfl (by decide) w.heap.size _ _ _ rfl w5 HO5.out #[.string ⟨#[46]⟩] rfl (by simp [Value.oneCell']) rfl rfl (by omega) (by omega) hs5 ?_; intro v6 w6 ho6 hB6 hg6)
        have HO6 : Hid (OwnS 9 w.heap.size w6 v6 (ps ++ [s1 46])) := Lib.hid (OwnS.snoc (m := [s1 46]) ho6)
        have hb6 := hb5.trans hB6
        clear ho6 hg6 hB6
        refine (HJ.out _ _ HO6.out).mono ?_; rintro e w7 ⟨rfl, hB7⟩
        have hb7 := hb6.trans (hB7.mono hb6.size)
        go_wp2_with fail
        refine (HLM.out _).mono ?_; rintro e w8 ⟨rfl, rfl⟩
        go_wp2_with fail
        exact bodyPost_ret (v := .tuple #[.string r.1, .int .i64 r.2]) (by simp [results, Tryz.results16, go_sem]) rfl ⟨rfl, hb7⟩
    · have f2 : a2.toList = [58, 45] := by simpa using f1
      by_cases f3 : LN = 2
      · subst f3
        have hR : isRule t = true := by rw [HR.out, f1]; rfl
        go_wp2_with fail
        refine (HTP.out (HCP.out (.inl hR)) _ _ ?_ (HROW.out _ _ ?_ ?_)).mono ?_
        · exact (hbel.alloc hbs _).alloc (by rw [HSA.out]; omega) _
        · exact hbel.alloc hbs _
        · exact HSA.out _
        rintro e w5 ⟨v5, rfl, hB5, hO5⟩
        have hb5 := hB5
        have hs5 := hb5.size
        have HO5 := Lib.hid hO5
        clear hO5
        go_wp2_with ((with_reducible refine at_appSS ?_); refine wpList_append_one rfl _ _ 28 9 rfl Tryz.underlying28 _ 1 16 infoStr rfl (by decide) w.heap.size _ _ _ rfl w5 HO5.out #[.string ⟨#[46]⟩] rfl (by simp [Value.oneCell']) rfl rfl (by omega) (by omega) hs5 ?_; intro v6 w6 ho6 hB6 hg6)
        have HO6 : Hid (OwnS 9 w.heap.size w6 v6 (ps ++ [s1 46])) := Lib.hid (OwnS.snoc (m := [s1 46]) ho6)
        have hb6 := hb5.trans hB6
        clear ho6 hg6 hB6
        refine (HJ.out _ _ HO6.out).mono ?_; rintro e w7 ⟨rfl, hB7⟩
        have hb7 := hb6.trans (hB7.mono hb6.size)
        go_wp2_with fail
        refine (HLM.out _).mono ?_; rintro e w8 ⟨rfl, rfl⟩
        go_wp2_with fail
        exact bodyPost_ret (v := .tuple #[.string r.1, .int .i64 r.2]) (by simp [results, Tryz.results16, go_sem]) rfl ⟨rfl, hb7⟩
      · have f4 : (LN == 2) = false := by simpa using f3
        have f5 : ((LN : Int) == 2) = false := by simp; omega
        have f6 : ¬ (LN : Int) = 2 := by omega
        have hR : isRule t = false := by rw [HR.out, f1, f4]; rfl
        by_cases g0 : b0 = 2
        · subst g0
          cases g1 : (b2.toList == [116, 114, 117, 101])
          · have g2 : ¬ b2.toList = [116, 114, 117, 101] := by simpa using g1
            have hQ : isTrue u = false := by rw [HTR.out, g1]; rfl
            go_wp2_with fail
            refine (HTP.out (HCP.out (.inr hQ)) _ _ ?_ (HROW.out _ _ ?_ ?_)).mono ?_
            · exact (hbel.alloc hbs _).alloc (by rw [HSA.out]; omega) _
            · exact hbel.alloc hbs _
            · exact HSA.out _
            rintro e w5 ⟨v5, rfl, hB5, hO5⟩
            have hb5 := hB5
            have hs5 := hb5.size
            have HO5 := Lib.hid hO5
            clear hO5
            go_wp2_with ((with_reducible refine at_appSS ?_); refine wpList_append_one rfl _ _ 28 9 rfl Tryz.underlying28 _ 1 16 infoStr rfl (by decide) w.heap.size _ _ _ rfl w5 HO5.out #[.string ⟨#[46]⟩] rfl (by simp [Value.oneCell']) rfl rfl (by omega) (by omega) hs5 ?_; intro v6 w6 ho6 hB6 hg6)
            have HO6 : Hid (OwnS 9 w.heap.size w6 v6 (ps ++ [s1 46])) := Lib.hid (OwnS.snoc (m := [s1 46]) ho6)
            have hb6 := hb5.trans hB6
            clear ho6 hg6 hB6
            refine (HJ.out _ _ HO6.out).mono ?_; rintro e w7 ⟨rfl, hB7⟩
            have hb7 := hb6.trans (hB7.mono hb6.size)
            go_wp2_with fail
            refine (HLM.out _).mono ?_; rintro e w8 ⟨rfl, rfl⟩
            go_wp2_with fail
            exact bodyPost_ret (v := .tuple #[.string r.1, .int .i64 r.2]) (by simp [results, Tryz.results16, go_sem]) rfl ⟨rfl, hb7⟩
          · have g2 : b2.toList = [116, 114, 117, 101] := by simpa using g1
            have hQ : isTrue u = true := by rw [HTR.out, g1]; rfl
            go_wp2_with fail
            refine (HTH.out (HCH.out hR hQ) _ ?_).mono ?_
            · exact hbel.alloc hbs _
            rintro e w5 ⟨v5, rfl, hB5, hO5⟩
            have hb5 := hB5
            have hs5 := hb5.size
            have HO5 := Lib.hid hO5
            clear hO5
            go_wp2_with ((with_reducible refine at_appSS ?_); refine wpList_append_one rfl _ _ 28 9 rfl Tryz.underlying28 _ 1 16 infoStr rfl (by decide) w.heap.size _ _ _ rfl w5 HO5.out #[.string ⟨#[46]⟩] rfl (by simp [Value.oneCell']) rfl rfl (by omega) (by omega) hs5 ?_; intro v6 w6 ho6 hB6 hg6)
            have HO6 : Hid (OwnS 9 w.heap.size w6 v6 (ps ++ [s1 46])) := Lib.hid (OwnS.snoc (m := [s1 46]) ho6)
            have hb6 := hb5.trans hB6
            clear ho6 hg6 hB6
            refine (HJ.out _ _ HO6.out).mono ?_; rintro e w7 ⟨rfl, hB7⟩
            have hb7 := hb6.trans (hB7.mono hb6.size)
            go_wp2_with fail
            refine (HLM.out _).mono ?_; rintro e w8 ⟨rfl, rfl⟩
            go_wp2_with fail
            exact bodyPost_ret (v := .tuple #[.string r.1, .int .i64 r.2]) (by simp [results, Tryz.results16, go_sem]) rfl ⟨rfl, hb7⟩
        · have g3 : (b0 == 2) = false := by simpa using g0
          have hQ : isTrue u = false := by rw [HTR.out, g3]; rfl
          go_wp2_with fail
          refine (HTP.out (HCP.out (.inr hQ)) _ _ ?_ (HROW.out _ _ ?_ ?_)).mono ?_
          · exact (hbel.alloc hbs _).alloc (by rw [HSA.out]; omega) _
          · exact hbel.alloc hbs _
          · exact HSA.out _
          rintro e w5 ⟨v5, rfl, hB5, hO5⟩
          have hb5 := hB5
          have hs5 := hb5.size
          have HO5 := Lib.hid hO5
          clear hO5
          go_wp2_with ((with_reducible refine at_appSS ?_); refine wpList_append_one rfl _ _ 28 9 rfl Tryz.underlying28 _ 1 16 infoStr rfl (by decide) w.heap.size _ _ _ rfl w5 HO5.out #[.string ⟨#[46]⟩] rfl (by simp [Value.oneCell']) rfl rfl (by omega) (by omega) hs5 ?_; intro v6 w6 ho6 hB6 hg6)
          have HO6 : Hid (OwnS 9 w.heap.size w6 v6 (ps ++ [s1 46])) := Lib.hid (OwnS.snoc (m := [s1 46]) ho6)
          have hb6 := hb5.trans hB6
          clear ho6 hg6 hB6
          refine (HJ.out _ _ HO6.out).mono ?_; rintro e w7 ⟨rfl, hB7⟩
          have hb7 := hb6.trans (hB7.mono hb6.size)
          go_wp2_with fail
          refine (HLM.out _).mono ?_; rintro e w8 ⟨rfl, rfl⟩
          go_wp2_with fail
          exact bodyPost_ret (v := .tuple #[.string r.1, .int .i64 r.2]) (by simp [results, Tryz.results16, go_sem]) rfl ⟨rfl, hb7⟩
  · have f4 : (a0 == 3) = false := by simpa using f0
    have hR : isRule t = false := by rw [HR.out, f4]; rfl
    by_cases g0 : b0 = 2
    · subst g0
      cases g1 : (b2.toList == [116, 114, 117, 101])
      · have g2 : ¬ b2.toList = [116, 114, 117, 101] := by simpa using g1
        have hQ : isTrue u = false := by rw [HTR.out, g1]; rfl
        go_wp2_with fail
        refine (HTP.out (HCP.out (.inr hQ)) _ _ ?_ (HROW.out _ _ ?_ ?_)).mono ?_
        · exact (hbel.alloc hbs _).alloc (by rw [HSA.out]; omega) _
        · exact hbel.alloc hbs _
        · exact HSA.out _
        rintro e w5 ⟨v5, rfl, hB5, hO5⟩
        have hb5 := hB5
        have hs5 := hb5.size
        have HO5 := Lib.hid hO5
        clear hO5
        go_wp2_with ((with_reducible refine at_appSS ?_); refine wpList_append_one rfl _ _ 28 9 rfl Tryz.underlying28 _ 1 16 infoStr rfl (by decide) w.heap.size _ _ _ rfl w5 HO5.out #[.string ⟨#[46]⟩] rfl (by simp [Value.oneCell']) rfl rfl (by omega) (by omega) hs5 ?_; intro v6 w6 ho6 hB6 hg6)
        have HO6 : Hid (OwnS 9 w.heap.size w6 v6 (ps ++ [s1 46])) := Lib.hid (OwnS.snoc (m := [s1 46]) ho6)
        have hb6 := hb5.trans hB6
        clear ho6 hg6 hB6
        refine (HJ.out _ _ HO6.out).mono ?_; rintro e w7 ⟨rfl, hB7⟩
        have hb7 := hb6.trans (hB7.mono hb6.size)
        go_wp2_with fail
        refine (HLM.out _).mono ?_; rintro e w8 ⟨rfl, rfl⟩
        go_wp2_with fail
        exact bodyPost_ret (v := .tuple #[.string r.1, .int .i64 r.2]) (by simp [results, Tryz.results16, go_sem]) rfl ⟨rfl, hb7⟩
      · have g2 : b2.toList = [116, 114, 117, 101] := by simpa using g1
        have hQ : isTrue u = true := by rw [HTR.out, g1]; rfl
        go_wp2_with fail
        refine (HTH.out (HCH.out hR hQ) _ ?_).mono ?_
        · exact hbel.alloc hbs _
        rintro e w5 ⟨v5, rfl, hB5, hO5⟩
        have hb5 := hB5
        have hs5 := hb5.size
        have HO5 := Lib.hid hO5
        clear hO5
        go_wp2_with ((with_reducible refine at_appSS ?_); refine wpList_append_one rfl _ _ 28 9 rfl Tryz.underlying28 _ 1 16 infoStr rfl (by decide) w.heap.size _ _ _ rfl w5 HO5.out #[.string ⟨#[46]⟩] rfl (by simp [Value.oneCell']) rfl rfl (by omega) (by omega) hs5 ?_; intro v6 w6 ho6 hB6 hg6)
        have HO6 : Hid (OwnS 9 w.heap.size w6 v6 (ps ++ [s1 46])) := Lib.hid (OwnS.snoc (m := [s1 46]) ho6)
        have hb6 := hb5.trans hB6
        clear ho6 hg6 hB6
        refine (HJ.out _ _ HO6.out).mono ?_; rintro e w7 ⟨rfl, hB7⟩
        have hb7 := hb6.trans (hB7.mono hb6.size)
        go_wp2_with fail
        refine (HLM.out _).mono ?_; rintro e w8 ⟨rfl, rfl⟩
        go_wp2_with fail
        exact bodyPost_ret (v := .tuple #[.string r.1, .int .i64 r.2]) (by simp [results, Tryz.results16, go_sem]) rfl ⟨rfl, hb7⟩
    · have g3 : (b0 == 2) = false := by simpa using g0
      have hQ : isTrue u = false := by rw [HTR.out, g3]; rfl
      go_wp2_with fail
      refine (HTP.out (HCP.out (.inr hQ)) _ _ ?_ (HROW.out _ _ ?_ ?_)).mono ?_
      · exact (hbel.alloc hbs _).alloc (by rw [HSA.out]; omega) _
      · exact hbel.alloc hbs _
      · exact HSA.out _
      rintro e w5 ⟨v5, rfl, hB5, hO5⟩
      have hb5 := hB5
      have hs5 := hb5.size
      have HO5 := Lib.hid hO5
      clear hO5
      go_wp2_with ((with_reducible refine at_appSS ?_); refine wpList_append_one rfl _ _ 28 9 rfl Tryz.underlying28 _ 1 16 infoStr rfl (by decide) w.heap.size _ _ _ rfl w5 HO5.out #[.string ⟨#[46]⟩] rfl (by simp [Value.oneCell']) rfl rfl (by omega) (by omega) hs5 ?_; intro v6 w6 ho6 hB6 hg6)
      have HO6 : Hid (OwnS 9 w.heap.size w6 v6 (ps ++ [s1 46])) := Lib.hid (OwnS.snoc (m := [s1 46]) ho6)
      have hb6 := hb5.trans hB6
      clear ho6 hg6 hB6
      refine (HJ.out _ _ HO6.out).mono ?_; rintro e w7 ⟨rfl, hB7⟩
      have hb7 := hb6.trans (hB7.mono hb6.size)
      go_wp2_with fail
      refine (HLM.out _).mono ?_; rintro e w8 ⟨rfl, rfl⟩
      go_wp2_with fail
      exact bodyPost_ret (v := .tuple #[.string r.1, .int .i64 r.2]) (by simp [results, Tryz.results16, go_sem]) rfl ⟨rfl, hb7⟩
set_option maxHeartbeats 6400000 in
theorem r_clause {T : List OpR} {TA : Option Addr} {TN TC : Nat} {t u : Tm} (ft : Tm.All (fun x => nodeFit x = true) t) (fu : Tm.All (fun x => nodeFit x = true) u) (A B : Option Addr) (c d : Nat) (w : World) (hm : TN ≤ maxLen) (hTab : Tab w TA TN TC T) (hT : TmsAt w.heap.size w A t.args) (hU : TmsAt w.heap.size w B u.args) :
    Calls Tryz.prog 17 #[clV t u A B c d, .slice TA TN TC] w fun e w' => e = .returned (.tuple #[.string (clR T t u).1, .int .i64 (clR T t u).2]) ∧ Below w.heap.size w w' := by
  have HX := Lib.hid (CBx.start w t u A B c d t.args.length u.args.length 38 rfl rfl)
  have HV1 := Lib.hid (fun W (h : CBx w W t u A B c d) => (ref_tvalid t A c W ((hT.keep h.bel).mono h.bel.size)).mono fun _ _ hh => (⟨hh.1, h.call hh.2⟩ : _ ∧ CBx w _ t u A B c d))
  have HV2 := Lib.hid (fun W (h : CBx w W t u A B c d) => (ref_tvalid u B d W ((hU.keep h.bel).mono h.bel.size)).mono fun _ _ hh => (⟨hh.1, h.call hh.2⟩ : _ ∧ CBx w _ t u A B c d))
  have HV3 := Lib.hid (fun W (h : CBx w W t u A B c d) => (ref_validL TA TN TC T W hTab.len hm (hTab.below h.bel).ops).mono fun _ _ hh => (⟨hh.1, h.call hh.2⟩ : _ ∧ CBx w _ t u A B c d))
  cases h1 : validT t
  · have HN := Lib.hid (clR_no (T := T) (t := t) (u := u) (by rw [h1]; rfl))
    rw [h1] at HV1
    rw [HN.out]
    clear HV2 HV3 h1 hT hU hTab ft fu
    unfold tmV clV at *
    generalize hLN : t.args.length = LN at *
    generalize hMN : u.args.length = MN at *
    have HL := Lib.hid hLN
    have HM := Lib.hid hMN
    clear hLN hMN
    go_enter Tryz.func17, Tryz.ntmps17
    go_wp2_with fail
    refine (HV1.out _ HX.out).mono ?_; rintro e w1 ⟨rfl, hX1⟩
    have hbel := hX1.bel
    go_wp2_with fail
    exact bodyPost_ret (v := .tuple #[.string ⟨#[]⟩, .int .i64 1]) (by simp [results, Tryz.results17, go_sem]) rfl ⟨rfl, hbel⟩
  cases h2 : validT u
  · have HN := Lib.hid (clR_no (T := T) (t := t) (u := u) (by rw [h1, h2]; rfl))
    rw [h1] at HV1
    rw [h2] at HV2
    rw [HN.out]
    clear HV3 h1 h2 hT hU hTab ft fu
    unfold tmV clV at *
    generalize hLN : t.args.length = LN at *
    generalize hMN : u.args.length = MN at *
    have HL := Lib.hid hLN
    have HM := Lib.hid hMN
    clear hLN hMN
    go_enter Tryz.func17, Tryz.ntmps17
    go_wp2_with fail
    refine (HV1.out _ HX.out).mono ?_; rintro e w1 ⟨rfl, hX1⟩
    have c4 := hX1.c4
    have c5 := hX1.c5
    have c6 := hX1.c6
    have c7 := hX1.c7
    rw [HM.out] at c7
    go_wp2_with fail
    refine (HV2.out _ hX1).mono ?_; rintro e w2 ⟨rfl, hX2⟩
    have hbel := hX2.bel
    go_wp2_with fail
    exact bodyPost_ret (v := .tuple #[.string ⟨#[]⟩, .int .i64 1]) (by simp [results, Tryz.results17, go_sem]) rfl ⟨rfl, hbel⟩
  cases h3 : opsValid T
  · have HN := Lib.hid (clR_no (T := T) (t := t) (u := u) (by rw [h1, h2, h3]; rfl))
    rw [h1] at HV1
    rw [h2] at HV2
    rw [h3] at HV3
    rw [HN.out]
    clear  h1 h2 h3 hT hU hTab ft fu
    unfold tmV clV at *
    generalize hLN : t.args.length = LN at *
    generalize hMN : u.args.length = MN at *
    have HL := Lib.hid hLN
    have HM := Lib.hid hMN
    clear hLN hMN
    go_enter Tryz.func17, Tryz.ntmps17
    go_wp2_with fail
    refine (HV1.out _ HX.out).mono ?_; rintro e w1 ⟨rfl, hX1⟩
    have c4 := hX1.c4
    have c5 := hX1.c5
    have c6 := hX1.c6
    have c7 := hX1.c7
    rw [HM.out] at c7
    go_wp2_with fail
    refine (HV2.out _ hX1).mono ?_; rintro e w2 ⟨rfl, hX2⟩
    go_wp2_with fail
    refine (HV3.out _ hX2).mono ?_; rintro e w3 ⟨rfl, hX3⟩
    have hbel := hX3.bel
    go_wp2_with fail
    exact bodyPost_ret (v := .tuple #[.string ⟨#[]⟩, .int .i64 1]) (by simp [results, Tryz.results17, go_sem]) rfl ⟨rfl, hbel⟩
  have HN := Lib.hid (clR_yes (T := T) (t := t) (u := u) (by rw [h1, h2, h3]; rfl))
  obtain ⟨k1, k2, k5⟩ := clT_ok h1 h2 ft fu
  obtain ⟨k3, k4⟩ := cl_small (T := T) k1 k2
  have few : TN ≤ 400 := by have := valid_few h3; have := hTab.len; omega
  have HTM := Lib.hid (fun A' c' W (h : Below w.heap.size w W) (hA : TmsAt W.heap.size W A' (clT t u).args) => (r_tok (o := oQ) (w0 := W) few (hTab.below h) k5 k1) 1200 false (by decide) A' c' W (Below.refl _ _) hA)
  have HTP : Hid (clT t u = .mk 3 0 ⟨#[58, 45]⟩ [t, u] → ∀ W g, Below w.heap.size w W → TmsAt W.heap.size W (some ⟨g, 0, none⟩) (Tm.mk 3 0 ⟨#[58, 45]⟩ [t, u]).args → Calls Tryz.prog 33 #[rwV oQ TA TN TC, .agg #[.int .i64 3, .int .i64 0, .string ⟨#[58, 45]⟩, .slice (some ⟨g, 0, none⟩) 2 2], .int .i64 1200, .bool false] W fun e w' => ∃ v, e = .returned v ∧ Below w.heap.size w w' ∧ OwnS 9 w.heap.size w' v (pcs oQ T (clT t u) 1200 false)) := Lib.hid (fun h W g hb ha => by
    have := HTM.out (some ⟨g, 0, none⟩) 2 W hb (by rw [h]; exact ha)
    rw [h] at this ⊢
    exact this.mono fun _ _ hh => hh.imp fun _ hv => ⟨hv.1, hb.trans (hv.2.1.mono hb.size), hv.2.2.mono hb.size⟩)
  have HTH : Hid (clT t u = t → ∀ W, Below w.heap.size w W → Calls Tryz.prog 33 #[rwV oQ TA TN TC, tmV t A c, .int .i64 1200, .bool false] W fun e w' => ∃ v, e = .returned v ∧ Below w.heap.size w w' ∧ OwnS 9 w.heap.size w' v (pcs oQ T (clT t u) 1200 false)) := Lib.hid (fun h W hb => by
    have := HTM.out A c W hb (by rw [h]; exact (hT.keep hb).mono hb.size)
    rw [h] at this ⊢
    exact this.mono fun _ _ hh => hh.imp fun _ hv => ⟨hv.1, hb.trans (hv.2.1.mono hb.size), hv.2.2.mono hb.size⟩)
  have HROW := Lib.hid (fun W g (hb : Below w.heap.size w W) (hg : W.heap.size = g) => (by have := cl_row (w0 := w) (W := W) (t := t) (u := u) (c := c) (d := d) 24 rfl rfl hT hU hb; rw [hg] at this; exact this : TmsAt (W.alloc (.cells #[.int .i64 t.kind, .int .i64 t.num, .string t.name, .slice A t.args.length c, .int .i64 u.kind, .int .i64 u.num, .string u.name, .slice B u.args.length d] 24)).heap.size (W.alloc (.cells #[.int .i64 t.kind, .int .i64 t.num, .string t.name, .slice A t.args.length c, .int .i64 u.kind, .int .i64 u.num, .string u.name, .slice B u.args.length d] 24)) (some ⟨g, 0, none⟩) (Tm.mk 3 0 ⟨#[58, 45]⟩ [t, u]).args))
  have HJ := Lib.hid (fun v W (h : OwnS 9 w.heap.size W v (pcs oQ T (clT t u) 1200 false ++ [s1 46])) => r_joinO W h (by rw [List.length_append]; show _ + 1 ≤ _; omega) k4)
  have hjs := joinB_size k4 (by rw [List.length_append]; show _ + 1 ≤ _; omega)
  have HLY := Lib.hid (limR_yes (s := joinB (pcs oQ T (clT t u) 1200 false ++ [s1 46]) ++ ⟨#[10]⟩))
  have HLX := Lib.hid (limR_no (s := joinB (pcs oQ T (clT t u) 1200 false ++ [s1 46]) ++ ⟨#[10]⟩))
  have hsz : (joinB (pcs oQ T (clT t u) 1200 false ++ [s1 46]) ++ ⟨#[10]⟩).size = (joinB (pcs oQ T (clT t u) 1200 false ++ [s1 46])).size + 1 := by rw [app_size']; rfl
  rw [h1] at HV1
  rw [h2] at HV2
  rw [h3] at HV3
  rw [HN.out]
  clear h1 h2 h3 hT hU hTab ft fu k1 k2 k4 k5 few HN HTM
  have HCP := Lib.hid (clT_pair (t := t) (u := u))
  have HCH := Lib.hid (clT_head (t := t) (u := u))
  generalize limR (joinB (pcs oQ T (clT t u) 1200 false ++ [s1 46]) ++ ⟨#[10]⟩) = r at *
  generalize joinB (pcs oQ T (clT t u) 1200 false ++ [s1 46]) = js at *
  generalize pcs oQ T (clT t u) 1200 false = ps at *
  generalize clT t u = q at *
  have HR : Hid (isRule t = (t.kind == 3 && (t.name.toList == [58, 45] && t.args.length == 2))) := Lib.hid rfl
  have HTR : Hid (isTrue u = (u.kind == 2 && u.name.toList == [116, 114, 117, 101])) := Lib.hid rfl
  unfold tmV clV rwV oQ at *
  generalize hLN : t.args.length = LN at *
  generalize hMN : u.args.length = MN at *
  have HL := Lib.hid hLN
  have HM := Lib.hid hMN
  clear hLN hMN
  go_enter Tryz.func17, Tryz.ntmps17
  go_wp2_with fail
  refine (HV1.out _ HX.out).mono ?_; rintro e w1 ⟨rfl, hX1⟩
  have c4 := hX1.c4
  have c5 := hX1.c5
  have c6 := hX1.c6
  have c7 := hX1.c7
  rw [HM.out] at c7
  go_wp2_with fail
  refine (HV2.out _ hX1).mono ?_; rintro e w2 ⟨rfl, hX2⟩
  clear c4 c5 c6 c7
  go_wp2_with fail
  refine (HV3.out _ hX2).mono ?_; rintro e w3 ⟨rfl, hX3⟩
  have hbel := hX3.bel
  have hlt := hX3.lt
  have c0 := hX3.c0
  have c1 := hX3.c1
  have c2 := hX3.c2
  have c3 := hX3.c3
  have c4 := hX3.c4
  have c5 := hX3.c5
  have c6 := hX3.c6
  have c7 := hX3.c7
  rw [HL.out] at c3
  rw [HM.out] at c7
  have hbs := hbel.size
  have HSA : Hid (∀ o, (w3.alloc o).heap.size = w3.heap.size + 1) := Lib.hid (fun o => by simp)
  clear hX1 hX2 hX3 HX HV1 HV2 HV3 HL HM
  generalize t.kind = a0 at *
  generalize t.num = a1 at *
  generalize t.name = a2 at *
  generalize u.kind = b0 at *
  generalize u.num = b1 at *
  generalize u.name = b2 at *
  by_cases f0 : a0 = 3
  · subst f0
    cases f1 : (a2.toList == [58, 45])
    · have f2 : ¬ a2.toList = [58, 45] := by simpa using f1
      have hR : isRule t = false := by rw [HR.out, f1]; rfl
      by_cases g0 : b0 = 2
      · subst g0
        cases g1 : (b2.toList == [116, 114, 117, 101])
        · have g2 : ¬ b2.toList = [116, 114, 117, 101] := by simpa using g1
          have hQ : isTrue u = false := by rw [HTR.out, g1]; rfl
          go_wp2_with fail
          refine (HTP.out (HCP.out (.inr hQ)) _ _ ?_ (HROW.out _ _ ?_ ?_)).mono ?_
          · exact (hbel.alloc hbs _).alloc (by rw [HSA.out]; omega) _
          · exact hbel.alloc hbs _
          · exact HSA.out _
          rintro e w5 ⟨v5, rfl, hB5, hO5⟩
          have hb5 := hB5
          have hs5 := hb5.size
          have HO5 := Lib.hid hO5
          clear hO5
          go_wp2_with ((with_reducible refine at_appSS ?_); refine wpList_append_one rfl _ _ 28 9 rfl Tryz.underlying28 _ 1 16 infoStr rfl (by decide) w.heap.size _ _ _ rfl w5 HO5.out #[.string ⟨#[46]⟩] rfl (by simp [Value.oneCell']) rfl rfl (by omega) (by omega) hs5 ?_; intro v6 w6 ho6 hB6 hg6)
          have HO6 : Hid (OwnS 9 w.heap.size w6 v6 (ps ++ [s1 46])) := Lib.hid (OwnS.snoc (m := [s1 46]) ho6)
          have hb6 := hb5.trans hB6
          clear ho6 hg6 hB6
          refine (HJ.out _ _ HO6.out).mono ?_; rintro e w7 ⟨rfl, hB7⟩
          have hb7 := hb6.trans (hB7.mono hb6.size)
          by_cases hc : (js ++ ⟨#[10]⟩).size ≤ 16384
          · have q1 := HLY.out hc
            have q2 : decide ((16384 : Int) < ((js ++ ⟨#[10]⟩ : ByteArray).size : Int)) = false := by simp only [decide_eq_false_iff_not]; omega
            have q3 : decide ((16384 : Int) < (js.size : Int) + 1) = false := by simp only [decide_eq_false_iff_not]; omega
            go_wp2_with fail
            exact bodyPost_ret (v := .tuple #[.string (js ++ ⟨#[10]⟩), .int .i64 0]) (by simp [results, Tryz.results17, go_sem]) rfl ⟨by rw [q1], hb7⟩
          · have q1 := HLX.out hc
            have q2 : decide ((16384 : Int) < ((js ++ ⟨#[10]⟩ : ByteArray).size : Int)) = true := by simp only [decide_eq_true_iff]; omega
            have q3 : decide ((16384 : Int) < (js.size : Int) + 1) = true := by simp only [decide_eq_true_iff]; omega
            go_wp2_with fail
            exact bodyPost_ret (v := .tuple #[.string ⟨#[]⟩, .int .i64 2]) (by simp [results, Tryz.results17, go_sem]) rfl ⟨by rw [q1], hb7⟩
        · have g2 : b2.toList = [116, 114, 117, 101] := by simpa using g1
          have hQ : isTrue u = true := by rw [HTR.out, g1]; rfl
          go_wp2_with fail
          refine (HTH.out (HCH.out hR hQ) _ ?_).mono ?_
          · exact hbel.alloc hbs _
          rintro e w5 ⟨v5, rfl, hB5, hO5⟩
          have hb5 := hB5
          have hs5 := hb5.size
          have HO5 := Lib.hid hO5
          clear hO5
          go_wp2_with ((with_reducible refine at_appSS ?_); refine wpList_append_one rfl _ _ 28 9 rfl Tryz.underlying28 _ 1 16 infoStr rfl (by decide) w.heap.size _ _ _ rfl w5 HO5.out #[.string ⟨#[46]⟩] rfl (by simp [Value.oneCell']) rfl rfl (by omega) (by omega) hs5 ?_; intro v6 w6 ho6 hB6 hg6)
          have HO6 : Hid (OwnS 9 w.heap.size w6 v6 (ps ++ [s1 46])) := Lib.hid (OwnS.snoc (m := [s1 46]) ho6)
          have hb6 := hb5.trans hB6
          clear ho6 hg6 hB6
          refine (HJ.out _ _ HO6.out).mono ?_; rintro e w7 ⟨rfl, hB7⟩
          have hb7 := hb6.trans (hB7.mono hb6.size)
          by_cases hc : (js ++ ⟨#[10]⟩).size ≤ 16384
          · have q1 := HLY.out hc
            have q2 : decide ((16384 : Int) < ((js ++ ⟨#[10]⟩ : ByteArray).size : Int)) = false := by simp only [decide_eq_false_iff_not]; omega
            have q3 : decide ((16384 : Int) < (js.size : Int) + 1) = false := by simp only [decide_eq_false_iff_not]; omega
            go_wp2_with fail
            exact bodyPost_ret (v := .tuple #[.string (js ++ ⟨#[10]⟩), .int .i64 0]) (by simp [results, Tryz.results17, go_sem]) rfl ⟨by rw [q1], hb7⟩
          · have q1 := HLX.out hc
            have q2 : decide ((16384 : Int) < ((js ++ ⟨#[10]⟩ : ByteArray).size : Int)) = true := by simp only [decide_eq_true_iff]; omega
            have q3 : decide ((16384 : Int) < (js.size : Int) + 1) = true := by simp only [decide_eq_true_iff]; omega
            go_wp2_with fail
            exact bodyPost_ret (v := .tuple #[.string ⟨#[]⟩, .int .i64 2]) (by simp [results, Tryz.results17, go_sem]) rfl ⟨by rw [q1], hb7⟩
      · have g3 : (b0 == 2) = false := by simpa using g0
        have hQ : isTrue u = false := by rw [HTR.out, g3]; rfl
        go_wp2_with fail
        refine (HTP.out (HCP.out (.inr hQ)) _ _ ?_ (HROW.out _ _ ?_ ?_)).mono ?_
        · exact (hbel.alloc hbs _).alloc (by rw [HSA.out]; omega) _
        · exact hbel.alloc hbs _
        · exact HSA.out _
        rintro e w5 ⟨v5, rfl, hB5, hO5⟩
        have hb5 := hB5
        have hs5 := hb5.size
        have HO5 := Lib.hid hO5
        clear hO5
        go_wp2_with ((with_reducible refine at_appSS ?_); refine wpList_append_one rfl _ _ 28 9 rfl Tryz.underlying28 _ 1 16 infoStr rfl (by decide) w.heap.size _ _ _ rfl w5 HO5.out #[.string ⟨#[46]⟩] rfl (by simp [Value.oneCell']) rfl rfl (by omega) (by omega) hs5 ?_; intro v6 w6 ho6 hB6 hg6)
        have HO6 : Hid (OwnS 9 w.heap.size w6 v6 (ps ++ [s1 46])) := Lib.hid (OwnS.snoc (m := [s1 46]) ho6)
        have hb6 := hb5.trans hB6
        clear ho6 hg6 hB6
        refine (HJ.out _ _ HO6.out).mono ?_; rintro e w7 ⟨rfl, hB7⟩
        have hb7 := hb6.trans (hB7.mono hb6.size)
        by_cases hc : (js ++ ⟨#[10]⟩).size ≤ 16384
        · have q1 := HLY.out hc
          have q2 : decide ((16384 : Int) < ((js ++ ⟨#[10]⟩ : ByteArray).size : Int)) = false := by simp only [decide_eq_false_iff_not]; omega
          have q3 : decide ((16384 : Int) < (js.size : Int) + 1) = false := by simp only [decide_eq_false_iff_not]; omega
          go_wp2_with fail
          exact bodyPost_ret (v := .tuple #[.string (js ++ ⟨#[10]⟩), .int .i64 0]) (by simp [results, Tryz.results17, go_sem]) rfl ⟨by rw [q1], hb7⟩
        · have q1 := HLX.out hc
          have q2 : decide ((16384 : Int) < ((js ++ ⟨#[10]⟩ : ByteArray).size : Int)) = true := by simp only [decide_eq_true_iff]; omega
          have q3 : decide ((16384 : Int) < (js.size : Int) + 1) = true := by simp only [decide_eq_true_iff]; omega
          go_wp2_with fail
          exact bodyPost_ret (v := .tuple #[.string ⟨#[]⟩, .int .i64 2]) (by simp [results, Tryz.results17, go_sem]) rfl ⟨by rw [q1], hb7⟩
    · have f2 : a2.toList = [58, 45] := by simpa using f1
      by_cases f3 : LN = 2
      · subst f3
        have hR : isRule t = true := by rw [HR.out, f1]; rfl
        go_wp2_with fail
        refine (HTP.out (HCP.out (.inl hR)) _ _ ?_ (HROW.out _ _ ?_ ?_)).mono ?_
        · exact (hbel.alloc hbs _).alloc (by rw [HSA.out]; omega) _
        · exact hbel.alloc hbs _
        · exact HSA.out _
        rintro e w5 ⟨v5, rfl, hB5, hO5⟩
        have hb5 := hB5
        have hs5 := hb5.size
        have HO5 := Lib.hid hO5
        clear hO5
        go_wp2_with ((with_reducible refine at_appSS ?_); refine wpList_append_one rfl _ _ 28 9 rfl Tryz.underlying28 _ 1 16 infoStr rfl (by decide) w.heap.size _ _ _ rfl w5 HO5.out #[.string ⟨#[46]⟩] rfl (by simp [Value.oneCell']) rfl rfl (by omega) (by omega) hs5 ?_; intro v6 w6 ho6 hB6 hg6)
        have HO6 : Hid (OwnS 9 w.heap.size w6 v6 (ps ++ [s1 46])) := Lib.hid (OwnS.snoc (m := [s1 46]) ho6)
        have hb6 := hb5.trans hB6
        clear ho6 hg6 hB6
        refine (HJ.out _ _ HO6.out).mono ?_; rintro e w7 ⟨rfl, hB7⟩
        have hb7 := hb6.trans (hB7.mono hb6.size)
        by_cases hc : (js ++ ⟨#[10]⟩).size ≤ 16384
        · have q1 := HLY.out hc
          have q2 : decide ((16384 : Int) < ((js ++ ⟨#[10]⟩ : ByteArray).size : Int)) = false := by simp only [decide_eq_false_iff_not]; omega
          have q3 : decide ((16384 : Int) < (js.size : Int) + 1) = false := by simp only [decide_eq_false_iff_not]; omega
          go_wp2_with fail
          exact bodyPost_ret (v := .tuple #[.string (js ++ ⟨#[10]⟩), .int .i64 0]) (by simp [results, Tryz.results17, go_sem]) rfl ⟨by rw [q1], hb7⟩
        · have q1 := HLX.out hc
          have q2 : decide ((16384 : Int) < ((js ++ ⟨#[10]⟩ : ByteArray).size : Int)) = true := by simp only [decide_eq_true_iff]; omega
          have q3 : decide ((16384 : Int) < (js.size : Int) + 1) = true := by simp only [decide_eq_true_iff]; omega
          go_wp2_with fail
          exact bodyPost_ret (v := .tuple #[.string ⟨#[]⟩, .int .i64 2]) (by simp [results, Tryz.results17, go_sem]) rfl ⟨by rw [q1], hb7⟩
      · have f4 : (LN == 2) = false := by simpa using f3
        have f5 : ((LN : Int) == 2) = false := by simp; omega
        have f6 : ¬ (LN : Int) = 2 := by omega
        have hR : isRule t = false := by rw [HR.out, f1, f4]; rfl
        by_cases g0 : b0 = 2
        · subst g0
          cases g1 : (b2.toList == [116, 114, 117, 101])
          · have g2 : ¬ b2.toList = [116, 114, 117, 101] := by simpa using g1
            have hQ : isTrue u = false := by rw [HTR.out, g1]; rfl
            go_wp2_with fail
            refine (HTP.out (HCP.out (.inr hQ)) _ _ ?_ (HROW.out _ _ ?_ ?_)).mono ?_
            · exact (hbel.alloc hbs _).alloc (by rw [HSA.out]; omega) _
            · exact hbel.alloc hbs _
            · exact HSA.out _
            rintro e w5 ⟨v5, rfl, hB5, hO5⟩
            have hb5 := hB5
            have hs5 := hb5.size
            have HO5 := Lib.hid hO5
            clear hO5
            go_wp2_with ((with_reducible refine at_appSS ?_); refine wpList_append_one rfl _ _ 28 9 rfl Tryz.underlying28 _ 1 16 infoStr rfl (by decide) w.heap.size _ _ _ rfl w5 HO5.out #[.string ⟨#[46]⟩] rfl (by simp [Value.oneCell']) rfl rfl (by omega) (by omega) hs5 ?_; intro v6 w6 ho6 hB6 hg6)
            have HO6 : Hid (OwnS 9 w.heap.size w6 v6 (ps ++ [s1 46])) := Lib.hid (OwnS.snoc (m := [s1 46]) ho6)
            have hb6 := hb5.trans hB6
            clear ho6 hg6 hB6
            refine (HJ.out _ _ HO6.out).mono ?_; rintro e w7 ⟨rfl, hB7⟩
            have hb7 := hb6.trans (hB7.mono hb6.size)
            by_cases hc : (js ++ ⟨#[10]⟩).size ≤ 16384
            · have q1 := HLY.out hc
              have q2 : decide ((16384 : Int) < ((js ++ ⟨#[10]⟩ : ByteArray).size : Int)) = false := by simp only [decide_eq_false_iff_not]; omega
              have q3 : decide ((16384 : Int) < (js.size : Int) + 1) = false := by simp only [decide_eq_false_iff_not]; omega
              go_wp2_with fail
              exact bodyPost_ret (v := .tuple #[.string (js ++ ⟨#[10]⟩), .int .i64 0]) (by simp [results, Tryz.results17, go_sem]) rfl ⟨by rw [q1], hb7⟩
            · have q1 := HLX.out hc
              have q2 : decide ((16384 : Int) < ((js ++ ⟨#[10]⟩ : ByteArray).size : Int)) = true := by simp only [decide_eq_true_iff]; omega
              have q3 : decide ((16384 : Int) < (js.size : Int) + 1) = true := by simp only [decide_eq_true_iff]; omega
              go_wp2_with fail
              exact bodyPost_ret (v := .tuple #[.string ⟨#[]⟩, .int .i64 2]) (by simp [results, Tryz.results17, go_sem]) rfl ⟨by rw [q1], hb7⟩
          · have g2 : b2.toList = [116, 114, 117, 101] := by simpa using g1
            have hQ : isTrue u = true := by rw [HTR.out, g1]; rfl
            go_wp2_with fail
            refine (HTH.out (HCH.out hR hQ) _ ?_).mono ?_
            · exact hbel.alloc hbs _
            rintro e w5 ⟨v5, rfl, hB5, hO5⟩
            have hb5 := hB5
            have hs5 := hb5.size
            have HO5 := Lib.hid hO5
            clear hO5
            go_wp2_with ((with_reducible refine at_appSS ?_); refine wpList_append_one rfl _ _ 28 9 rfl Tryz.underlying28 _ 1 16 infoStr rfl (by decide) w.heap.size _ _ _ rfl w5 HO5.out #[.string ⟨#[46]⟩] rfl (by simp [Value.oneCell']) rfl rfl (by omega) (by omega) hs5 ?_; intro v6 w6 ho6 hB6 hg6)
            have HO6 : Hid (OwnS 9 w.heap.size w6 v6 (ps ++ [s1 46])) := Lib.hid (OwnS.snoc (m := [s1 46]) ho6)
            have hb6 := hb5.trans hB6
            clear ho6 hg6 hB6
            refine (HJ.out _ _ HO6.out).mono ?_; rintro e w7 ⟨rfl, hB7⟩
            have hb7 := hb6.trans (hB7.mono hb6.size)
            by_cases hc : (js ++ ⟨#[10]⟩).size ≤ 16384
            · have q1 := HLY.out hc
              have q2 : decide ((16384 : Int) < ((js ++ ⟨#[10]⟩ : ByteArray).size : Int)) = false := by simp only [decide_eq_false_iff_not]; omega
              have q3 : decide ((16384 : Int) < (js.size : Int) + 1) = false := by simp only [decide_eq_false_iff_not]; omega
              go_wp2_with fail
              exact bodyPost_ret (v := .tuple #[.string (js ++ ⟨#[10]⟩), .int .i64 0]) (by simp [results, Tryz.results17, go_sem]) rfl ⟨by rw [q1], hb7⟩
            · have q1 := HLX.out hc
              have q2 : decide ((16384 : Int) < ((js ++ ⟨#[10]⟩ : ByteArray).size : Int)) = true := by simp only [decide_eq_true_iff]; omega
              have q3 : decide ((16384 : Int) < (js.size : Int) + 1) = true := by simp only [decide_eq_true_iff]; omega
              go_wp2_with fail
              exact bodyPost_ret (v := .tuple #[.string ⟨#[]⟩, .int .i64 2]) (by simp [results, Tryz.results17, go_sem]) rfl ⟨by rw [q1], hb7⟩
        · have g3 : (b0 == 2) = false := by simpa using g0
          have hQ : isTrue u = false := by rw [HTR.out, g3]; rfl
          go_wp2_with fail
          refine (HTP.out (HCP.out (.inr hQ)) _ _ ?_ (HROW.out _ _ ?_ ?_)).mono ?_
          · exact (hbel.alloc hbs _).alloc (by rw [HSA.out]; omega) _
          · exact hbel.alloc hbs _
          · exact HSA.out _
          rintro e w5 ⟨v5, rfl, hB5, hO5⟩
          have hb5 := hB5
          have hs5 := hb5.size
          have HO5 := Lib.hid hO5
          clear hO5
          go_wp2_with ((with_reducible refine at_appSS ?_); refine wpList_append_one rfl _ _ 28 9 rfl Tryz.underlying28 _ 1 16 infoStr rfl (by decide) w.heap.size _ _ _ rfl w5 HO5.out #[.string ⟨#[46]⟩] rfl (by simp [Value.oneCell']) rfl rfl (by omega) (by omega) hs5 ?_; intro v6 w6 ho6 hB6 hg6)
          have HO6 : Hid (OwnS 9 w.heap.size w6 v6 (ps ++ [s1 46])) := Lib.hid (OwnS.snoc (m := [s1 46]) ho6)
          have hb6 := hb5.trans hB6
          clear ho6 hg6 hB6
          refine (HJ.out _ _ HO6.out).mono ?_; rintro e w7 ⟨rfl, hB7⟩
          have hb7 := hb6.trans (hB7.mono hb6.size)
          by_cases hc : (js ++ ⟨#[10]⟩).size ≤ 16384
          · have q1 := HLY.out hc
            have q2 : decide ((16384 : Int) < ((js ++ ⟨#[10]⟩ : ByteArray).size : Int)) = false := by simp only [decide_eq_false_iff_not]; omega
            have q3 : decide ((16384 : Int) < (js.size : Int) + 1) = false := by simp only [decide_eq_false_iff_not]; omega
            go_wp2_with fail
            exact bodyPost_ret (v := .tuple #[.string (js ++ ⟨#[10]⟩), .int .i64 0]) (by simp [results, Tryz.results17, go_sem]) rfl ⟨by rw [q1], hb7⟩
          · have q1 := HLX.out hc
            have q2 : decide ((16384 : Int) < ((js ++ ⟨#[10]⟩ : ByteArray).size : Int)) = true := by simp only [decide_eq_true_iff]; omega
            have q3 : decide ((16384 : Int) < (js.size : Int) + 1) = true := by simp only [decide_eq_true_iff]; omega
            go_wp2_with fail
            exact bodyPost_ret (v := .tuple #[.string ⟨#[]⟩, .int .i64 2]) (by simp [results, Tryz.results17, go_sem]) rfl ⟨by rw [q1], hb7⟩
  · have f4 : (a0 == 3) = false := by simpa using f0
    have hR : isRule t = false := by rw [HR.out, f4]; rfl
    by_cases g0 : b0 = 2
    · subst g0
      cases g1 : (b2.toList == [116, 114, 117, 101])
      · have g2 : ¬ b2.toList = [116, 114, 117, 101] := by simpa using g1
        have hQ : isTrue u = false := by rw [HTR.out, g1]; rfl
        go_wp2_with fail
        refine (HTP.out (HCP.out (.inr hQ)) _ _ ?_ (HROW.out _ _ ?_ ?_)).mono ?_
        · exact (hbel.alloc hbs _).alloc (by rw [HSA.out]; omega) _
        · exact hbel.alloc hbs _
        · exact HSA.out _
        rintro e w5 ⟨v5, rfl, hB5, hO5⟩
        have hb5 := hB5
        have hs5 := hb5.size
        have HO5 := Lib.hid hO5
        clear hO5
        go_wp2_with ((with_reducible refine at_appSS ?_); refine wpList_append_one rfl _ _ 28 9 rfl Tryz.underlying28 _ 1 16 infoStr rfl (by decide) w.heap.size _ _ _ rfl w5 HO5.out #[.string ⟨#[46]⟩] rfl (by simp [Value.oneCell']) rfl rfl (by omega) (by omega) hs5 ?_; intro v6 w6 ho6 hB6 hg6)
        have HO6 : Hid (OwnS 9 w.heap.size w6 v6 (ps ++ [s1 46])) := Lib.hid (OwnS.snoc (m := [s1 46]) ho6)
        have hb6 := hb5.trans hB6
        clear ho6 hg6 hB6
        refine (HJ.out _ _ HO6.out).mono ?_; rintro e w7 ⟨rfl, hB7⟩
        have hb7 := hb6.trans (hB7.mono hb6.size)
        by_cases hc : (js ++ ⟨#[10]⟩).size ≤ 16384
        · have q1 := HLY.out hc
          have q2 : decide ((16384 : Int) < ((js ++ ⟨#[10]⟩ : ByteArray).size : Int)) = false := by simp only [decide_eq_false_iff_not]; omega
          have q3 : decide ((16384 : Int) < (js.size : Int) + 1) = false := by simp only [decide_eq_false_iff_not]; omega
          go_wp2_with fail
          exact bodyPost_ret (v := .tuple #[.string (js ++ ⟨#[10]⟩), .int .i64 0]) (by simp [results, Tryz.results17, go_sem]) rfl ⟨by rw [q1], hb7⟩
        · have q1 := HLX.out hc
          have q2 : decide ((16384 : Int) < ((js ++ ⟨#[10]⟩ : ByteArray).size : Int)) = true := by simp only [decide_eq_true_iff]; omega
          have q3 : decide ((16384 : Int) < (js.size : Int) + 1) = true := by simp only [decide_eq_true_iff]; omega
          go_wp2_with fail
          exact bodyPost_ret (v := .tuple #[.string ⟨#[]⟩, .int .i64 2]) (by simp [results, Tryz.results17, go_sem]) rfl ⟨by rw [q1], hb7⟩
      · have g2 : b2.toList = [116, 114, 117, 101] := by simpa using g1
        have hQ : isTrue u = true := by rw [HTR.out, g1]; rfl
        go_wp2_with fail
        refine (HTH.out (HCH.out hR hQ) _ ?_).mono ?_
        · exact hbel.alloc hbs _
        rintro e w5 ⟨v5, rfl, hB5, hO5⟩
        have hb5 := hB5
        have hs5 := hb5.size
        have HO5 := Lib.hid hO5
        clear hO5
        go_wp2_with ((with_reducible refine at_appSS ?_); refine wpList_append_one rfl _ _ 28 9 rfl Tryz.underlying28 _ 1 16 infoStr rfl (by decide) w.heap.size _ _ _ rfl w5 HO5.out #[.string ⟨#[46]⟩] rfl (by simp [Value.oneCell']) rfl rfl (by omega) (by omega) hs5 ?_; intro v6 w6 ho6 hB6 hg6)
        have HO6 : Hid (OwnS 9 w.heap.size w6 v6 (ps ++ [s1 46])) := Lib.hid (OwnS.snoc (m := [s1 46]) ho6)
        have hb6 := hb5.trans hB6
        clear ho6 hg6 hB6
        refine (HJ.out _ _ HO6.out).mono ?_; rintro e w7 ⟨rfl, hB7⟩
        have hb7 := hb6.trans (hB7.mono hb6.size)
        by_cases hc : (js ++ ⟨#[10]⟩).size ≤ 16384
        · have q1 := HLY.out hc
          have q2 : decide ((16384 : Int) < ((js ++ ⟨#[10]⟩ : ByteArray).size : Int)) = false := by simp only [decide_eq_false_iff_not]; omega
          have q3 : decide ((16384 : Int) < (js.size : Int) + 1) = false := by simp only [decide_eq_false_iff_not]; omega
          go_wp2_with fail
          exact bodyPost_ret (v := .tuple #[.string (js ++ ⟨#[10]⟩), .int .i64 0]) (by simp [results, Tryz.results17, go_sem]) rfl ⟨by rw [q1], hb7⟩
        · have q1 := HLX.out hc
          have q2 : decide ((16384 : Int) < ((js ++ ⟨#[10]⟩ : ByteArray).size : Int)) = true := by simp only [decide_eq_true_iff]; omega
          have q3 : decide ((16384 : Int) < (js.size : Int) + 1) = true := by simp only [decide_eq_true_iff]; omega
          go_wp2_with fail
          exact bodyPost_ret (v := .tuple #[.string ⟨#[]⟩, .int .i64 2]) (by simp [results, Tryz.results17, go_sem]) rfl ⟨by rw [q1], hb7⟩
    · have g3 : (b0 == 2) = false := by simpa using g0
      have hQ : isTrue u = false := by rw [HTR.out, g3]; rfl
      go_wp2_with fail
      refine (HTP.out (HCP.out (.inr hQ)) _ _ ?_ (HROW.out _ _ ?_ ?_)).mono ?_
      · exact (hbel.alloc hbs _).alloc (by rw [HSA.out]; omega) _
      · exact hbel.alloc hbs _
      · exact HSA.out _
      rintro e w5 ⟨v5, rfl, hB5, hO5⟩
      have hb5 := hB5
      have hs5 := hb5.size
      have HO5 := Lib.hid hO5
      clear hO5
      go_wp2_with ((with_reducible refine at_appSS ?_); refine wpList_append_one rfl _ _ 28 9 rfl Tryz.underlying28 _ 1 16 infoStr rfl (by decide) w.heap.size _ _ _ rfl w5 HO5.out #[.string ⟨#[46]⟩] rfl (by simp [Value.oneCell']) rfl rfl (by omega) (by omega) hs5 ?_; intro v6 w6 ho6 hB6 hg6)
      have HO6 : Hid (OwnS 9 w.heap.size w6 v6 (ps ++ [s1 46])) := Lib.hid (OwnS.snoc (m := [s1 46]) ho6)
      have hb6 := hb5.trans hB6
      clear ho6 hg6 hB6
      refine (HJ.out _ _ HO6.out).mono ?_; rintro e w7 ⟨rfl, hB7⟩
      have hb7 := hb6.trans (hB7.mono hb6.size)
      by_cases hc : (js ++ ⟨#[10]⟩).size ≤ 16384
      · have q1 := HLY.out hc
        have q2 : decide ((16384 : Int) < ((js ++ ⟨#[10]⟩ : ByteArray).size : Int)) = false := by simp only [decide_eq_false_iff_not]; omega
        have q3 : decide ((16384 : Int) < (js.size : Int) + 1) = false := by simp only [decide_eq_false_iff_not]; omega
        go_wp2_with fail
        exact bodyPost_ret (v := .tuple #[.string (js ++ ⟨#[10]⟩), .int .i64 0]) (by simp [results, Tryz.results17, go_sem]) rfl ⟨by rw [q1], hb7⟩
      · have q1 := HLX.out hc
        have q2 : decide ((16384 : Int) < ((js ++ ⟨#[10]⟩ : ByteArray).size : Int)) = true := by simp only [decide_eq_true_iff]; omega
        have q3 : decide ((16384 : Int) < (js.size : Int) + 1) = true := by simp only [decide_eq_true_iff]; omega
        go_wp2_with fail
        exact bodyPost_ret (v := .tuple #[.string ⟨#[]⟩, .int .i64 2]) (by simp [results, Tryz.results17, go_sem]) rfl ⟨by rw [q1], hb7⟩
end Go.Proofs.YtgapnafkelokaaaGreatDoor
