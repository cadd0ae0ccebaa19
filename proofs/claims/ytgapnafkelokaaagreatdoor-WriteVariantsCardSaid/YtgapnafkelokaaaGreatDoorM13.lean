/- Writing: infix. -/
import Derived.Test.YtgapnafkelokaaaGreatDoorM12
namespace Hb
open Go Go.RowKit
def condIn (o : WO) (T : List OpR) (t : Tm) : Bool := !o.ig && (has T t.name 2 && t.args.length == 2)
def ruleIn (o : WO) (T : List OpR) (S : Tm → WR) (t : Tm) : WR := if condIn o T t = true then ((leftW o T S (t.arg 0) (gets T t.name 2) ++ [signW o t.name]) ++ placeW o T S (t.arg 1) (sideR (gets T t.name 2)) true, gets T t.name 2) else ([], op0)
theorem ruleIn_no {o : WO} {T : List OpR} {S : Tm → WR} {t : Tm} (h : condIn o T t = false) : ruleIn o T S t = ([], op0) := by unfold ruleIn; rw [h]; rfl
theorem ruleIn_yes {o : WO} {T : List OpR} {S : Tm → WR} {t : Tm} (h : condIn o T t = true) : ruleIn o T S t = ((leftW o T S (t.arg 0) (gets T t.name 2) ++ [signW o t.name]) ++ placeW o T S (t.arg 1) (sideR (gets T t.name 2)) true, gets T t.name 2) := by unfold ruleIn; rw [if_pos h]
theorem signW_id {o : WO} {s : ByteArray} (h : s.toList = [44] ∨ s.toList = [124]) : signW o s = s := by
  unfold signW; rw [if_pos (by rcases h with h | h <;> rw [h] <;> rfl)]
theorem signW_nm {o : WO} {s : ByteArray} (h1 : ¬ s.toList = [44]) (h2 : ¬ s.toList = [124]) : signW o s = nmW o s := by
  unfold signW; rw [if_neg (by simp [h1, h2])]
theorem own_pos {w : World} {base e size : Nat} {v : Value} {n : Nat} {xs : List Value} (h : w.ownsRow base e size v n xs) (hn : 0 < n) : ∃ g cap, v = .slice (some ⟨g, 0, none⟩) n cap ∧ ∀ j u, xs[j]? = some u → w.cell? ((⟨g, 0, none⟩ : Addr).add j) = some u := by
  rcases h.2 with ⟨_, h0⟩ | ⟨g, cap, cur, hv, rest⟩
  · omega
  · exact ⟨g, cap, hv, h.cells (g := g) (by rw [hv]; rfl)⟩
end Hb
namespace Go.Proofs.YtgapnafkelokaaaGreatDoor
open Go.RowKit Hb
set_option maxRecDepth 100000
variable {o : WO} {T : List OpR} {TA : Option Addr} {TN TC : Nat} {S : Tm → WR}
set_option maxHeartbeats 12800000 in
theorem w_infix (t : Tm) (hname : t.name.size ≤ 100) (hP0 : t.args.length = 2 → POK o T TA TN TC S (t.arg 0)) (hS0 : t.args.length = 2 → (t.arg 0).kind = 3 → SOK o T TA TN TC S (t.arg 0)) (hP1 : t.args.length = 2 → POK o T TA TN TC S (t.arg 1)) (hlen : (S (t.arg 0)).1.length ≤ 80000) (hpl : ∀ m, (placeW o T S (t.arg 1) m true).length ≤ 80000 ∧ 0 < (placeW o T S (t.arg 1) m true).length) (hll : ∀ op, (leftW o T S (t.arg 0) op).length ≤ 80000) (A : Option Addr) (cap : Nat) (w : World) (hE : Env T TA TN TC w) (hT : TmsAt w.heap.size w A t.args) :
    Calls Tryz.prog 128 #[wrV o TA TN TC, tmV t A cap] w fun e w' => ∃ A' n' c', e = .returned (wrR A' n' c' (ruleIn o T S t).2 (condIn o T t)) ∧ Below w.heap.size w w' ∧ OwnS 9 w.heap.size w' (.slice A' n' c') (ruleIn o T S t).1 := by
  obtain ⟨i, hi, hz0, hz1, hz2⟩ := info_parts infoStr
  have HI := Lib.hid hi
  have HZ0 := Lib.hid hz0
  have HZ1 := Lib.hid hz1
  have HZ2 := Lib.hid hz2
  clear hi hz0 hz1 hz2
  obtain ⟨LN, HL⟩ : ∃ LN, Hid (LN = t.args.length) := ⟨_, Lib.hid rfl⟩
  have HX := Lib.hid (Fr3.start w o TA TN TC t A cap LN 67 24 138 HL.out (.slice none 0 0) (.string ⟨#[]⟩) (.int .i64 0) (.int .i64 0))
  have HBX := HX.out.f2.bel
  have HIN : Hid (condIn o T t = (!o.ig && (has T t.name 2 && t.args.length == 2))) := Lib.hid rfl
  have HOP := Lib.hid (fun W (h : Below w.heap.size w W) => ops_infix TA TN TC T t.name W hE.tab.len hE.few (hE.tab.below h).ops)
  have HNM := Lib.hid (fun W (h : Below w.heap.size w W) => w_name o TA TN TC t.name W (by omega) (hE.door.below h))
  have HLF := Lib.hid (fun (h1 : LN = 2) (op : OpR) (hop : 0 ≤ op.prec ∧ op.prec ≤ 1200) A' cap' W (h : Below w.heap.size w W) (h2 : TmsAt w.heap.size w A' (t.arg 0).args) => w_left (t.arg 0) op hop (hP0 (by rw [← HL.out]; exact h1)) (hS0 (by rw [← HL.out]; exact h1)) (by omega) A' cap' W (hE.below h) ((h2.keep h).mono h.size))
  have HPF := Lib.hid (fun (h1 : LN = 2) (m : Int) A' cap' W (h : Below w.heap.size w W) (h2 : TmsAt w.heap.size w A' (t.arg 1).args) => hP1 (by rw [← HL.out]; exact h1) m true A' cap' W (hE.below h) ((h2.keep h).mono h.size))
  have HPL := Lib.hid hpl
  have HGET := Lib.hid (fun (h : LN = 2) => (⟨hT.get 0 (by rw [← HL.out, h]; decide), hT.get 1 (by rw [← HL.out, h]; decide)⟩ : _ ∧ _))
  have HARG := Lib.hid (fun (h : LN = 2) => (⟨Tm.arg_get t 0 (by rw [← HL.out, h]; decide), Tm.arg_get t 1 (by rw [← HL.out, h]; decide)⟩ : _ ∧ _))
  have HLL := Lib.hid hll
  have HPR := Lib.hid (has_prec (T := T) (s := t.name) (c := 2))
  have HY := Lib.hid (ruleIn_yes (o := o) (T := T) (S := S) (t := t))
  have HNO := Lib.hid (ruleIn_no (o := o) (T := T) (S := S) (t := t))
  have HHAS : Hid ((findR T t.name 2).isSome = has T t.name 2) := Lib.hid rfl
  have HGTS : Hid ((findR T t.name 2).getD op0 = gets T t.name 2) := Lib.hid rfl
  rw [HHAS.out, HGTS.out] at HOP
  clear hT hE hP0 hS0 hP1 hlen hll hpl HHAS HGTS
  unfold tmV wrV wrR opV at *
  rw [← HL.out] at HIN ⊢
  have hcases : (condIn o T t = false ∧ (o.ig = true ∨ has T t.name 2 = false ∨ ¬ LN = 2)) ∨ (o.ig = false ∧ has T t.name 2 = true ∧ LN = 2) := by
    rw [HIN.out]
    cases o.ig <;> cases has T t.name 2 <;> by_cases h : LN = 2 <;> simp [h]
  rcases hcases with ⟨hno, hwhy⟩ | ⟨hig, hhas, hl⟩
  · rw [hno, HNO.out hno]
    clear HIN HLF HPF HPL HGET HARG HLL HPR HY HNO HNM hno HI HZ0 HZ1 HZ2
    generalize has T t.name 2 = hs at *
    generalize gets T t.name 2 = op at *
    rcases hwhy with hwy | hwy | hwy
    all_goals
      have HWY := Lib.hid hwy
      clear hwy
      go_enter Tryz.func128, Tryz.ntmps128
      go_wp2_with fail
      refine (HOP.out _ HBX).mono ?_; rintro e w1 ⟨rfl, hB1⟩
      have hX1 := HX.out.call hB1
      have hX2 := hX1.call ((Below.refl _ _).alloc (Nat.le_refl _) (.cells #[.string op.name, .int .i64 op.typ, .int .i64 op.prec] 80))
      have y1 := hX2.f2.wb.c1
      have y3 := hX2.f2.tb.c3
      rw [← HL.out] at y3
      obtain ⟨u0, r0⟩ := hX1.rb.r0
      obtain ⟨u1, r1⟩ := hX1.rb.r1
      obtain ⟨u2, r2⟩ := hX1.rb.r2
      obtain ⟨u3, r3⟩ := hX1.rb.r3
      have f0 := hX1.rb.rf 0
      have f1 := hX1.rb.rf 1
      have f2 := hX1.rb.rf 2
      have f3 := hX1.rb.rf 3
      have hlt1 := hX1.rb.lt
      have hb1 := hX1.f2.bel
      clear hX1 hX2
      have hwy := HWY.out
      go_wp2_with fail
      all_goals
        refine bodyPost_ret (v := .tuple #[.agg #[.slice none 0 0, .string ⟨#[]⟩, .int .i64 0, .int .i64 0], .bool false]) (by simp [results, Tryz.results128, go_sem, r0, r1, r2, r3, hlt1]) rfl ⟨none, 0, 0, rfl, (put4_below hb1 _ (by omega) _ _ _ _).alloc (by rw [put4_size]; exact hb1.size) _, OwnS.nil _ _ _⟩
  · have hyes : condIn o T t = true := by rw [HIN.out, hig, hhas, hl]; rfl
    rw [hyes, HY.out hyes]
    subst hl
    obtain ⟨⟨b, off, A', cap', rfl, hb, e0, e1, e2, e3, hs0⟩, ⟨b', off', B', bap', hAA, _, d0, d1, d2, d3, hs1⟩⟩ := HGET.out rfl
    obtain ⟨rfl, rfl⟩ : b = b' ∧ off = off' := by injection hAA with hAA; injection hAA with h1 h2 _; exact ⟨h1, h2⟩
    have hl1 : 0 < t.args.length := by have := HL.out; omega
    have hl2 : 1 < t.args.length := by have := HL.out; omega
    obtain ⟨ha0, ha1⟩ := HARG.out rfl
    have hpr := HPR.out hhas
    have HLF2 := Lib.hid (HLF.out rfl (gets T t.name 2) (by omega) A' cap')
    have HPF2 := Lib.hid (HPF.out rfl (sideR (gets T t.name 2)) B' bap')
    have hPL := HPL.out (sideR (gets T t.name 2))
    rw [ha0] at HLF2 HLL ⊢
    rw [ha1] at HPF2 hPL ⊢
    rw [hhas] at HOP
    rw [Nat.zero_mul, Nat.add_zero] at e0 e1 e2 e3
    rw [Nat.one_mul] at d0 d1 d2 d3
    have HS0 := Lib.hid hs0
    have HS1 := Lib.hid hs1
    have HEL := Lib.hid (⟨e0, e1, e2, e3, d0, d1, d2, d3⟩ : _ ∧ _ ∧ _ ∧ _ ∧ _ ∧ _ ∧ _ ∧ _)
    have HIG := Lib.hid hig
    have HSD0 := Lib.hid (fun W => ops_sides (gets T t.name 2) W (by omega))
    have HSI := Lib.hid (signW_id (o := o) (s := t.name))
    have HSN := Lib.hid (signW_nm (o := o) (s := t.name))
    unfold opV at HSD0
    clear HIN HLF HPF HPL HGET HARG HPR HY HNO hyes hhas hpr hig hs0 hs1 e0 e1 e2 e3 d0 d1 d2 d3 ha0 ha1 hAA
    generalize gets T t.name 2 = op at *
    generalize t.args[0] = x at *
    generalize t.args[1] = y at *
    obtain ⟨LW, HLW⟩ : ∃ LW, Hid (LW = leftW o T S x op) := ⟨_, Lib.hid rfl⟩
    have hlw : LW.length ≤ 80000 := by rw [HLW.out]; exact HLL.out op
    rw [← HLW.out] at HLF2 ⊢
    obtain ⟨PL, HPLE⟩ : ∃ PL, Hid (PL = placeW o T S y (sideR op) true) := ⟨_, Lib.hid rfl⟩
    rw [← HPLE.out] at HPF2 hPL ⊢
    obtain ⟨hpl1, hpl0⟩ := hPL
    obtain ⟨nm, HNE⟩ : ∃ nm, Hid (nm = nmW o t.name) := ⟨_, Lib.hid rfl⟩
    rw [← HNE.out] at HNM HSN
    generalize sideL op = sl at *
    generalize sideR op = sr at *
    clear HLL HLW HPLE
    have hsg : t.name.toList = [44] ∨ (¬ t.name.toList = [44] ∧ t.name.toList = [124]) ∨ (¬ t.name.toList = [44] ∧ ¬ t.name.toList = [124]) := by
      by_cases h1 : t.name.toList = [44]
      · exact .inl h1
      · by_cases h2 : t.name.toList = [124]
        · exact .inr (.inl ⟨h1, h2⟩)
        · exact .inr (.inr ⟨h1, h2⟩)
    rcases hsg with hn1 | ⟨hn1, hn2⟩ | ⟨hn1, hn2⟩
    · have HSG : Hid (signW o t.name = t.name) := Lib.hid (HSI.out (.inl hn1))
      have hq1 : (t.name.toList == [44]) = true := by simp [hn1]
      go_enter Tryz.func128, Tryz.ntmps128
      go_wp2_with fail
      refine (HOP.out _ HBX).mono ?_; rintro e w1 ⟨rfl, hB1⟩
      have hX1 := HX.out.call hB1
      have hX2 := hX1.call ((Below.refl _ _).alloc (Nat.le_refl _) (.cells #[.string op.name, .int .i64 op.typ, .int .i64 op.prec] 80))
      have hb2 := hX2.f2.bel
      have hG := BoxG.start w1 op 80
      have y1 := hX2.f2.wb.c1
      have y3 := hX2.f2.tb.c3
      have y0 := hX2.f2.wb.c0
      have y2 := hX2.f2.wb.c2
      have y4 := hX2.f2.wb.c3
      have y5 := hX2.f2.tb.c2
      rw [← HL.out] at y3
      go_upto_region 2 with fail
      generalize w1.alloc (.cells #[.string op.name, .int .i64 op.typ, .int .i64 op.prec] 80) = wA at *
      rw [HIG.out] at y1
      have HNM2 := Lib.hid (HNM.out wA hb2)
      rw [HIG.out] at HNM2
      go_wp2_with fail
      refine HNM2.out.mono ?_; rintro e w2 ⟨rfl, hB2⟩
      have hX3 := hX2.call hB2
      have hG3 := hG.call hB2
      have hb3 := hX3.f2.bel
      have k5 := hX3.f2.tb.c2
      have g0 := hG3.c0
      have g1 := hG3.c1
      have g2 := hG3.c2
      clear y0 y1 y2 y3 y4 y5 HNM2
      go_wp2_with fail
      refine (HSD0.out _).mono ?_; rintro e wR ⟨rfl, hB3⟩
      have hXR := hX3.call hB3
      have hGR := hG3.call hB3
      have hbR := hXR.f2.bel
      clear k5 g0 g1 g2
      have hlt1 := hX1.rb.lt
      have hltR := hXR.rb.lt
      have HKEEP : Hid (∀ X, RegH (w.heap.size + 2) wR X → X.cell? ⟨w.heap.size, 0, none⟩ = some (.bool o.q) ∧ X.cell? ⟨w.heap.size, 1, none⟩ = some (.bool o.ig) ∧ X.cell? ⟨w.heap.size, 2, none⟩ = some (.bool o.nu) ∧ X.cell? ⟨w.heap.size, 3, none⟩ = some (.slice TA TN TC) ∧ X.cell? ⟨w.heap.size + 1, 3, none⟩ = some (.slice (some ⟨b, off, none⟩) 2 cap) ∧ X.cell? ⟨b, off, none⟩ = some (.int .i64 x.kind) ∧ X.cell? ⟨b, off + 1, none⟩ = some (.int .i64 x.num) ∧ X.cell? ⟨b, off + 2, none⟩ = some (.string x.name) ∧ X.cell? ⟨b, off + 3, none⟩ = some (.slice A' x.args.length cap') ∧ X.cell? ⟨b, off + 4, none⟩ = some (.int .i64 y.kind) ∧ X.cell? ⟨b, off + 4 + 1, none⟩ = some (.int .i64 y.num) ∧ X.cell? ⟨b, off + 4 + 2, none⟩ = some (.string y.name) ∧ X.cell? ⟨b, off + 4 + 3, none⟩ = some (.slice B' y.args.length bap') ∧ X.cell? ⟨w1.heap.size, 0, none⟩ = some (.string op.name) ∧ X.cell? ⟨w1.heap.size, 1, none⟩ = some (.int .i64 op.typ) ∧ X.cell? ⟨w1.heap.size, 2, none⟩ = some (.int .i64 op.prec) ∧ RegH (w.heap.size + 2) wR X) := Lib.hid (fun X h => by
        have hw : ∀ g k, g < wR.heap.size → g ≠ w.heap.size + 2 → X.cell? ⟨g, k, none⟩ = wR.cell? ⟨g, k, none⟩ := fun g k h1 h2 => h.on.cell (p := ⟨g, k, none⟩) h1 h2
        have hwb := hXR.f2.wb
        have htb := hXR.f2.tb
        obtain ⟨e0, e1, e2, e3, d0, d1, d2, d3⟩ := HEL.out
        have he : ∀ k, X.cell? ⟨b, k, none⟩ = w.cell? ⟨b, k, none⟩ := fun k => (hw b k (Nat.lt_of_lt_of_le hb hbR.size) (by omega)).trans (hbR.cell (p := ⟨b, k, none⟩) hb)
        have h3 := htb.c3
        rw [← HL.out] at h3
        exact ⟨(hw _ _ hwb.lt (by omega)).trans hwb.c0, (hw _ _ hwb.lt (by omega)).trans hwb.c1, (hw _ _ hwb.lt (by omega)).trans hwb.c2, (hw _ _ hwb.lt (by omega)).trans hwb.c3, (hw _ _ htb.lt (by omega)).trans h3, (he _).trans e0, (he _).trans e1, (he _).trans e2, (he _).trans e3, (he _).trans d0, (he _).trans d1, (he _).trans d2, (he _).trans d3, (hw _ _ hGR.lt (by omega)).trans hGR.c0, (hw _ _ hGR.lt (by omega)).trans hGR.c1, (hw _ _ hGR.lt (by omega)).trans hGR.c2, h⟩)
      have HOF : Hid (∀ X, (X.cell? ⟨w.heap.size, 0, none⟩ = some (.bool o.q) ∧ X.cell? ⟨w.heap.size, 1, none⟩ = some (.bool o.ig) ∧ X.cell? ⟨w.heap.size, 2, none⟩ = some (.bool o.nu) ∧ X.cell? ⟨w.heap.size, 3, none⟩ = some (.slice TA TN TC) ∧ X.cell? ⟨w.heap.size + 1, 3, none⟩ = some (.slice (some ⟨b, off, none⟩) 2 cap) ∧ X.cell? ⟨b, off, none⟩ = some (.int .i64 x.kind) ∧ X.cell? ⟨b, off + 1, none⟩ = some (.int .i64 x.num) ∧ X.cell? ⟨b, off + 2, none⟩ = some (.string x.name) ∧ X.cell? ⟨b, off + 3, none⟩ = some (.slice A' x.args.length cap') ∧ X.cell? ⟨b, off + 4, none⟩ = some (.int .i64 y.kind) ∧ X.cell? ⟨b, off + 4 + 1, none⟩ = some (.int .i64 y.num) ∧ X.cell? ⟨b, off + 4 + 2, none⟩ = some (.string y.name) ∧ X.cell? ⟨b, off + 4 + 3, none⟩ = some (.slice B' y.args.length bap') ∧ X.cell? ⟨w1.heap.size, 0, none⟩ = some (.string op.name) ∧ X.cell? ⟨w1.heap.size, 1, none⟩ = some (.int .i64 op.typ) ∧ X.cell? ⟨w1.heap.size, 2, none⟩ = some (.int .i64 op.prec) ∧ RegH (w.heap.size + 2) wR X) → RegH (w.heap.size + 2) wR X) := Lib.hid (fun X h => h.2.2.2.2.2.2.2.2.2.2.2.2.2.2.2.2)
      have HST : Hid (RegH (w.heap.size + 2) wR wR.drew) := Lib.hid (RegH.drew ⟨Only.refl _ _, hXR.rb⟩)
      have HSA : Hid (RegH (w.heap.size + 2) wR (wR.alloc (.cells #[.string t.name] 9)).drew) := Lib.hid (RegH.drew (RegH.alloc ⟨Only.refl _ _, hXR.rb⟩ _))
      have hbX : ∀ X, RegH (w.heap.size + 2) wR X → Below w.heap.size w X := fun X h => hbR.trans (h.on.below (by omega) hbR.size)
      have HBX2 := Lib.hid hbX
      have HLF3 : Hid (∀ X, RegH (w.heap.size + 2) wR X → Calls Tryz.prog 171 #[.agg #[.bool o.q, .bool o.ig, .bool o.nu, .slice TA TN TC], .agg #[.int .i64 x.kind, .int .i64 x.num, .string x.name, .slice A' x.args.length cap'], .agg #[.string op.name, .int .i64 op.typ, .int .i64 op.prec]] X fun e w' => ∃ v, e = .returned v ∧ Below X.heap.size X w' ∧ OwnS 9 wR.heap.size w' v LW) :=
        Lib.hid (fun X h => (HLF2.out X (hbX X h) HS0.out).mono fun _ _ ⟨v, he, hB, hO⟩ => ⟨v, he, hB, hO.mono h.on.size⟩)
      have HPF3 : Hid (∀ X, RegH (w.heap.size + 2) wR X → Calls Tryz.prog 58 #[.agg #[.bool o.q, .bool o.ig, .bool o.nu, .slice TA TN TC], .agg #[.int .i64 y.kind, .int .i64 y.num, .string y.name, .slice B' y.args.length bap'], .int .i64 sr, .bool true] X fun e w' => ∃ g c, e = .returned (.slice (some ⟨g, 0, none⟩) PL.length c) ∧ Below X.heap.size X w' ∧ ∀ j u, (PL.map Value.string)[j]? = some u → w'.cell? ((⟨g, 0, none⟩ : Addr).add j) = some u) :=
        Lib.hid (fun X h => (HPF2.out X (hbX X h) HS1.out).mono fun _ _ ⟨v, he, hB, hO⟩ => by
          obtain ⟨g, c, rfl, hc⟩ := own_pos hO hpl0
          exact ⟨g, c, he, hB, hc⟩)
      clear hbX HLF2 HPF2 HNM HOP HX HBX HEL hX1 hX2 hX3 hG hG3
      go_wp2_with fail
      go_region_held3 (fun w' => w'.cell? ⟨w.heap.size, 0, none⟩ = some (.bool o.q) ∧ w'.cell? ⟨w.heap.size, 1, none⟩ = some (.bool o.ig) ∧ w'.cell? ⟨w.heap.size, 2, none⟩ = some (.bool o.nu) ∧ w'.cell? ⟨w.heap.size, 3, none⟩ = some (.slice TA TN TC) ∧ w'.cell? ⟨w.heap.size + 1, 3, none⟩ = some (.slice (some ⟨b, off, none⟩) 2 cap) ∧ w'.cell? ⟨b, off, none⟩ = some (.int .i64 x.kind) ∧ w'.cell? ⟨b, off + 1, none⟩ = some (.int .i64 x.num) ∧ w'.cell? ⟨b, off + 2, none⟩ = some (.string x.name) ∧ w'.cell? ⟨b, off + 3, none⟩ = some (.slice A' x.args.length cap') ∧ w'.cell? ⟨b, off + 4, none⟩ = some (.int .i64 y.kind) ∧ w'.cell? ⟨b, off + 4 + 1, none⟩ = some (.int .i64 y.num) ∧ w'.cell? ⟨b, off + 4 + 2, none⟩ = some (.string y.name) ∧ w'.cell? ⟨b, off + 4 + 3, none⟩ = some (.slice B' y.args.length bap') ∧ w'.cell? ⟨w1.heap.size, 0, none⟩ = some (.string op.name) ∧ w'.cell? ⟨w1.heap.size, 1, none⟩ = some (.int .i64 op.typ) ∧ w'.cell? ⟨w1.heap.size, 2, none⟩ = some (.int .i64 op.prec) ∧ RegH (w.heap.size + 2) wR w')
        (first
          | with_reducible exact HKEEP.out _ HST.out
          | with_reducible exact HKEEP.out _ (RegH.call (HOF.out _ (by with_reducible assumption)) (by with_reducible assumption))
          | with_reducible exact HKEEP.out _ HSA.out
          | with_reducible exact HKEEP.out _ hR6
          | with_reducible exact HKEEP.out _ (RegH.alloc (HOF.out _ (by with_reducible assumption)) _))
        (first
          | (go_at_call 171; (with_reducible refine (HLF3.out _ (HOF.out _ (by with_reducible assumption))).mono ?_); rintro e w4 ⟨v4, rfl, hB4, hO4⟩)
          | (have hs5 := hO4.alloc (.cells #[.string t.name] 9); have hq5 := HOF.out (w4.alloc (.cells #[.string t.name] 9)) (by with_reducible assumption); refine step_append_lies _ (by rfl) _ _ 28 (by rfl) wR.heap.size 9 i _ 1 16 Tryz.underlying28 HI.out HZ0.out HZ1.out HZ2.out (by rfl) (by decide) v4 LW.length (LW.map Value.string) (by rfl) hs5 ⟨w4.heap.size, 0, none⟩ 1 1 [.string t.name] (by rfl) (by rfl) (World.news_of_block (heap_alloc_new w4 _)) (by intro u hu; rw [List.mem_singleton] at hu; subst hu; rfl) (by decide) (by unfold maxLen; omega) (by omega) hq5.on.size (w4.heap.size + 1) (by simp) ?_; intro g6 c6 w6 hown6 hg6 hat6 hlt6; have hR6 : RegH (w.heap.size + 2) wR w6 := hq5.grown hg6 (fun k hk => (hs5.lt k hk).1) hltR)
          | (have hq5 := HOF.out w4 (by with_reducible assumption); have hnw : ∀ j u, [Value.string t.name][j]? = some u → w4.cell? ((⟨wR.heap.size, 0, none⟩ : Addr).add j) = some u := World.news_of_block ((hB4.block wR.heap.size (by simp)).trans (heap_alloc_new wR _)); refine step_append_lies _ (by rfl) _ _ 28 (by rfl) wR.heap.size 9 i _ 1 16 Tryz.underlying28 HI.out HZ0.out HZ1.out HZ2.out (by rfl) (by decide) v4 LW.length (LW.map Value.string) (by rfl) hO4 ⟨wR.heap.size, 0, none⟩ 1 1 [.string t.name] (by rfl) (by rfl) hnw (by intro u hu; rw [List.mem_singleton] at hu; subst hu; rfl) (by decide) (by unfold maxLen; omega) (by omega) hq5.on.size w4.heap.size rfl ?_; intro g6 c6 w6 hown6 hg6 hat6 hlt6; have hR6 : RegH (w.heap.size + 2) wR w6 := hq5.grown hg6 (fun k hk => (hO4.lt k hk).1) hltR)
          | fail)
      all_goals
        have HR6 := Lib.hid hR6
        have HO6 := Lib.hid (World.ownsRow.drew hown6)
        have HST6 : Hid (RegH (w.heap.size + 2) wR w6.drew) := Lib.hid hR6.drew
        clear hown6 hg6 hat6 hlt6 hR6 hO4 hB4
        go_wp2_with fail
        go_region_held3 (fun w' => w'.cell? ⟨w.heap.size, 0, none⟩ = some (.bool o.q) ∧ w'.cell? ⟨w.heap.size, 1, none⟩ = some (.bool o.ig) ∧ w'.cell? ⟨w.heap.size, 2, none⟩ = some (.bool o.nu) ∧ w'.cell? ⟨w.heap.size, 3, none⟩ = some (.slice TA TN TC) ∧ w'.cell? ⟨w.heap.size + 1, 3, none⟩ = some (.slice (some ⟨b, off, none⟩) 2 cap) ∧ w'.cell? ⟨b, off, none⟩ = some (.int .i64 x.kind) ∧ w'.cell? ⟨b, off + 1, none⟩ = some (.int .i64 x.num) ∧ w'.cell? ⟨b, off + 2, none⟩ = some (.string x.name) ∧ w'.cell? ⟨b, off + 3, none⟩ = some (.slice A' x.args.length cap') ∧ w'.cell? ⟨b, off + 4, none⟩ = some (.int .i64 y.kind) ∧ w'.cell? ⟨b, off + 4 + 1, none⟩ = some (.int .i64 y.num) ∧ w'.cell? ⟨b, off + 4 + 2, none⟩ = some (.string y.name) ∧ w'.cell? ⟨b, off + 4 + 3, none⟩ = some (.slice B' y.args.length bap') ∧ w'.cell? ⟨w1.heap.size, 0, none⟩ = some (.string op.name) ∧ w'.cell? ⟨w1.heap.size, 1, none⟩ = some (.int .i64 op.typ) ∧ w'.cell? ⟨w1.heap.size, 2, none⟩ = some (.int .i64 op.prec) ∧ RegH (w.heap.size + 2) wR w')
          (first
            | with_reducible exact HKEEP.out _ HST6.out
            | with_reducible exact HKEEP.out _ (RegH.call (HOF.out _ (by with_reducible assumption)) (by with_reducible assumption))
            | with_reducible exact HKEEP.out _ hR8
            | with_reducible exact HKEEP.out _ (RegH.put4 (HOF.out _ (by with_reducible assumption)) _ _ _ _))
          (first
            | (go_at_call 58; (with_reducible refine (HPF3.out _ (HOF.out _ (by with_reducible assumption))).mono ?_); rintro e w7 ⟨g7, c7, rfl, hB7, hc7⟩; have hO7 := own_below HO6.out hB7)
            | (have hq7 := HOF.out w7 (by with_reducible assumption); refine step_append_lies _ (by rfl) _ _ 28 (by rfl) wR.heap.size 9 i _ 1 16 Tryz.underlying28 HI.out HZ0.out HZ1.out HZ2.out (by rfl) (by decide) (.slice (some ⟨g6, 0, none⟩) (LW.length + 1) c6) (LW.length + 1) (LW.map Value.string ++ [.string t.name]) (by rfl) hO7 ⟨g7, 0, none⟩ PL.length c7 (PL.map Value.string) (by rfl) (by simp) hc7 (strs_one _) hpl0 (by unfold maxLen; omega) (by omega) hq7.on.size w7.heap.size rfl ?_; intro g8 c8 w8 hown8 hg8 hat8 hlt8; have hR8 : RegH (w.heap.size + 2) wR w8 := hq7.grown hg8 (fun k hk => (hO7.lt k hk).1) hltR; obtain ⟨u0, r0⟩ := hR8.rb.r0; obtain ⟨u1, r1⟩ := hR8.rb.r1; obtain ⟨u2, r2⟩ := hR8.rb.r2; obtain ⟨u3, r3⟩ := hR8.rb.r3; have f0 := hR8.rb.rf 0; have f1 := hR8.rb.rf 1; have f2 := hR8.rb.rf 2; have f3 := hR8.rb.rf 3)
            | fail)
        all_goals
          have hfin := put4_below (HBX2.out w8 hR8) (w.heap.size + 2) (by omega) (.slice (some ⟨g8, 0, none⟩) (LW.length + 1 + PL.length) c8) (.string op.name) (.int .i64 op.typ) (.int .i64 op.prec)
          have HO8 : Hid (OwnS 9 wR.heap.size w8 (.slice (some ⟨g8, 0, none⟩) (LW.length + 1 + PL.length) c8) ((LW ++ [t.name]) ++ PL)) := Lib.hid (by
            unfold OwnS
            rw [List.length_append, List.map_append, List.length_append, List.map_append]; exact hown8)
          clear hown8 hg8
          go_wp2_with fail
          refine bodyPost_ret (v := .tuple #[.agg #[.slice (some ⟨g8, 0, none⟩) (LW.length + 1 + PL.length) c8, .string op.name, .int .i64 op.typ, .int .i64 op.prec], .bool true]) (by simp [results, Tryz.results128, go_sem, r0, r1, r2, r3]) rfl ⟨_, _, _, rfl, hfin, ?_⟩
          rw [HSG.out]
          exact (HO8.out.put4 hltR _ _ _ _).mono hbR.size
    · have HSG : Hid (signW o t.name = t.name) := Lib.hid (HSI.out (.inr hn2))
      have hq1 : (t.name.toList == [44]) = false := by simp [hn1]
      have hq2 : (t.name.toList == [124]) = true := by simp [hn2]
      go_enter Tryz.func128, Tryz.ntmps128
      go_wp2_with fail
      refine (HOP.out _ HBX).mono ?_; rintro e w1 ⟨rfl, hB1⟩
      have hX1 := HX.out.call hB1
      have hX2 := hX1.call ((Below.refl _ _).alloc (Nat.le_refl _) (.cells #[.string op.name, .int .i64 op.typ, .int .i64 op.prec] 80))
      have hb2 := hX2.f2.bel
      have hG := BoxG.start w1 op 80
      have y1 := hX2.f2.wb.c1
      have y3 := hX2.f2.tb.c3
      have y0 := hX2.f2.wb.c0
      have y2 := hX2.f2.wb.c2
      have y4 := hX2.f2.wb.c3
      have y5 := hX2.f2.tb.c2
      rw [← HL.out] at y3
      go_upto_region 2 with fail
      generalize w1.alloc (.cells #[.string op.name, .int .i64 op.typ, .int .i64 op.prec] 80) = wA at *
      rw [HIG.out] at y1
      have HNM2 := Lib.hid (HNM.out wA hb2)
      rw [HIG.out] at HNM2
      go_wp2_with fail
      refine HNM2.out.mono ?_; rintro e w2 ⟨rfl, hB2⟩
      have hX3 := hX2.call hB2
      have hG3 := hG.call hB2
      have hb3 := hX3.f2.bel
      have k5 := hX3.f2.tb.c2
      have g0 := hG3.c0
      have g1 := hG3.c1
      have g2 := hG3.c2
      clear y0 y1 y2 y3 y4 y5 HNM2
      go_wp2_with fail
      refine (HSD0.out _).mono ?_; rintro e wR ⟨rfl, hB3⟩
      have hXR := hX3.call hB3
      have hGR := hG3.call hB3
      have hbR := hXR.f2.bel
      clear k5 g0 g1 g2
      have hlt1 := hX1.rb.lt
      have hltR := hXR.rb.lt
      have HKEEP : Hid (∀ X, RegH (w.heap.size + 2) wR X → X.cell? ⟨w.heap.size, 0, none⟩ = some (.bool o.q) ∧ X.cell? ⟨w.heap.size, 1, none⟩ = some (.bool o.ig) ∧ X.cell? ⟨w.heap.size, 2, none⟩ = some (.bool o.nu) ∧ X.cell? ⟨w.heap.size, 3, none⟩ = some (.slice TA TN TC) ∧ X.cell? ⟨w.heap.size + 1, 3, none⟩ = some (.slice (some ⟨b, off, none⟩) 2 cap) ∧ X.cell? ⟨b, off, none⟩ = some (.int .i64 x.kind) ∧ X.cell? ⟨b, off + 1, none⟩ = some (.int .i64 x.num) ∧ X.cell? ⟨b, off + 2, none⟩ = some (.string x.name) ∧ X.cell? ⟨b, off + 3, none⟩ = some (.slice A' x.args.length cap') ∧ X.cell? ⟨b, off + 4, none⟩ = some (.int .i64 y.kind) ∧ X.cell? ⟨b, off + 4 + 1, none⟩ = some (.int .i64 y.num) ∧ X.cell? ⟨b, off + 4 + 2, none⟩ = some (.string y.name) ∧ X.cell? ⟨b, off + 4 + 3, none⟩ = some (.slice B' y.args.length bap') ∧ X.cell? ⟨w1.heap.size, 0, none⟩ = some (.string op.name) ∧ X.cell? ⟨w1.heap.size, 1, none⟩ = some (.int .i64 op.typ) ∧ X.cell? ⟨w1.heap.size, 2, none⟩ = some (.int .i64 op.prec) ∧ RegH (w.heap.size + 2) wR X) := Lib.hid (fun X h => by
        have hw : ∀ g k, g < wR.heap.size → g ≠ w.heap.size + 2 → X.cell? ⟨g, k, none⟩ = wR.cell? ⟨g, k, none⟩ := fun g k h1 h2 => h.on.cell (p := ⟨g, k, none⟩) h1 h2
        have hwb := hXR.f2.wb
        have htb := hXR.f2.tb
        obtain ⟨e0, e1, e2, e3, d0, d1, d2, d3⟩ := HEL.out
        have he : ∀ k, X.cell? ⟨b, k, none⟩ = w.cell? ⟨b, k, none⟩ := fun k => (hw b k (Nat.lt_of_lt_of_le hb hbR.size) (by omega)).trans (hbR.cell (p := ⟨b, k, none⟩) hb)
        have h3 := htb.c3
        rw [← HL.out] at h3
        exact ⟨(hw _ _ hwb.lt (by omega)).trans hwb.c0, (hw _ _ hwb.lt (by omega)).trans hwb.c1, (hw _ _ hwb.lt (by omega)).trans hwb.c2, (hw _ _ hwb.lt (by omega)).trans hwb.c3, (hw _ _ htb.lt (by omega)).trans h3, (he _).trans e0, (he _).trans e1, (he _).trans e2, (he _).trans e3, (he _).trans d0, (he _).trans d1, (he _).trans d2, (he _).trans d3, (hw _ _ hGR.lt (by omega)).trans hGR.c0, (hw _ _ hGR.lt (by omega)).trans hGR.c1, (hw _ _ hGR.lt (by omega)).trans hGR.c2, h⟩)
      have HOF : Hid (∀ X, (X.cell? ⟨w.heap.size, 0, none⟩ = some (.bool o.q) ∧ X.cell? ⟨w.heap.size, 1, none⟩ = some (.bool o.ig) ∧ X.cell? ⟨w.heap.size, 2, none⟩ = some (.bool o.nu) ∧ X.cell? ⟨w.heap.size, 3, none⟩ = some (.slice TA TN TC) ∧ X.cell? ⟨w.heap.size + 1, 3, none⟩ = some (.slice (some ⟨b, off, none⟩) 2 cap) ∧ X.cell? ⟨b, off, none⟩ = some (.int .i64 x.kind) ∧ X.cell? ⟨b, off + 1, none⟩ = some (.int .i64 x.num) ∧ X.cell? ⟨b, off + 2, none⟩ = some (.string x.name) ∧ X.cell? ⟨b, off + 3, none⟩ = some (.slice A' x.args.length cap') ∧ X.cell? ⟨b, off + 4, none⟩ = some (.int .i64 y.kind) ∧ X.cell? ⟨b, off + 4 + 1, none⟩ = some (.int .i64 y.num) ∧ X.cell? ⟨b, off + 4 + 2, none⟩ = some (.string y.name) ∧ X.cell? ⟨b, off + 4 + 3, none⟩ = some (.slice B' y.args.length bap') ∧ X.cell? ⟨w1.heap.size, 0, none⟩ = some (.string op.name) ∧ X.cell? ⟨w1.heap.size, 1, none⟩ = some (.int .i64 op.typ) ∧ X.cell? ⟨w1.heap.size, 2, none⟩ = some (.int .i64 op.prec) ∧ RegH (w.heap.size + 2) wR X) → RegH (w.heap.size + 2) wR X) := Lib.hid (fun X h => h.2.2.2.2.2.2.2.2.2.2.2.2.2.2.2.2)
      have HST : Hid (RegH (w.heap.size + 2) wR wR.drew) := Lib.hid (RegH.drew ⟨Only.refl _ _, hXR.rb⟩)
      have HSA : Hid (RegH (w.heap.size + 2) wR (wR.alloc (.cells #[.string t.name] 9)).drew) := Lib.hid (RegH.drew (RegH.alloc ⟨Only.refl _ _, hXR.rb⟩ _))
      have hbX : ∀ X, RegH (w.heap.size + 2) wR X → Below w.heap.size w X := fun X h => hbR.trans (h.on.below (by omega) hbR.size)
      have HBX2 := Lib.hid hbX
      have HLF3 : Hid (∀ X, RegH (w.heap.size + 2) wR X → Calls Tryz.prog 171 #[.agg #[.bool o.q, .bool o.ig, .bool o.nu, .slice TA TN TC], .agg #[.int .i64 x.kind, .int .i64 x.num, .string x.name, .slice A' x.args.length cap'], .agg #[.string op.name, .int .i64 op.typ, .int .i64 op.prec]] X fun e w' => ∃ v, e = .returned v ∧ Below X.heap.size X w' ∧ OwnS 9 wR.heap.size w' v LW) :=
        Lib.hid (fun X h => (HLF2.out X (hbX X h) HS0.out).mono fun _ _ ⟨v, he, hB, hO⟩ => ⟨v, he, hB, hO.mono h.on.size⟩)
      have HPF3 : Hid (∀ X, RegH (w.heap.size + 2) wR X → Calls Tryz.prog 58 #[.agg #[.bool o.q, .bool o.ig, .bool o.nu, .slice TA TN TC], .agg #[.int .i64 y.kind, .int .i64 y.num, .string y.name, .slice B' y.args.length bap'], .int .i64 sr, .bool true] X fun e w' => ∃ g c, e = .returned (.slice (some ⟨g, 0, none⟩) PL.length c) ∧ Below X.heap.size X w' ∧ ∀ j u, (PL.map Value.string)[j]? = some u → w'.cell? ((⟨g, 0, none⟩ : Addr).add j) = some u) :=
        Lib.hid (fun X h => (HPF2.out X (hbX X h) HS1.out).mono fun _ _ ⟨v, he, hB, hO⟩ => by
          obtain ⟨g, c, rfl, hc⟩ := own_pos hO hpl0
          exact ⟨g, c, he, hB, hc⟩)
      clear hbX HLF2 HPF2 HNM HOP HX HBX HEL hX1 hX2 hX3 hG hG3
      go_wp2_with fail
      go_region_held3 (fun w' => w'.cell? ⟨w.heap.size, 0, none⟩ = some (.bool o.q) ∧ w'.cell? ⟨w.heap.size, 1, none⟩ = some (.bool o.ig) ∧ w'.cell? ⟨w.heap.size, 2, none⟩ = some (.bool o.nu) ∧ w'.cell? ⟨w.heap.size, 3, none⟩ = some (.slice TA TN TC) ∧ w'.cell? ⟨w.heap.size + 1, 3, none⟩ = some (.slice (some ⟨b, off, none⟩) 2 cap) ∧ w'.cell? ⟨b, off, none⟩ = some (.int .i64 x.kind) ∧ w'.cell? ⟨b, off + 1, none⟩ = some (.int .i64 x.num) ∧ w'.cell? ⟨b, off + 2, none⟩ = some (.string x.name) ∧ w'.cell? ⟨b, off + 3, none⟩ = some (.slice A' x.args.length cap') ∧ w'.cell? ⟨b, off + 4, none⟩ = some (.int .i64 y.kind) ∧ w'.cell? ⟨b, off + 4 + 1, none⟩ = some (.int .i64 y.num) ∧ w'.cell? ⟨b, off + 4 + 2, none⟩ = some (.string y.name) ∧ w'.cell? ⟨b, off + 4 + 3, none⟩ = some (.slice B' y.args.length bap') ∧ w'.cell? ⟨w1.heap.size, 0, none⟩ = some (.string op.name) ∧ w'.cell? ⟨w1.heap.size, 1, none⟩ = some (.int .i64 op.typ) ∧ w'.cell? ⟨w1.heap.size, 2, none⟩ = some (.int .i64 op.prec) ∧ RegH (w.heap.size + 2) wR w')
        (first
          | with_reducible exact HKEEP.out _ HST.out
          | with_reducible exact HKEEP.out _ (RegH.call (HOF.out _ (by with_reducible assumption)) (by with_reducible assumption))
          | with_reducible exact HKEEP.out _ HSA.out
          | with_reducible exact HKEEP.out _ hR6
          | with_reducible exact HKEEP.out _ (RegH.alloc (HOF.out _ (by with_reducible assumption)) _))
        (first
          | (go_at_call 171; (with_reducible refine (HLF3.out _ (HOF.out _ (by with_reducible assumption))).mono ?_); rintro e w4 ⟨v4, rfl, hB4, hO4⟩)
          | (have hs5 := hO4.alloc (.cells #[.string t.name] 9); have hq5 := HOF.out (w4.alloc (.cells #[.string t.name] 9)) (by with_reducible assumption); refine step_append_lies _ (by rfl) _ _ 28 (by rfl) wR.heap.size 9 i _ 1 16 Tryz.underlying28 HI.out HZ0.out HZ1.out HZ2.out (by rfl) (by decide) v4 LW.length (LW.map Value.string) (by rfl) hs5 ⟨w4.heap.size, 0, none⟩ 1 1 [.string t.name] (by rfl) (by rfl) (World.news_of_block (heap_alloc_new w4 _)) (by intro u hu; rw [List.mem_singleton] at hu; subst hu; rfl) (by decide) (by unfold maxLen; omega) (by omega) hq5.on.size (w4.heap.size + 1) (by simp) ?_; intro g6 c6 w6 hown6 hg6 hat6 hlt6; have hR6 : RegH (w.heap.size + 2) wR w6 := hq5.grown hg6 (fun k hk => (hs5.lt k hk).1) hltR)
          | (have hq5 := HOF.out w4 (by with_reducible assumption); have hnw : ∀ j u, [Value.string t.name][j]? = some u → w4.cell? ((⟨wR.heap.size, 0, none⟩ : Addr).add j) = some u := World.news_of_block ((hB4.block wR.heap.size (by simp)).trans (heap_alloc_new wR _)); refine step_append_lies _ (by rfl) _ _ 28 (by rfl) wR.heap.size 9 i _ 1 16 Tryz.underlying28 HI.out HZ0.out HZ1.out HZ2.out (by rfl) (by decide) v4 LW.length (LW.map Value.string) (by rfl) hO4 ⟨wR.heap.size, 0, none⟩ 1 1 [.string t.name] (by rfl) (by rfl) hnw (by intro u hu; rw [List.mem_singleton] at hu; subst hu; rfl) (by decide) (by unfold maxLen; omega) (by omega) hq5.on.size w4.heap.size rfl ?_; intro g6 c6 w6 hown6 hg6 hat6 hlt6; have hR6 : RegH (w.heap.size + 2) wR w6 := hq5.grown hg6 (fun k hk => (hO4.lt k hk).1) hltR)
          | fail)
      all_goals
        have HR6 := Lib.hid hR6
        have HO6 := Lib.hid (World.ownsRow.drew hown6)
        have HST6 : Hid (RegH (w.heap.size + 2) wR w6.drew) := Lib.hid hR6.drew
        clear hown6 hg6 hat6 hlt6 hR6 hO4 hB4
        go_wp2_with fail
        go_region_held3 (fun w' => w'.cell? ⟨w.heap.size, 0, none⟩ = some (.bool o.q) ∧ w'.cell? ⟨w.heap.size, 1, none⟩ = some (.bool o.ig) ∧ w'.cell? ⟨w.heap.size, 2, none⟩ = some (.bool o.nu) ∧ w'.cell? ⟨w.heap.size, 3, none⟩ = some (.slice TA TN TC) ∧ w'.cell? ⟨w.heap.size + 1, 3, none⟩ = some (.slice (some ⟨b, off, none⟩) 2 cap) ∧ w'.cell? ⟨b, off, none⟩ = some (.int .i64 x.kind) ∧ w'.cell? ⟨b, off + 1, none⟩ = some (.int .i64 x.num) ∧ w'.cell? ⟨b, off + 2, none⟩ = some (.string x.name) ∧ w'.cell? ⟨b, off + 3, none⟩ = some (.slice A' x.args.length cap') ∧ w'.cell? ⟨b, off + 4, none⟩ = some (.int .i64 y.kind) ∧ w'.cell? ⟨b, off + 4 + 1, none⟩ = some (.int .i64 y.num) ∧ w'.cell? ⟨b, off + 4 + 2, none⟩ = some (.string y.name) ∧ w'.cell? ⟨b, off + 4 + 3, none⟩ = some (.slice B' y.args.length bap') ∧ w'.cell? ⟨w1.heap.size, 0, none⟩ = some (.string op.name) ∧ w'.cell? ⟨w1.heap.size, 1, none⟩ = some (.int .i64 op.typ) ∧ w'.cell? ⟨w1.heap.size, 2, none⟩ = some (.int .i64 op.prec) ∧ RegH (w.heap.size + 2) wR w')
          (first
            | with_reducible exact HKEEP.out _ HST6.out
            | with_reducible exact HKEEP.out _ (RegH.call (HOF.out _ (by with_reducible assumption)) (by with_reducible assumption))
            | with_reducible exact HKEEP.out _ hR8
            | with_reducible exact HKEEP.out _ (RegH.put4 (HOF.out _ (by with_reducible assumption)) _ _ _ _))
          (first
            | (go_at_call 58; (with_reducible refine (HPF3.out _ (HOF.out _ (by with_reducible assumption))).mono ?_); rintro e w7 ⟨g7, c7, rfl, hB7, hc7⟩; have hO7 := own_below HO6.out hB7)
            | (have hq7 := HOF.out w7 (by with_reducible assumption); refine step_append_lies _ (by rfl) _ _ 28 (by rfl) wR.heap.size 9 i _ 1 16 Tryz.underlying28 HI.out HZ0.out HZ1.out HZ2.out (by rfl) (by decide) (.slice (some ⟨g6, 0, none⟩) (LW.length + 1) c6) (LW.length + 1) (LW.map Value.string ++ [.string t.name]) (by rfl) hO7 ⟨g7, 0, none⟩ PL.length c7 (PL.map Value.string) (by rfl) (by simp) hc7 (strs_one _) hpl0 (by unfold maxLen; omega) (by omega) hq7.on.size w7.heap.size rfl ?_; intro g8 c8 w8 hown8 hg8 hat8 hlt8; have hR8 : RegH (w.heap.size + 2) wR w8 := hq7.grown hg8 (fun k hk => (hO7.lt k hk).1) hltR; obtain ⟨u0, r0⟩ := hR8.rb.r0; obtain ⟨u1, r1⟩ := hR8.rb.r1; obtain ⟨u2, r2⟩ := hR8.rb.r2; obtain ⟨u3, r3⟩ := hR8.rb.r3; have f0 := hR8.rb.rf 0; have f1 := hR8.rb.rf 1; have f2 := hR8.rb.rf 2; have f3 := hR8.rb.rf 3)
            | fail)
        all_goals
          have hfin := put4_below (HBX2.out w8 hR8) (w.heap.size + 2) (by omega) (.slice (some ⟨g8, 0, none⟩) (LW.length + 1 + PL.length) c8) (.string op.name) (.int .i64 op.typ) (.int .i64 op.prec)
          have HO8 : Hid (OwnS 9 wR.heap.size w8 (.slice (some ⟨g8, 0, none⟩) (LW.length + 1 + PL.length) c8) ((LW ++ [t.name]) ++ PL)) := Lib.hid (by
            unfold OwnS
            rw [List.length_append, List.map_append, List.length_append, List.map_append]; exact hown8)
          clear hown8 hg8
          go_wp2_with fail
          refine bodyPost_ret (v := .tuple #[.agg #[.slice (some ⟨g8, 0, none⟩) (LW.length + 1 + PL.length) c8, .string op.name, .int .i64 op.typ, .int .i64 op.prec], .bool true]) (by simp [results, Tryz.results128, go_sem, r0, r1, r2, r3]) rfl ⟨_, _, _, rfl, hfin, ?_⟩
          rw [HSG.out]
          exact (HO8.out.put4 hltR _ _ _ _).mono hbR.size
    · have HSG : Hid (signW o t.name = nm) := Lib.hid (HSN.out hn1 hn2)
      have hq1 : (t.name.toList == [44]) = false := by simp [hn1]
      have hq2 : (t.name.toList == [124]) = false := by simp [hn2]
      go_enter Tryz.func128, Tryz.ntmps128
      go_wp2_with fail
      refine (HOP.out _ HBX).mono ?_; rintro e w1 ⟨rfl, hB1⟩
      have hX1 := HX.out.call hB1
      have hX2 := hX1.call ((Below.refl _ _).alloc (Nat.le_refl _) (.cells #[.string op.name, .int .i64 op.typ, .int .i64 op.prec] 80))
      have hb2 := hX2.f2.bel
      have hG := BoxG.start w1 op 80
      have y1 := hX2.f2.wb.c1
      have y3 := hX2.f2.tb.c3
      have y0 := hX2.f2.wb.c0
      have y2 := hX2.f2.wb.c2
      have y4 := hX2.f2.wb.c3
      have y5 := hX2.f2.tb.c2
      rw [← HL.out] at y3
      go_upto_region 2 with fail
      generalize w1.alloc (.cells #[.string op.name, .int .i64 op.typ, .int .i64 op.prec] 80) = wA at *
      rw [HIG.out] at y1
      have HNM2 := Lib.hid (HNM.out wA hb2)
      rw [HIG.out] at HNM2
      go_wp2_with fail
      refine HNM2.out.mono ?_; rintro e w2 ⟨rfl, hB2⟩
      have hX3 := hX2.call hB2
      have hG3 := hG.call hB2
      have hb3 := hX3.f2.bel
      have k5 := hX3.f2.tb.c2
      have g0 := hG3.c0
      have g1 := hG3.c1
      have g2 := hG3.c2
      clear y0 y1 y2 y3 y4 y5 HNM2
      go_wp2_with fail
      refine (HSD0.out _).mono ?_; rintro e wR ⟨rfl, hB3⟩
      have hXR := hX3.call hB3
      have hGR := hG3.call hB3
      have hbR := hXR.f2.bel
      clear k5 g0 g1 g2
      have hlt1 := hX1.rb.lt
      have hltR := hXR.rb.lt
      have HKEEP : Hid (∀ X, RegH (w.heap.size + 2) wR X → X.cell? ⟨w.heap.size, 0, none⟩ = some (.bool o.q) ∧ X.cell? ⟨w.heap.size, 1, none⟩ = some (.bool o.ig) ∧ X.cell? ⟨w.heap.size, 2, none⟩ = some (.bool o.nu) ∧ X.cell? ⟨w.heap.size, 3, none⟩ = some (.slice TA TN TC) ∧ X.cell? ⟨w.heap.size + 1, 3, none⟩ = some (.slice (some ⟨b, off, none⟩) 2 cap) ∧ X.cell? ⟨b, off, none⟩ = some (.int .i64 x.kind) ∧ X.cell? ⟨b, off + 1, none⟩ = some (.int .i64 x.num) ∧ X.cell? ⟨b, off + 2, none⟩ = some (.string x.name) ∧ X.cell? ⟨b, off + 3, none⟩ = some (.slice A' x.args.length cap') ∧ X.cell? ⟨b, off + 4, none⟩ = some (.int .i64 y.kind) ∧ X.cell? ⟨b, off + 4 + 1, none⟩ = some (.int .i64 y.num) ∧ X.cell? ⟨b, off + 4 + 2, none⟩ = some (.string y.name) ∧ X.cell? ⟨b, off + 4 + 3, none⟩ = some (.slice B' y.args.length bap') ∧ X.cell? ⟨w1.heap.size, 0, none⟩ = some (.string op.name) ∧ X.cell? ⟨w1.heap.size, 1, none⟩ = some (.int .i64 op.typ) ∧ X.cell? ⟨w1.heap.size, 2, none⟩ = some (.int .i64 op.prec) ∧ RegH (w.heap.size + 2) wR X) := Lib.hid (fun X h => by
        have hw : ∀ g k, g < wR.heap.size → g ≠ w.heap.size + 2 → X.cell? ⟨g, k, none⟩ = wR.cell? ⟨g, k, none⟩ := fun g k h1 h2 => h.on.cell (p := ⟨g, k, none⟩) h1 h2
        have hwb := hXR.f2.wb
        have htb := hXR.f2.tb
        obtain ⟨e0, e1, e2, e3, d0, d1, d2, d3⟩ := HEL.out
        have he : ∀ k, X.cell? ⟨b, k, none⟩ = w.cell? ⟨b, k, none⟩ := fun k => (hw b k (Nat.lt_of_lt_of_le hb hbR.size) (by omega)).trans (hbR.cell (p := ⟨b, k, none⟩) hb)
        have h3 := htb.c3
        rw [← HL.out] at h3
        exact ⟨(hw _ _ hwb.lt (by omega)).trans hwb.c0, (hw _ _ hwb.lt (by omega)).trans hwb.c1, (hw _ _ hwb.lt (by omega)).trans hwb.c2, (hw _ _ hwb.lt (by omega)).trans hwb.c3, (hw _ _ htb.lt (by omega)).trans h3, (he _).trans e0, (he _).trans e1, (he _).trans e2, (he _).trans e3, (he _).trans d0, (he _).trans d1, (he _).trans d2, (he _).trans d3, (hw _ _ hGR.lt (by omega)).trans hGR.c0, (hw _ _ hGR.lt (by omega)).trans hGR.c1, (hw _ _ hGR.lt (by omega)).trans hGR.c2, h⟩)
      have HOF : Hid (∀ X, (X.cell? ⟨w.heap.size, 0, none⟩ = some (.bool o.q) ∧ X.cell? ⟨w.heap.size, 1, none⟩ = some (.bool o.ig) ∧ X.cell? ⟨w.heap.size, 2, none⟩ = some (.bool o.nu) ∧ X.cell? ⟨w.heap.size, 3, none⟩ = some (.slice TA TN TC) ∧ X.cell? ⟨w.heap.size + 1, 3, none⟩ = some (.slice (some ⟨b, off, none⟩) 2 cap) ∧ X.cell? ⟨b, off, none⟩ = some (.int .i64 x.kind) ∧ X.cell? ⟨b, off + 1, none⟩ = some (.int .i64 x.num) ∧ X.cell? ⟨b, off + 2, none⟩ = some (.string x.name) ∧ X.cell? ⟨b, off + 3, none⟩ = some (.slice A' x.args.length cap') ∧ X.cell? ⟨b, off + 4, none⟩ = some (.int .i64 y.kind) ∧ X.cell? ⟨b, off + 4 + 1, none⟩ = some (.int .i64 y.num) ∧ X.cell? ⟨b, off + 4 + 2, none⟩ = some (.string y.name) ∧ X.cell? ⟨b, off + 4 + 3, none⟩ = some (.slice B' y.args.length bap') ∧ X.cell? ⟨w1.heap.size, 0, none⟩ = some (.string op.name) ∧ X.cell? ⟨w1.heap.size, 1, none⟩ = some (.int .i64 op.typ) ∧ X.cell? ⟨w1.heap.size, 2, none⟩ = some (.int .i64 op.prec) ∧ RegH (w.heap.size + 2) wR X) → RegH (w.heap.size + 2) wR X) := Lib.hid (fun X h => h.2.2.2.2.2.2.2.2.2.2.2.2.2.2.2.2)
      have HST : Hid (RegH (w.heap.size + 2) wR wR.drew) := Lib.hid (RegH.drew ⟨Only.refl _ _, hXR.rb⟩)
      have HSA : Hid (RegH (w.heap.size + 2) wR (wR.alloc (.cells #[.string nm] 9)).drew) := Lib.hid (RegH.drew (RegH.alloc ⟨Only.refl _ _, hXR.rb⟩ _))
      have hbX : ∀ X, RegH (w.heap.size + 2) wR X → Below w.heap.size w X := fun X h => hbR.trans (h.on.below (by omega) hbR.size)
      have HBX2 := Lib.hid hbX
      have HLF3 : Hid (∀ X, RegH (w.heap.size + 2) wR X → Calls Tryz.prog 171 #[.agg #[.bool o.q, .bool o.ig, .bool o.nu, .slice TA TN TC], .agg #[.int .i64 x.kind, .int .i64 x.num, .string x.name, .slice A' x.args.length cap'], .agg #[.string op.name, .int .i64 op.typ, .int .i64 op.prec]] X fun e w' => ∃ v, e = .returned v ∧ Below X.heap.size X w' ∧ OwnS 9 wR.heap.size w' v LW) :=
        Lib.hid (fun X h => (HLF2.out X (hbX X h) HS0.out).mono fun _ _ ⟨v, he, hB, hO⟩ => ⟨v, he, hB, hO.mono h.on.size⟩)
      have HPF3 : Hid (∀ X, RegH (w.heap.size + 2) wR X → Calls Tryz.prog 58 #[.agg #[.bool o.q, .bool o.ig, .bool o.nu, .slice TA TN TC], .agg #[.int .i64 y.kind, .int .i64 y.num, .string y.name, .slice B' y.args.length bap'], .int .i64 sr, .bool true] X fun e w' => ∃ g c, e = .returned (.slice (some ⟨g, 0, none⟩) PL.length c) ∧ Below X.heap.size X w' ∧ ∀ j u, (PL.map Value.string)[j]? = some u → w'.cell? ((⟨g, 0, none⟩ : Addr).add j) = some u) :=
        Lib.hid (fun X h => (HPF2.out X (hbX X h) HS1.out).mono fun _ _ ⟨v, he, hB, hO⟩ => by
          obtain ⟨g, c, rfl, hc⟩ := own_pos hO hpl0
          exact ⟨g, c, he, hB, hc⟩)
      clear hbX HLF2 HPF2 HNM HOP HX HBX HEL hX1 hX2 hX3 hG hG3
      go_wp2_with fail
      go_region_held3 (fun w' => w'.cell? ⟨w.heap.size, 0, none⟩ = some (.bool o.q) ∧ w'.cell? ⟨w.heap.size, 1, none⟩ = some (.bool o.ig) ∧ w'.cell? ⟨w.heap.size, 2, none⟩ = some (.bool o.nu) ∧ w'.cell? ⟨w.heap.size, 3, none⟩ = some (.slice TA TN TC) ∧ w'.cell? ⟨w.heap.size + 1, 3, none⟩ = some (.slice (some ⟨b, off, none⟩) 2 cap) ∧ w'.cell? ⟨b, off, none⟩ = some (.int .i64 x.kind) ∧ w'.cell? ⟨b, off + 1, none⟩ = some (.int .i64 x.num) ∧ w'.cell? ⟨b, off + 2, none⟩ = some (.string x.name) ∧ w'.cell? ⟨b, off + 3, none⟩ = some (.slice A' x.args.length cap') ∧ w'.cell? ⟨b, off + 4, none⟩ = some (.int .i64 y.kind) ∧ w'.cell? ⟨b, off + 4 + 1, none⟩ = some (.int .i64 y.num) ∧ w'.cell? ⟨b, off + 4 + 2, none⟩ = some (.string y.name) ∧ w'.cell? ⟨b, off + 4 + 3, none⟩ = some (.slice B' y.args.length bap') ∧ w'.cell? ⟨w1.heap.size, 0, none⟩ = some (.string op.name) ∧ w'.cell? ⟨w1.heap.size, 1, none⟩ = some (.int .i64 op.typ) ∧ w'.cell? ⟨w1.heap.size, 2, none⟩ = some (.int .i64 op.prec) ∧ RegH (w.heap.size + 2) wR w')
        (first
          | with_reducible exact HKEEP.out _ HST.out
          | with_reducible exact HKEEP.out _ (RegH.call (HOF.out _ (by with_reducible assumption)) (by with_reducible assumption))
          | with_reducible exact HKEEP.out _ HSA.out
          | with_reducible exact HKEEP.out _ hR6
          | with_reducible exact HKEEP.out _ (RegH.alloc (HOF.out _ (by with_reducible assumption)) _))
        (first
          | (go_at_call 171; (with_reducible refine (HLF3.out _ (HOF.out _ (by with_reducible assumption))).mono ?_); rintro e w4 ⟨v4, rfl, hB4, hO4⟩)
          | (have hs5 := hO4.alloc (.cells #[.string nm] 9); have hq5 := HOF.out (w4.alloc (.cells #[.string nm] 9)) (by with_reducible assumption); refine step_append_lies _ (by rfl) _ _ 28 (by rfl) wR.heap.size 9 i _ 1 16 Tryz.underlying28 HI.out HZ0.out HZ1.out HZ2.out (by rfl) (by decide) v4 LW.length (LW.map Value.string) (by rfl) hs5 ⟨w4.heap.size, 0, none⟩ 1 1 [.string nm] (by rfl) (by rfl) (World.news_of_block (heap_alloc_new w4 _)) (by intro u hu; rw [List.mem_singleton] at hu; subst hu; rfl) (by decide) (by unfold maxLen; omega) (by omega) hq5.on.size (w4.heap.size + 1) (by simp) ?_; intro g6 c6 w6 hown6 hg6 hat6 hlt6; have hR6 : RegH (w.heap.size + 2) wR w6 := hq5.grown hg6 (fun k hk => (hs5.lt k hk).1) hltR)
          | (have hq5 := HOF.out w4 (by with_reducible assumption); have hnw : ∀ j u, [Value.string nm][j]? = some u → w4.cell? ((⟨wR.heap.size, 0, none⟩ : Addr).add j) = some u := World.news_of_block ((hB4.block wR.heap.size (by simp)).trans (heap_alloc_new wR _)); refine step_append_lies _ (by rfl) _ _ 28 (by rfl) wR.heap.size 9 i _ 1 16 Tryz.underlying28 HI.out HZ0.out HZ1.out HZ2.out (by rfl) (by decide) v4 LW.length (LW.map Value.string) (by rfl) hO4 ⟨wR.heap.size, 0, none⟩ 1 1 [.string nm] (by rfl) (by rfl) hnw (by intro u hu; rw [List.mem_singleton] at hu; subst hu; rfl) (by decide) (by unfold maxLen; omega) (by omega) hq5.on.size w4.heap.size rfl ?_; intro g6 c6 w6 hown6 hg6 hat6 hlt6; have hR6 : RegH (w.heap.size + 2) wR w6 := hq5.grown hg6 (fun k hk => (hO4.lt k hk).1) hltR)
          | fail)
      all_goals
        have HR6 := Lib.hid hR6
        have HO6 := Lib.hid (World.ownsRow.drew hown6)
        have HST6 : Hid (RegH (w.heap.size + 2) wR w6.drew) := Lib.hid hR6.drew
        clear hown6 hg6 hat6 hlt6 hR6 hO4 hB4
        go_wp2_with fail
        go_region_held3 (fun w' => w'.cell? ⟨w.heap.size, 0, none⟩ = some (.bool o.q) ∧ w'.cell? ⟨w.heap.size, 1, none⟩ = some (.bool o.ig) ∧ w'.cell? ⟨w.heap.size, 2, none⟩ = some (.bool o.nu) ∧ w'.cell? ⟨w.heap.size, 3, none⟩ = some (.slice TA TN TC) ∧ w'.cell? ⟨w.heap.size + 1, 3, none⟩ = some (.slice (some ⟨b, off, none⟩) 2 cap) ∧ w'.cell? ⟨b, off, none⟩ = some (.int .i64 x.kind) ∧ w'.cell? ⟨b, off + 1, none⟩ = some (.int .i64 x.num) ∧ w'.cell? ⟨b, off + 2, none⟩ = some (.string x.name) ∧ w'.cell? ⟨b, off + 3, none⟩ = some (.slice A' x.args.length cap') ∧ w'.cell? ⟨b, off + 4, none⟩ = some (.int .i64 y.kind) ∧ w'.cell? ⟨b, off + 4 + 1, none⟩ = some (.int .i64 y.num) ∧ w'.cell? ⟨b, off + 4 + 2, none⟩ = some (.string y.name) ∧ w'.cell? ⟨b, off + 4 + 3, none⟩ = some (.slice B' y.args.length bap') ∧ w'.cell? ⟨w1.heap.size, 0, none⟩ = some (.string op.name) ∧ w'.cell? ⟨w1.heap.size, 1, none⟩ = some (.int .i64 op.typ) ∧ w'.cell? ⟨w1.heap.size, 2, none⟩ = some (.int .i64 op.prec) ∧ RegH (w.heap.size + 2) wR w')
          (first
            | with_reducible exact HKEEP.out _ HST6.out
            | with_reducible exact HKEEP.out _ (RegH.call (HOF.out _ (by with_reducible assumption)) (by with_reducible assumption))
            | with_reducible exact HKEEP.out _ hR8
            | with_reducible exact HKEEP.out _ (RegH.put4 (HOF.out _ (by with_reducible assumption)) _ _ _ _))
          (first
            | (go_at_call 58; (with_reducible refine (HPF3.out _ (HOF.out _ (by with_reducible assumption))).mono ?_); rintro e w7 ⟨g7, c7, rfl, hB7, hc7⟩; have hO7 := own_below HO6.out hB7)
            | (have hq7 := HOF.out w7 (by with_reducible assumption); refine step_append_lies _ (by rfl) _ _ 28 (by rfl) wR.heap.size 9 i _ 1 16 Tryz.underlying28 HI.out HZ0.out HZ1.out HZ2.out (by rfl) (by decide) (.slice (some ⟨g6, 0, none⟩) (LW.length + 1) c6) (LW.length + 1) (LW.map Value.string ++ [.string nm]) (by rfl) hO7 ⟨g7, 0, none⟩ PL.length c7 (PL.map Value.string) (by rfl) (by simp) hc7 (strs_one _) hpl0 (by unfold maxLen; omega) (by omega) hq7.on.size w7.heap.size rfl ?_; intro g8 c8 w8 hown8 hg8 hat8 hlt8; have hR8 : RegH (w.heap.size + 2) wR w8 := hq7.grown hg8 (fun k hk => (hO7.lt k hk).1) hltR; obtain ⟨u0, r0⟩ := hR8.rb.r0; obtain ⟨u1, r1⟩ := hR8.rb.r1; obtain ⟨u2, r2⟩ := hR8.rb.r2; obtain ⟨u3, r3⟩ := hR8.rb.r3; have f0 := hR8.rb.rf 0; have f1 := hR8.rb.rf 1; have f2 := hR8.rb.rf 2; have f3 := hR8.rb.rf 3)
            | fail)
        all_goals
          have hfin := put4_below (HBX2.out w8 hR8) (w.heap.size + 2) (by omega) (.slice (some ⟨g8, 0, none⟩) (LW.length + 1 + PL.length) c8) (.string op.name) (.int .i64 op.typ) (.int .i64 op.prec)
          have HO8 : Hid (OwnS 9 wR.heap.size w8 (.slice (some ⟨g8, 0, none⟩) (LW.length + 1 + PL.length) c8) ((LW ++ [nm]) ++ PL)) := Lib.hid (by
            unfold OwnS
            rw [List.length_append, List.map_append, List.length_append, List.map_append]; exact hown8)
          clear hown8 hg8
          go_wp2_with fail
          refine bodyPost_ret (v := .tuple #[.agg #[.slice (some ⟨g8, 0, none⟩) (LW.length + 1 + PL.length) c8, .string op.name, .int .i64 op.typ, .int .i64 op.prec], .bool true]) (by simp [results, Tryz.results128, go_sem, r0, r1, r2, r3]) rfl ⟨_, _, _, rfl, hfin, ?_⟩
          rw [HSG.out]
          exact (HO8.out.put4 hltR _ _ _ _).mono hbR.size
end Go.Proofs.YtgapnafkelokaaaGreatDoor
