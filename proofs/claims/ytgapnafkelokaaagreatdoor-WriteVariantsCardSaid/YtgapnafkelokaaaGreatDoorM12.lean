/- Writing: number. Writing: list. Writing: the left operand. Writing: postfix. -/
import Derived.Test.YtgapnafkelokaaaGreatDoorM10
import Derived.Test.YtgapnafkelokaaaGreatDoorM09
import Derived.Deep.CutBlock
import Derived.Deep.RegionHeld3
import Derived.Deep.AppendLies
namespace Hb
open Go Go.RowKit
/-- A result's box. -/
structure RBx (w : World) (g : Nat) : Prop where
  lt : g < w.heap.size
  r0 : ∃ u, w.cell? ⟨g, 0, none⟩ = some u
  r1 : ∃ u, w.cell? ⟨g, 1, none⟩ = some u
  r2 : ∃ u, w.cell? ⟨g, 2, none⟩ = some u
  r3 : ∃ u, w.cell? ⟨g, 3, none⟩ = some u
  rf : ∀ o, w.frozen? ⟨g, o, none⟩ = false
theorem RBx.call {w w' : World} {g : Nat} (h : RBx w g) (hB : Below w.heap.size w w') : RBx w' g :=
  ⟨Nat.lt_of_lt_of_le h.lt hB.size, h.r0.imp fun _ k => (hB.cell (p := ⟨_, _, none⟩) h.lt).trans k, h.r1.imp fun _ k => (hB.cell (p := ⟨_, _, none⟩) h.lt).trans k, h.r2.imp fun _ k => (hB.cell (p := ⟨_, _, none⟩) h.lt).trans k, h.r3.imp fun _ k => (hB.cell (p := ⟨_, _, none⟩) h.lt).trans k, fun o => (hB.frozen (p := ⟨_, o, none⟩) h.lt).trans (h.rf o)⟩
theorem RBx.start (w : World) (x0 x1 x2 x3 : Value) (e : TypeId) : RBx (w.alloc (.cells #[x0, x1, x2, x3] e)) w.heap.size :=
  ⟨by simp, ⟨_, World.cell?_alloc_new _ _ _ 0⟩, ⟨_, World.cell?_alloc_new _ _ _ 1⟩, ⟨_, World.cell?_alloc_new _ _ _ 2⟩, ⟨_, World.cell?_alloc_new _ _ _ 3⟩, fun o => World.frozen?_alloc_new _ _ _ _⟩
/-- The three boxes of a rule of the writer. -/
structure Fr3 (w0 w : World) (o : WO) (TA : Option Addr) (TN TC : Nat) (t : Tm) (A : Option Addr) (cap : Nat) : Prop where
  f2 : Fr2 w0 w o TA TN TC t A cap
  rb : RBx w (w0.heap.size + 2)
theorem Fr3.call {w0 w w' : World} {o : WO} {TA : Option Addr} {TN TC : Nat} {t : Tm} {A : Option Addr} {cap : Nat} (h : Fr3 w0 w o TA TN TC t A cap) (hB : Below w.heap.size w w') : Fr3 w0 w' o TA TN TC t A cap :=
  ⟨h.f2.call hB, h.rb.call hB⟩
theorem Fr3.start (w : World) (o : WO) (TA : Option Addr) (TN TC : Nat) (t : Tm) (A : Option Addr) (cap LN : Nat) (e1 e2 e3 : TypeId) (hL : LN = t.args.length) (x0 x1 x2 x3 : Value) :
    Fr3 w (((w.alloc (.cells #[.bool o.q, .bool o.ig, .bool o.nu, .slice TA TN TC] e1)).alloc (.cells #[.int .i64 t.kind, .int .i64 t.num, .string t.name, .slice A LN cap] e2)).alloc (.cells #[x0, x1, x2, x3] e3)) o TA TN TC t A cap := by
  have h2 := Fr2.start w o TA TN TC t A cap LN e1 e2 hL
  have hs : ((w.alloc (.cells #[.bool o.q, .bool o.ig, .bool o.nu, .slice TA TN TC] e1)).alloc (.cells #[.int .i64 t.kind, .int .i64 t.num, .string t.name, .slice A LN cap] e2)).heap.size = w.heap.size + 2 := by simp
  have h3 := RBx.start ((w.alloc (.cells #[.bool o.q, .bool o.ig, .bool o.nu, .slice TA TN TC] e1)).alloc (.cells #[.int .i64 t.kind, .int .i64 t.num, .string t.name, .slice A LN cap] e2)) x0 x1 x2 x3 e3
  rw [hs] at h3
  exact ⟨h2.call ((Below.refl _ _).alloc (Nat.le_refl _) _), h3⟩
theorem OwnS.put4 {e b g : Nat} {w : World} {v : Value} {l : List ByteArray} (h : OwnS e b w v l) (hg : g < b) (x y z u : Value) : OwnS e b ((((w.setCell ⟨g, 0, none⟩ x).setCell ⟨g, 1, none⟩ y).setCell ⟨g, 2, none⟩ z).setCell ⟨g, 3, none⟩ u) v l := by
  refine ⟨h.1, ?_⟩
  rcases h.2 with hn | ⟨k, cap, cur, hv, hk, hh, rest⟩
  · exact .inl hn
  · exact .inr ⟨k, cap, cur, hv, hk, by rw [put4_block _ _ _ _ _ _ _ (by omega)]; exact hh, rest⟩
theorem OwnS.oneAt (e : TypeId) (w : World) (s : ByteArray) (g : Nat) (h : w.heap.size = g) : OwnS e g (w.alloc (.cells #[.string s] e)) (.slice (some ⟨g, 0, none⟩) 1 1) [s] := by
  subst h; exact OwnS.one e w s
theorem OwnS.nil (e b : Nat) (w : World) : OwnS e b w (.slice none 0 0) [] := World.ownsRow_nil _ _ _ _
theorem put4_below {w0 w : World} (h : Below w0.heap.size w0 w) (g : Nat) (hg : w0.heap.size ≤ g) (x y z u : Value) : Below w0.heap.size w0 ((((w.setCell ⟨g, 0, none⟩ x).setCell ⟨g, 1, none⟩ y).setCell ⟨g, 2, none⟩ z).setCell ⟨g, 3, none⟩ u) :=
  (((h.setCell (p := ⟨_, _, none⟩) hg _).setCell (p := ⟨_, _, none⟩) hg _).setCell (p := ⟨_, _, none⟩) hg _).setCell (p := ⟨_, _, none⟩) hg _
/-- What a rule gives. -/
def wrR (A : Option Addr) (n c : Nat) (p : OpR) (b : Bool) : Value := .tuple #[.agg #[.slice A n c, .string p.name, .int .i64 p.typ, .int .i64 p.prec], .bool b]
def ruleNum (o : WO) (t : Tm) : WR := if isNum o t = true then ([letterW (t.arg 0).num], op0) else ([], op0)
theorem letterW_eq (n : Int) (h : 0 ≤ n) : letterW n = if n < 26 then (⟨#[(65 + n % 26).toNat.toUInt8]⟩ : ByteArray) else (⟨#[(65 + n % 26).toNat.toUInt8]⟩ : ByteArray) ++ fmI (n / 26) := by
  have e : (65 + n % 26).toNat = 65 + n.toNat % 26 := by omega
  unfold letterW s1
  rw [e]
theorem ruleNum_no {o : WO} {t : Tm} (h : isNum o t = false) : ruleNum o t = ([], op0) := by unfold ruleNum; rw [h]; rfl
end Hb
namespace Go.Proofs.YtgapnafkelokaaaGreatDoor
open Go.RowKit Hb
set_option maxRecDepth 100000
set_option maxHeartbeats 3200000 in
theorem w_number (o : WO) (TA : Option Addr) (TN TC : Nat) (t : Tm) (hfit : (t.args.all nodeFit) = true) (A : Option Addr) (cap : Nat) (w : World) (hD : DoorOk w) (hT : TmsAt w.heap.size w A t.args) :
    Calls Tryz.prog 123 #[wrV o TA TN TC, tmV t A cap] w fun e w' => ∃ A' n' c', e = .returned (wrR A' n' c' (ruleNum o t).2 (isNum o t)) ∧ Below w.heap.size w w' ∧ OwnS 9 w.heap.size w' (.slice A' n' c') (ruleNum o t).1 := by
  obtain ⟨LN, HL⟩ : ∃ LN, Hid (LN = t.args.length) := ⟨_, Lib.hid rfl⟩
  have HX := Lib.hid (Fr3.start w o TA TN TC t A cap LN 67 24 138 HL.out (.slice none 0 0) (.string ⟨#[]⟩) (.int .i64 0) (.int .i64 0))
  have HBX := HX.out.f2.bel
  have hsz := HBX.size
  have hbx : Below w.heap.size w (((w.alloc (.cells #[.bool o.q, .bool o.ig, .bool o.nu, .slice TA TN TC] 67)).alloc (.cells #[.int .i64 t.kind, .int .i64 t.num, .string t.name, .slice A LN cap] 24)).alloc (.cells #[.slice none 0 0, .string ⟨#[]⟩, .int .i64 0, .int .i64 0] 138)) := HBX
  have HIN : Hid (isNum o t = (o.nu && (t.name.toList == [36, 86, 65, 82] && (t.args.length == 1 && ((t.arg 0).kind == 1 && decide (0 ≤ (t.arg 0).num)))))) := Lib.hid rfl
  have HGET := Lib.hid (fun (h : LN = 1) => (hT.keep HBX).get 0 (by rw [← HL.out, h]; decide))
  have HARG := Lib.hid (fun (h : LN = 1) => Tm.arg_get t 0 (by rw [← HL.out, h]; decide))
  have HFIT := Lib.hid hfit
  have HD := Lib.hid hD
  clear hT hfit hD
  unfold tmV wrV wrR
  rw [← HL.out] at HIN ⊢
  cases hc1 : o.nu
  · have HN := Lib.hid (show isNum o t = false by rw [HIN.out, hc1]; rfl)
    rw [HN.out, ruleNum_no HN.out]
    rw [hc1] at hbx
    clear HIN HX HBX hsz HGET HARG
    go_enter Tryz.func123, Tryz.ntmps123
    go_wp2_with fail
    refine bodyPost_ret (v := .tuple #[.agg #[.slice none 0 0, .string ⟨#[]⟩, .int .i64 0, .int .i64 0], .bool false]) (by simp [results, Tryz.results123, go_sem]) rfl ⟨none, 0, 0, rfl, ?_, OwnS.nil _ _ _⟩
    exact hbx
  · cases hc2 : (t.name.toList == [36, 86, 65, 82])
    · have hn2 : ¬ t.name.toList = [36, 86, 65, 82] := by simpa using hc2
      have HN := Lib.hid (show isNum o t = false by rw [HIN.out, hc1, hc2]; rfl)
      rw [HN.out, ruleNum_no HN.out]
      rw [hc1] at hbx
      clear HIN HX HBX hsz HGET HARG
      go_enter Tryz.func123, Tryz.ntmps123
      go_wp2_with fail
      refine bodyPost_ret (v := .tuple #[.agg #[.slice none 0 0, .string ⟨#[]⟩, .int .i64 0, .int .i64 0], .bool false]) (by simp [results, Tryz.results123, go_sem]) rfl ⟨none, 0, 0, rfl, ?_, OwnS.nil _ _ _⟩
      exact hbx
    · have hn2 : t.name.toList = [36, 86, 65, 82] := by simpa using hc2
      by_cases hl : LN = 1
      · subst hl
        have hl1 : 0 < t.args.length := by have := HL.out; omega
        obtain ⟨b, off, A', cap', rfl, hb, c0, c1, c2, c3, hs⟩ := HGET.out rfl
        have HAR := Lib.hid (HARG.out rfl)
        rw [HAR.out] at HIN
        have hfx : nodeFit t.args[0] = true := List.all_eq_true.1 HFIT.out _ (List.getElem_mem _)
        obtain ⟨hf0, hf1⟩ := (nodeFit_iff _).1 hfx
        rw [Nat.zero_mul, Nat.add_zero] at c0 c1 c2 c3
        have HRN : Hid (isNum o t = true → ruleNum o t = ([letterW t.args[0].num], op0)) := Lib.hid (fun h => by unfold ruleNum; rw [if_pos h, HAR.out])
        clear hs hfx HGET HARG HAR HFIT c2 c3
        generalize t.args[0] = x at *
        cases hk : (x.kind == 1)
        · have hk2 : ¬ x.kind = 1 := by simpa using hk
          have HN := Lib.hid (show isNum o t = false by rw [HIN.out, hc1, hc2, hk]; rfl)
          rw [HN.out, ruleNum_no HN.out]
          rw [hc1] at hbx c0 c1
          clear HIN HX HBX hsz HRN
          go_enter Tryz.func123, Tryz.ntmps123
          go_wp2_with fail
          refine bodyPost_ret (v := .tuple #[.agg #[.slice none 0 0, .string ⟨#[]⟩, .int .i64 0, .int .i64 0], .bool false]) (by simp [results, Tryz.results123, go_sem]) rfl ⟨none, 0, 0, rfl, ?_, OwnS.nil _ _ _⟩
          exact hbx
        · have hk2 : x.kind = 1 := by simpa using hk
          rw [hk2] at c0
          by_cases hnn : 0 ≤ x.num
          · have HNY := Lib.hid (show isNum o t = true by rw [HIN.out, hc1, hc2, hk, decide_eq_true hnn]; rfl)
            rw [HNY.out, HRN.out HNY.out]
            generalize x.num = n at *
            have hd : ¬ n < 0 := by omega
            have hm : n.tmod 26 = n % 26 := Int.tmod_eq_emod_of_nonneg hnn
            have hq : n.tdiv 26 = n / 26 := Int.tdiv_eq_ediv_of_nonneg hnn
            have hm0 : 0 ≤ n % 26 := by omega
            have hm1 : n % 26 < 26 := by omega
            rw [hc1] at hbx c0 c1
            have hHX := HX.out
            rw [hc1] at hHX
            clear HIN HNY HX hsz HRN
            have hcv := conv_new1 (P := Tryz.prog) 75 9 5 Tryz.underlying75 Tryz.underlying5 Tryz.underlying9 (65 + n % 26) (by omega) (by omega) (((w.alloc (.cells #[.bool o.q, .bool o.ig, .bool true, .slice TA TN TC] 67)).alloc (.cells #[.int .i64 t.kind, .int .i64 t.num, .string t.name, .slice (some ⟨b, off, none⟩) 1 cap] 24)).alloc (.cells #[.slice none 0 0, .string ⟨#[]⟩, .int .i64 0, .int .i64 0] 138))
            have hsz3 : (((w.alloc (.cells #[.bool o.q, .bool o.ig, .bool true, .slice TA TN TC] 67)).alloc (.cells #[.int .i64 t.kind, .int .i64 t.num, .string t.name, .slice (some ⟨b, off, none⟩) 1 cap] 24)).alloc (.cells #[.slice none 0 0, .string ⟨#[]⟩, .int .i64 0, .int .i64 0] 138)).heap.size = w.heap.size + 1 + 1 + 1 := by simp
            rw [hsz3] at hcv
            have HLT := Lib.hid (letterW_eq n hnn)
            obtain ⟨c, hce⟩ : ∃ c : ByteArray, c = ⟨#[(65 + n % 26).toNat.toUInt8]⟩ := ⟨_, rfl⟩
            have hcs : c.size = 1 := by rw [hce]; rfl
            rw [← hce] at hcv HLT
            clear hce
            by_cases hlt : n < 26
            · have HL2 := Lib.hid (show letterW n = c by rw [HLT.out, if_pos hlt])
              clear hHX
              go_enter Tryz.func123, Tryz.ntmps123
              go_wp2_with fail
              refine bodyPost_ret (v := .tuple #[.agg #[.slice (some ⟨w.heap.size + 1 + 1 + 1 + 1, 0, none⟩) 1 1, .string ⟨#[]⟩, .int .i64 0, .int .i64 0], .bool true]) (by simp [results, Tryz.results123, go_sem]) rfl ⟨_, 1, 1, rfl, ?_, ?_⟩
              · repeat (first | exact Below.refl _ _ | refine Below.alloc ?_ (by simp <;> omega) _)
              · rw [HL2.out]
                exact (OwnS.oneAt _ _ _ _ (by simp)).mono (by omega)
            · have hge : 26 ≤ n := by omega
              have HL2 := Lib.hid (show letterW n = c ++ fmI (n / 26) by rw [HLT.out, if_neg hlt])
              have hq0 : -9223372036854775808 ≤ n / 26 := by omega
              have hq1 : n / 26 ≤ 9223372036854775807 := by omega
              have hfl := fmI_size (n / 26) hq0 hq1
              have hBB := hHX.f2.bel.alloc hHX.f2.bel.size (.cells #[.int .u8 (65 + n % 26)] 5)
              have HF := Lib.hid (fmt10 (n / 26) hq0 hq1 _ (HD.out.below hBB))
              have HX1 := Lib.hid (hHX.call ((Below.refl _ _).alloc (Nat.le_refl _) (.cells #[.int .u8 (65 + n % 26)] 5)))
              clear hHX hq0 hq1
              go_enter Tryz.func123, Tryz.ntmps123
              go_wp2_with fail
              refine HF.out.mono ?_; rintro e w1 ⟨rfl, hB1⟩
              have hX2 := HX1.out.call hB1
              have hb2 := hX2.f2.bel
              obtain ⟨u0, r0⟩ := hX2.rb.r0
              obtain ⟨u1, r1⟩ := hX2.rb.r1
              obtain ⟨u2, r2⟩ := hX2.rb.r2
              obtain ⟨u3, r3⟩ := hX2.rb.r3
              have f0 := hX2.rb.rf 0
              have f1 := hX2.rb.rf 1
              have f2 := hX2.rb.rf 2
              have f3 := hX2.rb.rf 3
              have hlt3 := hX2.rb.lt
              go_wp2_with fail
              refine bodyPost_ret (v := .tuple #[.agg #[.slice (some ⟨w1.heap.size, 0, none⟩) 1 1, .string ⟨#[]⟩, .int .i64 0, .int .i64 0], .bool true]) (by simp [results, Tryz.results123, go_sem, r0, r1, r2, r3, hlt3]) rfl ⟨_, 1, 1, rfl, (put4_below hb2 _ (by omega) _ _ _ _).alloc (by rw [put4_size]; exact hb2.size) _, ?_⟩
              rw [HL2.out]
              exact (OwnS.oneAt _ _ _ _ (put4_size _ _ _ _ _ _)).mono hb2.size
          · have hnn2 : x.num < 0 := by omega
            have HN := Lib.hid (show isNum o t = false by rw [HIN.out, hc1, hc2, hk, decide_eq_false hnn]; rfl)
            rw [HN.out, ruleNum_no HN.out]
            rw [hc1] at hbx c0 c1
            clear HIN HX HBX hsz HRN
            go_enter Tryz.func123, Tryz.ntmps123
            go_wp2_with fail
            refine bodyPost_ret (v := .tuple #[.agg #[.slice none 0 0, .string ⟨#[]⟩, .int .i64 0, .int .i64 0], .bool false]) (by simp [results, Tryz.results123, go_sem]) rfl ⟨none, 0, 0, rfl, ?_, OwnS.nil _ _ _⟩
            exact hbx
      · have hl2 : (LN == 1) = false := by simpa using hl
        have HN := Lib.hid (show isNum o t = false by rw [HIN.out, hc1, hc2, hl2]; rfl)
        rw [HN.out, ruleNum_no HN.out]
        rw [hc1] at hbx
        clear HIN HX HBX hsz HGET HARG
        go_enter Tryz.func123, Tryz.ntmps123
        go_wp2_with fail
        refine bodyPost_ret (v := .tuple #[.agg #[.slice none 0 0, .string ⟨#[]⟩, .int .i64 0, .int .i64 0], .bool false]) (by simp [results, Tryz.results123, go_sem]) rfl ⟨none, 0, 0, rfl, ?_, OwnS.nil _ _ _⟩
        exact hbx
end Go.Proofs.YtgapnafkelokaaaGreatDoor
namespace Hb
open Go Go.RowKit
def condList (t : Tm) : Bool := t.isNm [46] && t.args.length == 2
def ruleList (o : WO) (T : List OpR) (S : Tm → WR) (t : Tm) : WR := if condList t = true then (s1 91 :: ((rowW (argW o T S) (elemsT t) ++ tailW (argW o T S) (tailT t)) ++ [s1 93]), op0) else ([], op0)
theorem ruleList_no {o : WO} {T : List OpR} {S : Tm → WR} {t : Tm} (h : condList t = false) : ruleList o T S t = ([], op0) := by unfold ruleList; rw [h]; rfl
theorem ruleList_yes {o : WO} {T : List OpR} {S : Tm → WR} {t : Tm} (h : condList t = true) : ruleList o T S t = (s1 91 :: ((rowW (argW o T S) (elemsT t) ++ tailW (argW o T S) (tailT t)) ++ [s1 93]), op0) := by unfold ruleList; rw [if_pos h]
theorem Fr3.over {w0 w w' : World} {o : WO} {TA : Option Addr} {TN TC : Nat} {t : Tm} {A : Option Addr} {cap b : Nat} (h : Fr3 w0 w o TA TN TC t A cap) (hb : w0.heap.size + 2 < b) (hB : Below (b + 1) w w') : Fr3 w0 w' o TA TN TC t A cap := by
  have hs := hB.size
  have h1 := h.rb.lt
  have hcl : ∀ g k, g < b → w'.cell? ⟨g, k, none⟩ = w.cell? ⟨g, k, none⟩ ∧ w'.frozen? ⟨g, k, none⟩ = w.frozen? ⟨g, k, none⟩ := fun g k hg => ⟨hB.cell (p := ⟨g, k, none⟩) (show g < b + 1 by omega), hB.frozen (p := ⟨g, k, none⟩) (show g < b + 1 by omega)⟩
  refine ⟨⟨h.f2.bel.trans (hB.mono (by omega)), ?_, ?_⟩, ?_⟩
  · exact ⟨by omega, (hcl _ _ (by omega)).1.trans h.f2.wb.c0, (hcl _ _ (by omega)).1.trans h.f2.wb.c1, (hcl _ _ (by omega)).1.trans h.f2.wb.c2, (hcl _ _ (by omega)).1.trans h.f2.wb.c3⟩
  · exact ⟨by omega, (hcl _ _ (by omega)).1.trans h.f2.tb.c0, (hcl _ _ (by omega)).1.trans h.f2.tb.c1, (hcl _ _ (by omega)).1.trans h.f2.tb.c2, (hcl _ _ (by omega)).1.trans h.f2.tb.c3⟩
  · exact ⟨by omega, h.rb.r0.imp fun _ k => (hcl _ _ (by omega)).1.trans k, h.rb.r1.imp fun _ k => (hcl _ _ (by omega)).1.trans k, h.rb.r2.imp fun _ k => (hcl _ _ (by omega)).1.trans k, h.rb.r3.imp fun _ k => (hcl _ _ (by omega)).1.trans k, fun k => (hcl _ _ (by omega)).2.trans (h.rb.rf k)⟩
theorem OwnS.val {e b : Nat} {w : World} {v : Value} {l : List ByteArray} (h : OwnS e b w v l) : ∃ A n c, v = .slice A n c := by
  obtain ⟨A, c, hv, _⟩ := h.strs
  exact ⟨A, _, c, hv⟩
theorem OwnS.strN {e b : Nat} {w : World} {v : Value} {l : List ByteArray} (h : OwnS e b w v l) : ∃ A n c, v = .slice A n c ∧ n = l.length ∧ StrsAt w A l ∧ HeadOk A n c := by
  obtain ⟨A, c, hv, hs, hh⟩ := h.strs
  exact ⟨A, _, c, hv, rfl, hs, hh⟩
theorem OwnS.snoc {e b : Nat} {w : World} {v : Value} {l m : List ByteArray} (h : w.ownsRow b e 1 v (l.length + m.length) (l.map Value.string ++ m.map Value.string)) : OwnS e b w v (l ++ m) := by
  unfold OwnS; rw [List.length_append, List.map_append]; exact h
end Hb
namespace Go.Proofs.YtgapnafkelokaaaGreatDoor
open Go.RowKit Hb
set_option maxRecDepth 100000
variable {o : WO} {T : List OpR} {TA : Option Addr} {TN TC : Nat} {S : Tm → WR}
set_option maxHeartbeats 800000 in
theorem w_list (t : Tm) (hv : condList t = true → validT t = true) (hnd : t.nodes ≤ 5000) (hP : ∀ x ∈ elemsT t, POK o T TA TN TC S x) (hPt : condList t = true → POK o T TA TN TC S (tailT t)) (hlen : (rowW (argW o T S) (elemsT t)).length + (argW o T S (tailT t)).length ≤ 80000) (A : Option Addr) (cap : Nat) (w : World) (hE : Env T TA TN TC w) (hT : TmsAt w.heap.size w A t.args) :
    Calls Tryz.prog 125 #[wrV o TA TN TC, tmV t A cap] w fun e w' => ∃ A' n' c', e = .returned (wrR A' n' c' (ruleList o T S t).2 (condList t)) ∧ Below w.heap.size w w' ∧ OwnS 9 w.heap.size w' (.slice A' n' c') (ruleList o T S t).1 := by
  obtain ⟨LN, HL⟩ : ∃ LN, Hid (LN = t.args.length) := ⟨_, Lib.hid rfl⟩
  have HX := Lib.hid (Fr3.start w o TA TN TC t A cap LN 67 24 138 HL.out (.slice none 0 0) (.string ⟨#[]⟩) (.int .i64 0) (.int .i64 0))
  have HBX := HX.out.f2.bel
  have hsz := HBX.size
  have HIN : Hid (condList t = (t.name.toList == [46] && t.args.length == 2)) := Lib.hid rfl
  have HE := Lib.hid hE
  have HEL := Lib.hid (fun (hc : condList t = true) W (h : Below w.heap.size w W) => t_elems t A cap W ((hT.keep h).mono h.size) (hv hc))
  have hnn : (elemsT t).length ≤ 10000 := by
    have h1 := elemsT_len t
    omega
  have HP := Lib.hid hP
  have HPT := Lib.hid hPt
  have HRW := Lib.hid (fun A1 c1 W (h : Below w.heap.size w W) (h2 : TmsAt W.heap.size W A1 (elemsT t)) => w_row (elemsT t) hP (by omega) A1 (elemsT t).length c1 W rfl hnn (hE.below h) h2)
  have HAG := Lib.hid (fun (hc : condList t = true) A1 c1 W (h : Below w.heap.size w W) (h2 : TmsAt W.heap.size W A1 (tailT t).args) => w_arg (hPt hc) A1 c1 W (hE.below h) h2)
  clear hT hE hP hPt hv hnd
  unfold tmV wrV wrR argF at *
  rw [← HL.out] at HIN HEL ⊢
  cases hc1 : (t.name.toList == [46])
  · have hn2 : ¬ t.name.toList = [46] := by simpa using hc1
    have HN := Lib.hid (show condList t = false by rw [HIN.out, hc1]; rfl)
    rw [HN.out, ruleList_no HN.out]
    clear HIN HX hsz HEL HRW HAG
    go_enter Tryz.func125, Tryz.ntmps125
    go_wp2_with fail
    refine bodyPost_ret (v := .tuple #[.agg #[.slice none 0 0, .string ⟨#[]⟩, .int .i64 0, .int .i64 0], .bool false]) (by simp [results, Tryz.results125, go_sem]) rfl ⟨none, 0, 0, rfl, HBX, OwnS.nil _ _ _⟩
  · have hn2 : t.name.toList = [46] := by simpa using hc1
    by_cases hl : LN = 2
    · subst hl
      have HN := Lib.hid (show condList t = true by rw [HIN.out, hc1]; rfl)
      have HAG := Lib.hid (HAG.out HN.out)
      have HEL := Lib.hid (HEL.out HN.out)
      rw [HN.out, ruleList_yes HN.out]
      have HR : Hid ((rowW (argW o T S) (elemsT t) ++ tailW (argW o T S) (tailT t)).length ≤ 80001) := Lib.hid (by
        rw [List.length_append]; unfold tailW; split
        · rw [List.length_nil]; omega
        · rw [List.length_cons]; omega)
      have HTW := Lib.hid (show tailW (argW o T S) (tailT t) = if ((tailT t).kind == 2 && (tailT t).name.toList == [91, 93]) = true then [] else s1 124 :: argW o T S (tailT t) from rfl)
      clear HIN HP HPT
      generalize rowW (argW o T S) (elemsT t) = R at *
      generalize tailW (argW o T S) (tailT t) = TL at *
      generalize argW o T S (tailT t) = TP at *
      have HO0 : Hid (op0.name = ⟨#[]⟩ ∧ op0.typ = 0 ∧ op0.prec = 0) := Lib.hid ⟨rfl, rfl, rfl⟩
      go_enter Tryz.func125, Tryz.ntmps125
      go_wp2_with fail
      refine (HEL.out _ HBX).mono ?_; rintro e w1 ⟨A1, c1, A2, c2, rfl, hB1, hN1, hN2⟩
      have HX1 := Lib.hid (HX.out.call hB1)
      have hb1 := HX1.out.f2.bel
      have hT1 : TmsAt w1.heap.size w1 A1 (elemsT t) := hN1.at fun b hb => hb.2
      have hT2 : TmsAt w1.heap.size w1 A2 (tailT t).args := hN2.at fun b hb => hb.2
      obtain ⟨u, HU⟩ : ∃ u, Hid (u = tailT t) := ⟨_, Lib.hid rfl⟩
      rw [← HU.out] at hT2 HAG HTW ⊢
      have HT2 := Lib.hid hT2
      have HX2 := Lib.hid (HX1.out.call ((Below.refl _ _).alloc (Nat.le_refl _) (.cells #[.int .i64 u.kind, .int .i64 u.num, .string u.name, .slice A2 u.args.length c2] 24)))
      have hb2 := HX2.out.f2.bel
      have HBT : Hid (TBx (w1.alloc (.cells #[.int .i64 u.kind, .int .i64 u.num, .string u.name, .slice A2 u.args.length c2] 24)) w1.heap.size u A2 c2) := Lib.hid ⟨by simp, World.cell?_alloc_new _ _ _ 0, World.cell?_alloc_new _ _ _ 1, World.cell?_alloc_new _ _ _ 2, World.cell?_alloc_new _ _ _ 3⟩
      have HR1 := Lib.hid (HRW.out A1 c1 _ hb2 ((hT1.keep ((Below.refl _ _).alloc (Nat.le_refl _) _)).mono (by simp)))
      have x0 := HX2.out.f2.wb.c0
      have x1 := HX2.out.f2.wb.c1
      have x2 := HX2.out.f2.wb.c2
      have x3 := HX2.out.f2.wb.c3
      clear hT1 hT2 hN1 hN2 HEL HRW
      generalize (elemsT t).length = en at *
      go_wp2_with fail
      refine HR1.out.mono ?_; rintro e w2 ⟨v2, rfl, hB2, hO2⟩
      have HX3 := Lib.hid (HX2.out.call hB2)
      have hT3 := HBT.out.call hB2
      have c0 := hT3.c0
      have k1 := hT3.c1
      have c2' := hT3.c2
      have c3 := hT3.c3
      have y0 := HX3.out.f2.wb.c0
      have y1 := HX3.out.f2.wb.c1
      have y2 := HX3.out.f2.wb.c2
      have y3 := HX3.out.f2.wb.c3
      have HO2 := Lib.hid hO2
      have hb3 := HX3.out.f2.bel
      clear hO2 HR1 x0 x1 x2 x3 HX
      have hcase : (u.kind = 2 ∧ u.name.toList = [91, 93]) ∨ ¬ u.kind = 2 ∨ (u.kind = 2 ∧ ¬ u.name.toList = [91, 93]) := by
        by_cases h1 : u.kind = 2
        · by_cases h2 : u.name.toList = [91, 93]
          · exact .inl ⟨h1, h2⟩
          · exact .inr (.inr ⟨h1, h2⟩)
        · exact .inr (.inl h1)
      rcases hcase with ⟨hk, hn⟩ | hnil
      · have hTL : TL = [] := by rw [HTW.out, if_pos (by rw [hk, hn]; rfl)]
        subst hTL
        rw [List.append_nil] at HR
        rw [hk] at c0
        obtain ⟨A4, n4, c4, rfl, hn4, hS4, hH4⟩ := HO2.out.strN
        have HBW := Lib.hid (w_between ⟨#[91]⟩ ⟨#[93]⟩ A4 n4 c4 _ w2 hn4 (by have := HR.out; omega) hS4 hH4)
        clear hS4 hH4 hn4
        go_wp2_with fail
        refine HBW.out.mono ?_; rintro e w7 ⟨v7, rfl, hB7, hO7⟩
        obtain ⟨A7, n7, c7, rfl⟩ := hO7.val
        have HO7 := Lib.hid hO7
        have HX7 := Lib.hid (HX3.out.call hB7)
        have hb7 := HX7.out.f2.bel
        have hlt7 := (HX3.out).rb.lt
        have hbF := (HX3.out).f2.bel.size
        obtain ⟨u0, r0⟩ := HX7.out.rb.r0
        obtain ⟨u1, r1⟩ := HX7.out.rb.r1
        obtain ⟨u2, r2⟩ := HX7.out.rb.r2
        obtain ⟨u3, r3⟩ := HX7.out.rb.r3
        have f0 := HX7.out.rb.rf 0
        have f1 := HX7.out.rb.rf 1
        have f2 := HX7.out.rb.rf 2
        have f3 := HX7.out.rb.rf 3
        clear hO7
        go_wp2_with fail
        refine bodyPost_ret (v := .tuple #[.agg #[.slice A7 n7 c7, .string ⟨#[]⟩, .int .i64 0, .int .i64 0], .bool true]) (by simp [results, Tryz.results125, go_sem, r0, r1, r2, r3]) rfl ⟨A7, n7, c7, rfl, put4_below hb7 _ (by omega) _ _ _ _, ?_⟩
        rw [List.append_nil]
        exact (HO7.out.put4 hlt7 _ _ _ _).mono hbF
      · have hTL : TL = s1 124 :: TP := by
          rw [HTW.out, if_neg]
          intro h
          rw [Bool.and_eq_true, beq_iff_eq, beq_iff_eq] at h
          rcases hnil with h1 | ⟨_, h1⟩
          · exact h1 h.1
          · exact h1 h.2
        subst hTL
        have hRL : R.length + 1 + TP.length ≤ 80001 := by have := HR.out; rw [List.length_append, List.length_cons] at this; omega
        have HAG2 := Lib.hid (fun W (h : Below w.heap.size w W) (h2 : Below w1.heap.size w1 W) => HAG.out A2 c2 W h ((TmsAt.keep HT2.out h2).mono h2.size))
        have hbase : w1.heap.size + 1 ≤ w2.heap.size := by have := hB2.size; simp at this; exact this
        have HO2b : Hid (w2.ownsRow (w1.heap.size + 1) 9 1 v2 R.length (R.map Value.string)) := Lib.hid (by
          have h := HO2.out
          have e1 : (w1.alloc (.cells #[.int .i64 u.kind, .int .i64 u.num, .string u.name, .slice A2 u.args.length c2] 24)).heap.size = w1.heap.size + 1 := by simp
          unfold OwnS at h
          rw [e1] at h
          exact h)
        have hBw2 : Below w1.heap.size w1 w2 := ((Below.refl _ _).alloc (Nat.le_refl _) _).trans (hB2.mono (by simp))
        have HKEEP : Hid (∀ (v4 : Value) (w4 : World), w4.ownsRow (w1.heap.size + 1) 9 1 v4 (R.length + 1) (R.map Value.string ++ #[Value.string ⟨#[124]⟩].toList) → Below (w1.heap.size + 1) w2 w4 → (Fr3 w w4 o TA TN TC t A cap ∧ TBx w4 w1.heap.size u A2 c2 ∧ Below w1.heap.size w1 w4 ∧ OwnS 9 (w1.heap.size + 1) w4 v4 (R ++ [s1 124]) ∧ w1.heap.size + 1 ≤ w4.heap.size)) := Lib.hid (fun v4 w4 ho hB4 => by
          have hlt := HX1.out.rb.lt
          have hX := HX3.out
          have hcl : ∀ b k, b < w1.heap.size + 1 → w4.cell? ⟨b, k, none⟩ = w2.cell? ⟨b, k, none⟩ ∧ w4.frozen? ⟨b, k, none⟩ = w2.frozen? ⟨b, k, none⟩ := fun b k hb => ⟨hB4.cell (p := ⟨b, k, none⟩) hb, hB4.frozen (p := ⟨b, k, none⟩) hb⟩
          have hs4 := hB4.size
          refine ⟨⟨⟨hb3.trans (hB4.mono (by omega)), ?_, ?_⟩, ?_⟩, ?_, hBw2.trans (hB4.mono (by omega)), OwnS.snoc (m := [s1 124]) ho, by omega⟩
          · exact ⟨by omega, (hcl _ _ (by omega)).1.trans hX.f2.wb.c0, (hcl _ _ (by omega)).1.trans hX.f2.wb.c1, (hcl _ _ (by omega)).1.trans hX.f2.wb.c2, (hcl _ _ (by omega)).1.trans hX.f2.wb.c3⟩
          · exact ⟨by omega, (hcl _ _ (by omega)).1.trans hX.f2.tb.c0, (hcl _ _ (by omega)).1.trans hX.f2.tb.c1, (hcl _ _ (by omega)).1.trans hX.f2.tb.c2, (hcl _ _ (by omega)).1.trans hX.f2.tb.c3⟩
          · exact ⟨by omega, hX.rb.r0.imp fun _ k => (hcl _ _ (by omega)).1.trans k, hX.rb.r1.imp fun _ k => (hcl _ _ (by omega)).1.trans k, hX.rb.r2.imp fun _ k => (hcl _ _ (by omega)).1.trans k, hX.rb.r3.imp fun _ k => (hcl _ _ (by omega)).1.trans k, fun k => (hcl _ _ (by omega)).2.trans (hX.rb.rf k)⟩
          · exact ⟨by omega, (hcl _ _ (by omega)).1.trans hT3.c0, (hcl _ _ (by omega)).1.trans hT3.c1, (hcl _ _ (by omega)).1.trans hT3.c2, (hcl _ _ (by omega)).1.trans hT3.c3⟩)
        have hal : (R ++ [s1 124]).length = R.length + 1 := by simp
        have HTP2 : Hid ((R ++ [s1 124]) ++ TP = R ++ s1 124 :: TP) := Lib.hid (by simp)
        rcases hnil with hk | ⟨hk, hn⟩
        · skip
          go_wp2_with ((with_reducible refine at_appSS ?_); go_must (refine wpList_append_one rfl _ _ 28 9 rfl Tryz.underlying28 _ 1 16 infoStr rfl (by decide) (w1.heap.size + 1) _ _ _ rfl w2 HO2b.out #[.string ⟨#[124]⟩] rfl (by simp [Value.oneCell']) rfl rfl (by omega) (by omega) hbase ?_; intro v4 w4 ho4 hB4 hg4; obtain ⟨hX4, hT4, hBw4, hO4, hs4⟩ := HKEEP.out v4 w4 ho4 hB4; have HX4 := Lib.hid hX4; have HO4 := Lib.hid hO4; have z0 := hX4.f2.wb.c0; have z1 := hX4.f2.wb.c1; have z2 := hX4.f2.wb.c2; have z3 := hX4.f2.wb.c3; have d0 := hT4.c0; have d1 := hT4.c1; have d2 := hT4.c2; have d3 := hT4.c3; have hb4 := hX4.f2.bel; clear ho4 hO4 hX4 hT4))
          refine (HAG2.out _ hb4 hBw4).mono ?_; rintro e w5 ⟨v5, rfl, hB5, hO5⟩
          obtain ⟨A5, c5, rfl, hsrc⟩ := hO5.src
          have HSRC := Lib.hid hsrc
          have HO4b := Lib.hid (HO4.out.below hB5)
          have HX5 := Lib.hid (HX4.out.call hB5)
          have hs5 : w1.heap.size + 1 ≤ w5.heap.size := Nat.le_trans hs4 hB5.size
          clear hsrc hO5 z0 z1 z2 z3 d0 d1 d2 d3
          go_wp2_with ((with_reducible refine at_appSS ?_); go_must (refine wpList_append_row rfl _ _ 28 9 rfl Tryz.underlying28 _ 1 16 infoStr rfl (by decide) (w1.heap.size + 1) _ _ _ rfl HO4b.out A5 _ c5 _ rfl HSRC.out (strs_one _) (by omega) (by omega) hs5 w5 (Below.refl _ _) ?_; intro v6 w6 ho6 hB6 hg6; have HO6 : Hid (OwnS 9 (w1.heap.size + 1) w6 v6 (R ++ s1 124 :: TP)) := (by rw [← HTP2.out]; exact Lib.hid (OwnS.snoc ho6)); have HX6 := Lib.hid (Fr3.over HX5.out HX1.out.rb.lt hB6); clear ho6; obtain ⟨A4, n4, c4, rfl, hn4, hS4, hH4⟩ := HO6.out.strN; have HBW := Lib.hid (w_between ⟨#[91]⟩ ⟨#[93]⟩ A4 n4 c4 _ w6 hn4 (by have := HR.out; omega) hS4 hH4); clear hS4 hH4 hn4))
          with_reducible refine HBW.out.mono ?_; rintro e w7 ⟨v7, rfl, hB7, hO7⟩
          obtain ⟨A7, n7, c7, rfl⟩ := hO7.val
          have HO7 := Lib.hid hO7
          have HX7 := Lib.hid (HX6.out.call hB7)
          have hb7 := HX7.out.f2.bel
          have hlt7 := (HX6.out).rb.lt
          have hbF := (HX6.out).f2.bel.size
          obtain ⟨u0, r0⟩ := HX7.out.rb.r0
          obtain ⟨u1, r1⟩ := HX7.out.rb.r1
          obtain ⟨u2, r2⟩ := HX7.out.rb.r2
          obtain ⟨u3, r3⟩ := HX7.out.rb.r3
          have f0 := HX7.out.rb.rf 0
          have f1 := HX7.out.rb.rf 1
          have f2 := HX7.out.rb.rf 2
          have f3 := HX7.out.rb.rf 3
          clear hO7
          go_wp2_with fail
          refine bodyPost_ret (v := .tuple #[.agg #[.slice A7 n7 c7, .string ⟨#[]⟩, .int .i64 0, .int .i64 0], .bool true]) (by simp [results, Tryz.results125, go_sem, r0, r1, r2, r3]) rfl ⟨A7, n7, c7, rfl, put4_below hb7 _ (by omega) _ _ _ _, ?_⟩
          exact (HO7.out.put4 hlt7 _ _ _ _).mono hbF
        · rw [hk] at c0 HAG2
          have hnb : (u.name.toList == [91, 93]) = false := by simpa using hn
          go_wp2_with ((with_reducible refine at_appSS ?_); go_must (refine wpList_append_one rfl _ _ 28 9 rfl Tryz.underlying28 _ 1 16 infoStr rfl (by decide) (w1.heap.size + 1) _ _ _ rfl w2 HO2b.out #[.string ⟨#[124]⟩] rfl (by simp [Value.oneCell']) rfl rfl (by omega) (by omega) hbase ?_; intro v4 w4 ho4 hB4 hg4; obtain ⟨hX4, hT4, hBw4, hO4, hs4⟩ := HKEEP.out v4 w4 ho4 hB4; have HX4 := Lib.hid hX4; have HO4 := Lib.hid hO4; have z0 := hX4.f2.wb.c0; have z1 := hX4.f2.wb.c1; have z2 := hX4.f2.wb.c2; have z3 := hX4.f2.wb.c3; have d0 := hT4.c0; have d1 := hT4.c1; have d2 := hT4.c2; have d3 := hT4.c3; have hb4 := hX4.f2.bel; clear ho4 hO4 hX4 hT4))
          refine (HAG2.out _ hb4 hBw4).mono ?_; rintro e w5 ⟨v5, rfl, hB5, hO5⟩
          obtain ⟨A5, c5, rfl, hsrc⟩ := hO5.src
          have HSRC := Lib.hid hsrc
          have HO4b := Lib.hid (HO4.out.below hB5)
          have HX5 := Lib.hid (HX4.out.call hB5)
          have hs5 : w1.heap.size + 1 ≤ w5.heap.size := Nat.le_trans hs4 hB5.size
          clear hsrc hO5 z0 z1 z2 z3 d0 d1 d2 d3
          go_wp2_with ((with_reducible refine at_appSS ?_); go_must (refine wpList_append_row rfl _ _ 28 9 rfl Tryz.underlying28 _ 1 16 infoStr rfl (by decide) (w1.heap.size + 1) _ _ _ rfl HO4b.out A5 _ c5 _ rfl HSRC.out (strs_one _) (by omega) (by omega) hs5 w5 (Below.refl _ _) ?_; intro v6 w6 ho6 hB6 hg6; have HO6 : Hid (OwnS 9 (w1.heap.size + 1) w6 v6 (R ++ s1 124 :: TP)) := (by rw [← HTP2.out]; exact Lib.hid (OwnS.snoc ho6)); have HX6 := Lib.hid (Fr3.over HX5.out HX1.out.rb.lt hB6); clear ho6; obtain ⟨A4, n4, c4, rfl, hn4, hS4, hH4⟩ := HO6.out.strN; have HBW := Lib.hid (w_between ⟨#[91]⟩ ⟨#[93]⟩ A4 n4 c4 _ w6 hn4 (by have := HR.out; omega) hS4 hH4); clear hS4 hH4 hn4))
          with_reducible refine HBW.out.mono ?_; rintro e w7 ⟨v7, rfl, hB7, hO7⟩
          obtain ⟨A7, n7, c7, rfl⟩ := hO7.val
          have HO7 := Lib.hid hO7
          have HX7 := Lib.hid (HX6.out.call hB7)
          have hb7 := HX7.out.f2.bel
          have hlt7 := (HX6.out).rb.lt
          have hbF := (HX6.out).f2.bel.size
          obtain ⟨u0, r0⟩ := HX7.out.rb.r0
          obtain ⟨u1, r1⟩ := HX7.out.rb.r1
          obtain ⟨u2, r2⟩ := HX7.out.rb.r2
          obtain ⟨u3, r3⟩ := HX7.out.rb.r3
          have f0 := HX7.out.rb.rf 0
          have f1 := HX7.out.rb.rf 1
          have f2 := HX7.out.rb.rf 2
          have f3 := HX7.out.rb.rf 3
          clear hO7
          go_wp2_with fail
          refine bodyPost_ret (v := .tuple #[.agg #[.slice A7 n7 c7, .string ⟨#[]⟩, .int .i64 0, .int .i64 0], .bool true]) (by simp [results, Tryz.results125, go_sem, r0, r1, r2, r3]) rfl ⟨A7, n7, c7, rfl, put4_below hb7 _ (by omega) _ _ _ _, ?_⟩
          exact (HO7.out.put4 hlt7 _ _ _ _).mono hbF
    · have hl2 : (LN == 2) = false := by simpa using hl
      have HN := Lib.hid (show condList t = false by rw [HIN.out, hc1, hl2]; rfl)
      rw [HN.out, ruleList_no HN.out]
      clear HIN HX hsz HEL HRW HAG
      go_enter Tryz.func125, Tryz.ntmps125
      go_wp2_with fail
      refine bodyPost_ret (v := .tuple #[.agg #[.slice none 0 0, .string ⟨#[]⟩, .int .i64 0, .int .i64 0], .bool false]) (by simp [results, Tryz.results125, go_sem]) rfl ⟨none, 0, 0, rfl, HBX, OwnS.nil _ _ _⟩
end Go.Proofs.YtgapnafkelokaaaGreatDoor
namespace Hb
open Go Go.RowKit
theorem leftW_str {o : WO} {T : List OpR} {S : Tm → WR} {t : Tm} {op : OpR} (h : t.kind = 3) : leftW o T S t op = brk (S t).1 (decide (sideL op < (S t).2.prec) || ((op.typ == 3 || op.typ == 7) && ((S t).2.typ == 2 || (S t).2.typ == 4)) && (S t).2.prec == op.prec) := by
  unfold leftW; rw [if_pos h]
theorem leftW_no {o : WO} {T : List OpR} {S : Tm → WR} {t : Tm} {op : OpR} (h : ¬ t.kind = 3) : leftW o T S t op = placeW o T S t (sideL op) true := by
  unfold leftW; rw [if_neg h]
end Hb
namespace Go.Proofs.YtgapnafkelokaaaGreatDoor
open Go.RowKit Hb
set_option maxRecDepth 100000
variable {o : WO} {T : List OpR} {TA : Option Addr} {TN TC : Nat} {S : Tm → WR}
set_option maxHeartbeats 6400000 in
theorem w_left (t : Tm) (op : OpR) (hop : 0 ≤ op.prec ∧ op.prec ≤ 1200) (hP : POK o T TA TN TC S t) (hS : t.kind = 3 → SOK o T TA TN TC S t) (hlen : (S t).1.length ≤ 90000) (A : Option Addr) (cap : Nat) (w : World) (hE : Env T TA TN TC w) (hT : TmsAt w.heap.size w A t.args) :
    Calls Tryz.prog 171 #[wrV o TA TN TC, tmV t A cap, opV op] w fun e w' => ∃ v, e = .returned v ∧ Below w.heap.size w w' ∧ OwnS 9 w.heap.size w' v (leftW o T S t op) := by
  obtain ⟨LN, HL⟩ : ∃ LN, Hid (LN = t.args.length) := ⟨_, Lib.hid rfl⟩
  have HX0 := Fr2.start w o TA TN TC t A cap LN 67 24 HL.out
  have hX := HX0.call ((Below.refl _ _).alloc (Nat.le_refl _) (.cells #[.string op.name, .int .i64 op.typ, .int .i64 op.prec] 80))
  have hs2 : ((w.alloc (.cells #[.bool o.q, .bool o.ig, .bool o.nu, .slice TA TN TC] 67)).alloc (.cells #[.int .i64 t.kind, .int .i64 t.num, .string t.name, .slice A LN cap] 24)).heap.size = w.heap.size + 2 := by simp
  have hG : BoxG (((w.alloc (.cells #[.bool o.q, .bool o.ig, .bool o.nu, .slice TA TN TC] 67)).alloc (.cells #[.int .i64 t.kind, .int .i64 t.num, .string t.name, .slice A LN cap] 24)).alloc (.cells #[.string op.name, .int .i64 op.typ, .int .i64 op.prec] 80)) (w.heap.size + 2) op := by
    have := BoxG.start ((w.alloc (.cells #[.bool o.q, .bool o.ig, .bool o.nu, .slice TA TN TC] 67)).alloc (.cells #[.int .i64 t.kind, .int .i64 t.num, .string t.name, .slice A LN cap] 24)) op 80
    rw [hs2] at this; exact this
  have HX := Lib.hid hX
  have HG := Lib.hid hG
  have HBX := hX.bel
  have HSD := Lib.hid (fun W => ops_sides op W (by omega))
  have HPP := Lib.hid (fun W (h : Below w.heap.size w W) => hP (sideL op) true A cap W (hE.below h) ((hT.keep h).mono h.size))
  have HSS := Lib.hid (fun (h3 : t.kind = 3) W (h : Below w.heap.size w W) => hS h3 A cap W (hE.below h) ((hT.keep h).mono h.size))
  have HLS := Lib.hid (leftW_str (o := o) (T := T) (S := S) (t := t) (op := op))
  have HLN := Lib.hid (leftW_no (o := o) (T := T) (S := S) (t := t) (op := op))
  have HK := Lib.hid hlen
  clear hE hT hP hS hlen hX hG HX0 hs2
  unfold tmV wrV opV at *
  rw [← HL.out] at HPP HSS ⊢
  by_cases hk : t.kind = 3
  · have HLW := Lib.hid (HLS.out hk)
    have HS3 := Lib.hid (HSS.out hk)
    have hkb : (t.kind == 3) = true := by simp [hk]
    clear HLS HLN HSS HPP hk
    generalize sideL op = sl at *
    generalize sideR op = sr at *
    generalize hx : (S t).2 = x at *
    go_enter Tryz.func171, Tryz.ntmps171
    go_wp2_with fail
    refine (HSD.out _).mono ?_; rintro e w1 ⟨rfl, hB1⟩
    have hX1 := HX.out.call hB1
    have hG1 := HG.out.call hB1
    have hb1 := hX1.bel
    have c0 := hX1.tb.c0
    have c1 := hX1.tb.c1
    have c2 := hX1.tb.c2
    have c3 := hX1.tb.c3
    have x0 := hX1.wb.c0
    have x1 := hX1.wb.c1
    have x2 := hX1.wb.c2
    have x3 := hX1.wb.c3
    rw [← HL.out] at c3
    go_wp2_with fail
    refine (HS3.out _ hb1).mono ?_; rintro e w2 ⟨A2, n2, k2, rfl, hB2, hO2⟩
    have hG2 := hG1.call hB2
    have hb2 := hb1.trans (hB2.mono hb1.size)
    have hG3 := hG2.call ((Below.refl _ _).alloc (Nat.le_refl _) (.cells #[.slice A2 n2 k2, .string x.name, .int .i64 x.typ, .int .i64 x.prec] 138))
    have hO3 := hO2.below ((Below.refl _ _).alloc (Nat.le_refl _) (.cells #[.slice A2 n2 k2, .string x.name, .int .i64 x.typ, .int .i64 x.prec] 138))
    have hb3 := hb2.alloc hb2.size (.cells #[.slice A2 n2 k2, .string x.name, .int .i64 x.typ, .int .i64 x.prec] 138)
    have HBR := Lib.hid (fun (b : Bool) => w_bracket b _ _ (S t).1 _ (by have := HK.out; omega) (hO3.mono hb1.size) hb3.size)
    have hW0 := World.cell?_alloc_new w2 #[.slice A2 n2 k2, .string x.name, .int .i64 x.typ, .int .i64 x.prec] 138 0
    have hW1 := World.cell?_alloc_new w2 #[.slice A2 n2 k2, .string x.name, .int .i64 x.typ, .int .i64 x.prec] 138 1
    have hW2 := World.cell?_alloc_new w2 #[.slice A2 n2 k2, .string x.name, .int .i64 x.typ, .int .i64 x.prec] 138 2
    have hW3 := World.cell?_alloc_new w2 #[.slice A2 n2 k2, .string x.name, .int .i64 x.typ, .int .i64 x.prec] 138 3
    clear hO2 hO3 c0 c1 c2 c3 x0 x1 x2 x3 hX1 hG1 hG2
    go_upto_region 5 with fail
    generalize w2.alloc (.cells #[.slice A2 n2 k2, .string x.name, .int .i64 x.typ, .int .i64 x.prec] 138) = W3 at *
    have g1 := hG3.c1
    have g2 := hG3.c2
    replace hW0 : W3.cell? ⟨w2.heap.size, 0, none⟩ = some (.slice A2 n2 k2) := hW0
    replace hW2 : W3.cell? ⟨w2.heap.size, 2, none⟩ = some (.int .i64 x.typ) := hW2
    replace hW3 : W3.cell? ⟨w2.heap.size, 3, none⟩ = some (.int .i64 x.prec) := hW3
    clear hW1
    go_wp2_with fail
    all_goals
      refine (HBR.out _).mono ?_; rintro e w4 ⟨v4, rfl, hB4, hO4⟩
      have hb4 := hb3.trans (hB4.mono hb3.size)
      have HO4 := Lib.hid hO4
      clear hO4
      go_wp2_with fail
      go_ret
      refine ⟨v4, rfl, hb4, ?_⟩
      rw [HLW.out]
      have := HO4.out
      (first | exact this | (refine Eq.mp (congrArg (fun b => OwnS _ _ _ _ (brk (S t).1 b)) ?_) this; grind))
  · have HLW := Lib.hid (HLN.out hk)
    clear HLS HLN HSS
    generalize sideL op = sl at *
    generalize sideR op = sr at *
    go_enter Tryz.func171, Tryz.ntmps171
    go_wp2_with fail
    refine (HSD.out _).mono ?_; rintro e w1 ⟨rfl, hB1⟩
    have hX1 := HX.out.call hB1
    have hb1 := hX1.bel
    have c0 := hX1.tb.c0
    have c1 := hX1.tb.c1
    have c2 := hX1.tb.c2
    have c3 := hX1.tb.c3
    have x0 := hX1.wb.c0
    have x1 := hX1.wb.c1
    have x2 := hX1.wb.c2
    have x3 := hX1.wb.c3
    rw [← HL.out] at c3
    go_wp2_with fail
    refine (HPP.out _ hb1).mono ?_; rintro e w2 ⟨v2, rfl, hB2, hO2⟩
    have hb2 := hb1.trans (hB2.mono hb1.size)
    have HO2 := Lib.hid hO2
    clear hO2
    go_wp2_with fail
    go_ret
    exact ⟨v2, rfl, hb2, by rw [HLW.out]; exact HO2.out.mono hb1.size⟩
end Go.Proofs.YtgapnafkelokaaaGreatDoor
namespace Hb
open Go Go.RowKit
theorem has_prec {T : List OpR} {s : ByteArray} {c : Int} (h : has T s c = true) : 1 ≤ (gets T s c).prec ∧ (gets T s c).prec ≤ 1200 := by
  unfold has at h
  unfold gets
  obtain ⟨p, hp⟩ := Option.isSome_iff_exists.1 h
  rw [hp]
  unfold findR at hp
  split at hp
  · rename_i hv
    have hm := List.mem_of_find?_eq_some hp
    have hk := valid_all hv p hm
    show 1 ≤ p.prec ∧ p.prec ≤ 1200
    unfold opOk at hk
    grind
  · cases hp
theorem Only.grown {g : Nat} {a b c : World} {row : Option Nat} (h : Only g a b) (hg : b.grownBy c row) (hr : ∀ k, row = some k → a.heap.size ≤ k) : Only g a c :=
  ⟨hg.os.trans h.os, hg.tape.trans h.tape, hg.output.trans h.output, Nat.le_trans h.size hg.size, fun k hk hkg => (hg.block k (Nat.lt_of_lt_of_le hk h.size) (fun e => by have := hr k e.symm; omega)).trans (h.block k hk hkg)⟩
theorem Only.drew {g : Nat} {a b : World} (h : Only g a b) : Only g a b.drew := h.trans (Only.of (Below.refl _ _).drew)
theorem Only.put4 {g : Nat} {a b : World} (h : Only g a b) (x y z u : Value) : Only g a ((((b.setCell ⟨g, 0, none⟩ x).setCell ⟨g, 1, none⟩ y).setCell ⟨g, 2, none⟩ z).setCell ⟨g, 3, none⟩ u) :=
  (((h.trans (Only.set g 0 _ x)).trans (Only.set g 1 _ y)).trans (Only.set g 2 _ z)).trans (Only.set g 3 _ u)
/-- A region that stores a result at last: all that was there but the result's box is as it was. -/
structure RegH (g : Nat) (wR w : World) : Prop where
  on : Only g wR w
  rb : RBx w g
theorem RegH.call {g : Nat} {wR w w' : World} (h : RegH g wR w) (hB : Below w.heap.size w w') : RegH g wR w' := ⟨h.on.trans (Only.of hB), h.rb.call hB⟩
theorem RegH.drew {g : Nat} {wR w : World} (h : RegH g wR w) : RegH g wR w.drew := h.call (Below.refl _ _).drew
theorem RegH.alloc {g : Nat} {wR w : World} (h : RegH g wR w) (o : Obj) : RegH g wR (w.alloc o) := h.call ((Below.refl _ _).alloc (Nat.le_refl _) o)
theorem RegH.grown {g : Nat} {wR w w' : World} {row : Option Nat} (h : RegH g wR w) (hg : w.grownBy w' row) (hr : ∀ k, row = some k → wR.heap.size ≤ k) (hgl : g < wR.heap.size) : RegH g wR w' := by
  have hne : some g ≠ row := fun e => by have := hr g e.symm; omega
  have hc : ∀ k, w'.cell? ⟨g, k, none⟩ = w.cell? ⟨g, k, none⟩ ∧ w'.frozen? ⟨g, k, none⟩ = w.frozen? ⟨g, k, none⟩ := fun k => ⟨hg.cell_far ⟨g, k, none⟩ h.rb.lt hne, hg.frozen_far ⟨g, k, none⟩ h.rb.lt hne⟩
  exact ⟨h.on.grown hg hr, Nat.lt_of_lt_of_le h.rb.lt hg.size, h.rb.r0.imp fun _ k => (hc _).1.trans k, h.rb.r1.imp fun _ k => (hc _).1.trans k, h.rb.r2.imp fun _ k => (hc _).1.trans k, h.rb.r3.imp fun _ k => (hc _).1.trans k, fun o => (hc _).2.trans (h.rb.rf o)⟩
theorem RBx.put4 {w : World} {g : Nat} (h : RBx w g) (x y z u : Value) : RBx ((((w.setCell ⟨g, 0, none⟩ x).setCell ⟨g, 1, none⟩ y).setCell ⟨g, 2, none⟩ z).setCell ⟨g, 3, none⟩ u) g := by
  obtain ⟨u0, r0⟩ := h.r0
  obtain ⟨u1, r1⟩ := h.r1
  obtain ⟨u2, r2⟩ := h.r2
  obtain ⟨u3, r3⟩ := h.r3
  obtain ⟨q0, q1, q2, q3, qf⟩ := put4_cells w g x y z u r0 r1 r2 r3 _ rfl
  exact ⟨by rw [put4_size]; exact h.lt, ⟨_, q0⟩, ⟨_, q1⟩, ⟨_, q2⟩, ⟨_, q3⟩, fun o => (qf _).trans (h.rf o)⟩
theorem RegH.put4 {g : Nat} {wR w : World} (h : RegH g wR w) (x y z u : Value) : RegH g wR ((((w.setCell ⟨g, 0, none⟩ x).setCell ⟨g, 1, none⟩ y).setCell ⟨g, 2, none⟩ z).setCell ⟨g, 3, none⟩ u) := ⟨h.on.put4 x y z u, h.rb.put4 x y z u⟩
def condPost (o : WO) (T : List OpR) (t : Tm) : Bool := !o.ig && (has T t.name 3 && t.args.length == 1)
def rulePost (o : WO) (T : List OpR) (S : Tm → WR) (t : Tm) : WR := if condPost o T t = true then (leftW o T S (t.arg 0) (gets T t.name 3) ++ [nmW o t.name], gets T t.name 3) else ([], op0)
theorem rulePost_no {o : WO} {T : List OpR} {S : Tm → WR} {t : Tm} (h : condPost o T t = false) : rulePost o T S t = ([], op0) := by unfold rulePost; rw [h]; rfl
theorem rulePost_yes {o : WO} {T : List OpR} {S : Tm → WR} {t : Tm} (h : condPost o T t = true) : rulePost o T S t = (leftW o T S (t.arg 0) (gets T t.name 3) ++ [nmW o t.name], gets T t.name 3) := by unfold rulePost; rw [if_pos h]
end Hb
namespace Go.Proofs.YtgapnafkelokaaaGreatDoor
open Go.RowKit Hb
set_option maxRecDepth 100000
variable {o : WO} {T : List OpR} {TA : Option Addr} {TN TC : Nat} {S : Tm → WR}
set_option maxHeartbeats 3200000 in
theorem w_postfix (t : Tm) (hname : t.name.size ≤ 100) (hP0 : t.args.length = 1 → POK o T TA TN TC S (t.arg 0)) (hS0 : t.args.length = 1 → (t.arg 0).kind = 3 → SOK o T TA TN TC S (t.arg 0)) (hlen : (S (t.arg 0)).1.length ≤ 80000) (hll : ∀ op, (leftW o T S (t.arg 0) op).length ≤ 80000) (A : Option Addr) (cap : Nat) (w : World) (hE : Env T TA TN TC w) (hT : TmsAt w.heap.size w A t.args) :
    Calls Tryz.prog 132 #[wrV o TA TN TC, tmV t A cap] w fun e w' => ∃ A' n' c', e = .returned (wrR A' n' c' (rulePost o T S t).2 (condPost o T t)) ∧ Below w.heap.size w w' ∧ OwnS 9 w.heap.size w' (.slice A' n' c') (rulePost o T S t).1 := by
  obtain ⟨i, hi, hz0, hz1, hz2⟩ := info_parts infoStr
  have HI := Lib.hid hi
  have HZ0 := Lib.hid hz0
  have HZ1 := Lib.hid hz1
  have HZ2 := Lib.hid hz2
  clear hi hz0 hz1 hz2
  obtain ⟨LN, HL⟩ : ∃ LN, Hid (LN = t.args.length) := ⟨_, Lib.hid rfl⟩
  have HX := Lib.hid (Fr3.start w o TA TN TC t A cap LN 67 24 138 HL.out (.slice none 0 0) (.string ⟨#[]⟩) (.int .i64 0) (.int .i64 0))
  have HBX := HX.out.f2.bel
  have HIN : Hid (condPost o T t = (!o.ig && (has T t.name 3 && t.args.length == 1))) := Lib.hid rfl
  have HOP := Lib.hid (fun W (h : Below w.heap.size w W) => ops_postfix TA TN TC T t.name W hE.tab.len hE.few (hE.tab.below h).ops)
  have HNM := Lib.hid (fun W (h : Below w.heap.size w W) => w_name o TA TN TC t.name W (by omega) (hE.door.below h))
  have HLF := Lib.hid (fun (h1 : LN = 1) (op : OpR) (hop : 0 ≤ op.prec ∧ op.prec ≤ 1200) A' cap' W (h : Below w.heap.size w W) (h2 : TmsAt w.heap.size w A' (t.arg 0).args) => w_left (t.arg 0) op hop (hP0 (by rw [← HL.out]; exact h1)) (hS0 (by rw [← HL.out]; exact h1)) (by omega) A' cap' W (hE.below h) ((h2.keep h).mono h.size))
  have HGET := Lib.hid (fun (h : LN = 1) => hT.get 0 (by rw [← HL.out, h]; decide))
  have HARG := Lib.hid (fun (h : LN = 1) => Tm.arg_get t 0 (by rw [← HL.out, h]; decide))
  have HLL := Lib.hid hll
  have HPR := Lib.hid (has_prec (T := T) (s := t.name) (c := 3))
  have HY := Lib.hid (rulePost_yes (o := o) (T := T) (S := S) (t := t))
  have HNO := Lib.hid (rulePost_no (o := o) (T := T) (S := S) (t := t))
  have HHAS : Hid ((findR T t.name 3).isSome = has T t.name 3) := Lib.hid rfl
  have HGTS : Hid ((findR T t.name 3).getD op0 = gets T t.name 3) := Lib.hid rfl
  rw [HHAS.out, HGTS.out] at HOP
  clear hT hE hP0 hS0 hlen hll HHAS HGTS
  unfold tmV wrV wrR opV at *
  rw [← HL.out] at HIN ⊢
  have hcases : (condPost o T t = false ∧ (o.ig = true ∨ has T t.name 3 = false ∨ ¬ LN = 1)) ∨ (o.ig = false ∧ has T t.name 3 = true ∧ LN = 1) := by
    rw [HIN.out]
    cases o.ig <;> cases has T t.name 3 <;> by_cases h : LN = 1 <;> simp [h]
  rcases hcases with ⟨hno, hwhy⟩ | ⟨hig, hhas, hl⟩
  · rw [hno, HNO.out hno]
    clear HIN HLF HGET HARG HLL HPR HY HNO HNM hno HI HZ0 HZ1 HZ2
    generalize has T t.name 3 = hs at *
    generalize gets T t.name 3 = op at *
    rcases hwhy with hwy | hwy | hwy
    all_goals
      have HWY := Lib.hid hwy
      clear hwy
      go_enter Tryz.func132, Tryz.ntmps132
      go_wp2_with fail
      refine (HOP.out _ HBX).mono ?_; rintro e w1 ⟨rfl, hB1⟩
      have hX1 := HX.out.call hB1
      have hX2 := hX1.call ((Below.refl _ _).alloc (Nat.le_refl _) (.cells #[.string op.name, .int .i64 op.typ, .int .i64 op.prec] 80))
      have y1 := hX2.f2.wb.c1
      have y3 := hX2.f2.tb.c3
      rw [← HL.out] at y3
      obtain ⟨u0, r0⟩ := hX1.rb.r0
      obtain ⟨u1, r1⟩ := hX1.rb.r1
      obtain ⟨u2, r2⟩ := hX1.rb.r2
      obtain ⟨u3, r3⟩ := hX1.rb.r3
      have f0 := hX1.rb.rf 0
      have f1 := hX1.rb.rf 1
      have f2 := hX1.rb.rf 2
      have f3 := hX1.rb.rf 3
      have hlt1 := hX1.rb.lt
      have hb1 := hX1.f2.bel
      clear hX1 hX2
      have hwy := HWY.out
      go_wp2_with fail
      all_goals
        refine bodyPost_ret (v := .tuple #[.agg #[.slice none 0 0, .string ⟨#[]⟩, .int .i64 0, .int .i64 0], .bool false]) (by simp [results, Tryz.results132, go_sem, r0, r1, r2, r3, hlt1]) rfl ⟨none, 0, 0, rfl, (put4_below hb1 _ (by omega) _ _ _ _).alloc (by rw [put4_size]; exact hb1.size) _, OwnS.nil _ _ _⟩
  · have hyes : condPost o T t = true := by rw [HIN.out, hig, hhas, hl]; rfl
    rw [hyes, HY.out hyes]
    subst hl
    obtain ⟨b, off, A', cap', rfl, hb, e0, e1, e2, e3, hs0⟩ := HGET.out rfl
    have hl1 : 0 < t.args.length := by have := HL.out; omega
    have HA0 := Lib.hid (HARG.out rfl)
    have hpr := HPR.out hhas
    have HLF2 := Lib.hid (HLF.out rfl (gets T t.name 3) (by omega) A' cap')
    rw [HA0.out] at HLF2 HLL ⊢
    rw [hhas] at HOP
    rw [Nat.zero_mul, Nat.add_zero] at e0 e1 e2 e3
    have HS0 := Lib.hid hs0
    have HEL := Lib.hid (⟨e0, e1, e2, e3⟩ : _ ∧ _ ∧ _ ∧ _)
    have HIG := Lib.hid hig
    clear HIN HLF HGET HARG HPR HY HNO hyes hhas hpr hig hs0 e0 e1 e2 e3 HA0
    generalize gets T t.name 3 = op at *
    generalize t.args[0] = x at *
    obtain ⟨LW, HLW⟩ : ∃ LW, Hid (LW = leftW o T S x op) := ⟨_, Lib.hid rfl⟩
    have hlw : LW.length ≤ 80000 := by rw [HLW.out]; exact HLL.out op
    rw [← HLW.out] at HLF2 ⊢
    clear HLL HLW
    go_enter Tryz.func132, Tryz.ntmps132
    go_wp2_with fail
    refine (HOP.out _ HBX).mono ?_; rintro e w1 ⟨rfl, hB1⟩
    have hX1 := HX.out.call hB1
    have hX2 := hX1.call ((Below.refl _ _).alloc (Nat.le_refl _) (.cells #[.string op.name, .int .i64 op.typ, .int .i64 op.prec] 80))
    have hb2 := hX2.f2.bel
    have hG := BoxG.start w1 op 80
    have y1 := hX2.f2.wb.c1
    have y3 := hX2.f2.tb.c3
    rw [← HL.out] at y3
    have hig := HIG.out
    go_upto_region 4 with fail
    generalize w1.alloc (.cells #[.string op.name, .int .i64 op.typ, .int .i64 op.prec] 80) = wR at *
    have hlt1 := hX1.rb.lt
    have hltR := hX2.rb.lt
    have HKEEP : Hid (∀ X, RegH (w.heap.size + 2) wR X → X.cell? ⟨w.heap.size, 0, none⟩ = some (.bool o.q) ∧ X.cell? ⟨w.heap.size, 1, none⟩ = some (.bool o.ig) ∧ X.cell? ⟨w.heap.size, 2, none⟩ = some (.bool o.nu) ∧ X.cell? ⟨w.heap.size, 3, none⟩ = some (.slice TA TN TC) ∧ X.cell? ⟨w.heap.size + 1, 2, none⟩ = some (.string t.name) ∧ X.cell? ⟨w.heap.size + 1, 3, none⟩ = some (.slice (some ⟨b, off, none⟩) 1 cap) ∧ X.cell? ⟨b, off, none⟩ = some (.int .i64 x.kind) ∧ X.cell? ⟨b, off + 1, none⟩ = some (.int .i64 x.num) ∧ X.cell? ⟨b, off + 2, none⟩ = some (.string x.name) ∧ X.cell? ⟨b, off + 3, none⟩ = some (.slice A' x.args.length cap') ∧ X.cell? ⟨w1.heap.size, 0, none⟩ = some (.string op.name) ∧ X.cell? ⟨w1.heap.size, 1, none⟩ = some (.int .i64 op.typ) ∧ X.cell? ⟨w1.heap.size, 2, none⟩ = some (.int .i64 op.prec) ∧ RegH (w.heap.size + 2) wR X) := Lib.hid (fun X h => by
      have hw : ∀ g k, g < wR.heap.size → g ≠ w.heap.size + 2 → X.cell? ⟨g, k, none⟩ = wR.cell? ⟨g, k, none⟩ := fun g k h1 h2 => h.on.cell (p := ⟨g, k, none⟩) h1 h2
      have hwb := hX2.f2.wb
      have htb := hX2.f2.tb
      obtain ⟨e0, e1, e2, e3⟩ := HEL.out
      have he : ∀ k, X.cell? ⟨b, k, none⟩ = w.cell? ⟨b, k, none⟩ := fun k => (hw b k (Nat.lt_of_lt_of_le hb hb2.size) (by omega)).trans (hb2.cell (p := ⟨b, k, none⟩) hb)
      have h3 := htb.c3
      rw [← HL.out] at h3
      exact ⟨(hw _ _ hwb.lt (by omega)).trans hwb.c0, (hw _ _ hwb.lt (by omega)).trans hwb.c1, (hw _ _ hwb.lt (by omega)).trans hwb.c2, (hw _ _ hwb.lt (by omega)).trans hwb.c3, (hw _ _ htb.lt (by omega)).trans htb.c2, (hw _ _ htb.lt (by omega)).trans h3, (he _).trans e0, (he _).trans e1, (he _).trans e2, (he _).trans e3, (hw _ _ hG.lt (by omega)).trans hG.c0, (hw _ _ hG.lt (by omega)).trans hG.c1, (hw _ _ hG.lt (by omega)).trans hG.c2, h⟩)
    have HOF : Hid (∀ X, (X.cell? ⟨w.heap.size, 0, none⟩ = some (.bool o.q) ∧ X.cell? ⟨w.heap.size, 1, none⟩ = some (.bool o.ig) ∧ X.cell? ⟨w.heap.size, 2, none⟩ = some (.bool o.nu) ∧ X.cell? ⟨w.heap.size, 3, none⟩ = some (.slice TA TN TC) ∧ X.cell? ⟨w.heap.size + 1, 2, none⟩ = some (.string t.name) ∧ X.cell? ⟨w.heap.size + 1, 3, none⟩ = some (.slice (some ⟨b, off, none⟩) 1 cap) ∧ X.cell? ⟨b, off, none⟩ = some (.int .i64 x.kind) ∧ X.cell? ⟨b, off + 1, none⟩ = some (.int .i64 x.num) ∧ X.cell? ⟨b, off + 2, none⟩ = some (.string x.name) ∧ X.cell? ⟨b, off + 3, none⟩ = some (.slice A' x.args.length cap') ∧ X.cell? ⟨w1.heap.size, 0, none⟩ = some (.string op.name) ∧ X.cell? ⟨w1.heap.size, 1, none⟩ = some (.int .i64 op.typ) ∧ X.cell? ⟨w1.heap.size, 2, none⟩ = some (.int .i64 op.prec) ∧ RegH (w.heap.size + 2) wR X) → RegH (w.heap.size + 2) wR X) := Lib.hid (fun X h => h.2.2.2.2.2.2.2.2.2.2.2.2.2)
    have HST : Hid (RegH (w.heap.size + 2) wR wR.drew) := Lib.hid (RegH.drew ⟨Only.refl _ _, hX2.rb⟩)
    have hbX : ∀ X, RegH (w.heap.size + 2) wR X → Below w.heap.size w X := fun X h => hb2.trans (h.on.below (by omega) hb2.size)
    have HBX2 := Lib.hid hbX
    have HLF3 : Hid (∀ X, RegH (w.heap.size + 2) wR X → Calls Tryz.prog 171 #[.agg #[.bool o.q, .bool o.ig, .bool o.nu, .slice TA TN TC], .agg #[.int .i64 x.kind, .int .i64 x.num, .string x.name, .slice A' x.args.length cap'], .agg #[.string op.name, .int .i64 op.typ, .int .i64 op.prec]] X fun e w' => ∃ v, e = .returned v ∧ Below X.heap.size X w' ∧ OwnS 9 wR.heap.size w' v LW) :=
      Lib.hid (fun X h => (HLF2.out X (hbX X h) HS0.out).mono fun _ _ ⟨v, he, hB, hO⟩ => ⟨v, he, hB, hO.mono h.on.size⟩)
    have HNM3 := Lib.hid (fun X h => HNM.out X (hbX X h))
    obtain ⟨nm, HNE⟩ : ∃ nm, Hid (nm = nmW o t.name) := ⟨_, Lib.hid rfl⟩
    rw [← HNE.out] at HNM3
    clear hig y1 y3 hbX HLF2 HNM HOP HX HBX HEL hX1
    go_region_held3 (fun w' => w'.cell? ⟨w.heap.size, 0, none⟩ = some (.bool o.q) ∧ w'.cell? ⟨w.heap.size, 1, none⟩ = some (.bool o.ig) ∧ w'.cell? ⟨w.heap.size, 2, none⟩ = some (.bool o.nu) ∧ w'.cell? ⟨w.heap.size, 3, none⟩ = some (.slice TA TN TC) ∧ w'.cell? ⟨w.heap.size + 1, 2, none⟩ = some (.string t.name) ∧ w'.cell? ⟨w.heap.size + 1, 3, none⟩ = some (.slice (some ⟨b, off, none⟩) 1 cap) ∧ w'.cell? ⟨b, off, none⟩ = some (.int .i64 x.kind) ∧ w'.cell? ⟨b, off + 1, none⟩ = some (.int .i64 x.num) ∧ w'.cell? ⟨b, off + 2, none⟩ = some (.string x.name) ∧ w'.cell? ⟨b, off + 3, none⟩ = some (.slice A' x.args.length cap') ∧ w'.cell? ⟨w1.heap.size, 0, none⟩ = some (.string op.name) ∧ w'.cell? ⟨w1.heap.size, 1, none⟩ = some (.int .i64 op.typ) ∧ w'.cell? ⟨w1.heap.size, 2, none⟩ = some (.int .i64 op.prec) ∧ RegH (w.heap.size + 2) wR w')
      (first
        | with_reducible exact HKEEP.out _ HST.out
        | with_reducible exact HKEEP.out _ (RegH.call (HOF.out _ (by with_reducible assumption)) (by with_reducible assumption))
        | with_reducible exact HKEEP.out _ hR6
        | with_reducible exact HKEEP.out _ (RegH.alloc (HOF.out _ (by with_reducible assumption)) _)
        | with_reducible exact HKEEP.out _ (RegH.put4 (HOF.out _ (by with_reducible assumption)) _ _ _ _))
      (first
        | (go_at_call 171; (with_reducible refine (HLF3.out _ (HOF.out _ (by with_reducible assumption))).mono ?_); rintro e w4 ⟨v4, rfl, hB4, hO4⟩)
        | (go_at_call 83; (with_reducible refine (HNM3.out _ (HOF.out _ (by with_reducible assumption))).mono ?_); rintro e w5 ⟨rfl, hB5⟩; have hO5 := hO4.below hB5)
        | (have hs5 := hO5.alloc (.cells #[.string nm] 9); have hq5 := HOF.out (w5.alloc (.cells #[.string nm] 9)) (by with_reducible assumption); refine step_append_lies _ (by rfl) _ _ 28 (by rfl) wR.heap.size 9 i _ 1 16 Tryz.underlying28 HI.out HZ0.out HZ1.out HZ2.out (by rfl) (by decide) v4 LW.length (LW.map Value.string) (by rfl) hs5 ⟨w5.heap.size, 0, none⟩ 1 1 [.string nm] (by rfl) (by rfl) (World.news_of_block (heap_alloc_new w5 _)) (by intro u hu; rw [List.mem_singleton] at hu; subst hu; rfl) (by decide) (by unfold maxLen; omega) (by omega) hq5.on.size (w5.heap.size + 1) (by simp) ?_; intro g6 c6 w6 hown6 hg6 hat6 hlt6; have hR6 : RegH (w.heap.size + 2) wR w6 := hq5.grown hg6 (fun k hk => (hs5.lt k hk).1) hltR; obtain ⟨u0, r0⟩ := hR6.rb.r0; obtain ⟨u1, r1⟩ := hR6.rb.r1; obtain ⟨u2, r2⟩ := hR6.rb.r2; obtain ⟨u3, r3⟩ := hR6.rb.r3; have f0 := hR6.rb.rf 0; have f1 := hR6.rb.rf 1; have f2 := hR6.rb.rf 2; have f3 := hR6.rb.rf 3)
        | fail)
    have hfin := put4_below (HBX2.out w6 hR6) (w.heap.size + 2) (by omega) (.slice (some ⟨g6, 0, none⟩) (LW.length + 1) c6) (.string op.name) (.int .i64 op.typ) (.int .i64 op.prec)
    have HO6 : Hid (OwnS 9 wR.heap.size w6 (.slice (some ⟨g6, 0, none⟩) (LW.length + 1) c6) (LW ++ [nm])) := Lib.hid (OwnS.snoc (m := [nm]) hown6)
    clear hown6 hg6
    go_wp2_with fail
    refine bodyPost_ret (v := .tuple #[.agg #[.slice (some ⟨g6, 0, none⟩) (LW.length + 1) c6, .string op.name, .int .i64 op.typ, .int .i64 op.prec], .bool true]) (by simp [results, Tryz.results132, go_sem, r0, r1, r2, r3]) rfl ⟨_, _, _, rfl, hfin, ?_⟩
    rw [← HNE.out]
    exact (HO6.out.put4 hltR _ _ _ _).mono hb2.size
end Go.Proofs.YtgapnafkelokaaaGreatDoor
