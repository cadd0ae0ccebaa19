/- Flags: what Call refuses. -/
import Derived.Test.YtfkhcpeahdkafaaGreatH27
import Derived.Test.YtfkhcpeahdkafaaGreatH20
namespace Hb
open Go Go.RowKit
def cbD (sv gv cv : Value) (g : Nat) (S : Nat → Bool) : Act := ⟨#[sv, gv, .pointer (some ⟨g, 0, none⟩), .pointer (some ⟨g + 1, 0, none⟩), .pointer (some ⟨g + 1 + 1, 0, none⟩), .slice none 0 0, .pointer (some ⟨g + 1 + 1 + 1, 0, none⟩), .int .i64 0, undef, undef, undef, if S 0 = true then sv else undef, if S 1 = true then .bool true else undef, if S 2 = true then .bool false else undef, if S 3 = true then .bool false else undef, if S 4 = true then gv else undef, if S 5 = true then .bool true else undef, if S 6 = true then .bool false else undef, if S 7 = true then .bool false else undef, if S 8 = true then .bool false else undef, if S 9 = true then gv else undef, if S 10 = true then gv else undef, if S 11 = true then cv else undef, if S 12 = true then .bool true else undef, if S 13 = true then .bool false else undef, if S 14 = true then .bool false else undef, undef, undef, undef, undef, undef, undef, undef, undef, undef, undef, undef, undef, undef, undef, undef, undef, undef, undef, undef, undef, undef, undef, undef, undef, undef, undef, undef, undef, undef, undef, undef, undef, undef, undef, undef, undef, undef, undef, undef, undef, undef, undef, undef, undef, undef, undef, undef, undef, undef, undef, undef], []⟩
def cbN (sv gv cv av lv kv : Value) (nm : ByteArray) (g : Nat) (S : Nat → Bool) (mb e : Nat) : Act := ⟨#[sv, gv, .pointer (some ⟨g, 0, none⟩), .pointer (some ⟨g + 1, 0, none⟩), .pointer (some ⟨g + 1 + 1, 0, none⟩), .slice none 0 0, .pointer (some ⟨g + 1 + 1 + 1, 0, none⟩), .int .i64 0, if S 11 = true then .pointer (some ⟨e, 0, none⟩) else undef, if S 13 = true then .bool false else undef, undef, sv, .bool true, .bool false, .bool false, gv, .bool true, .bool false, .bool false, .bool false, gv, gv, cv, .bool true, .bool false, .bool false, undef, undef, if S 8 = true then .tuple #[.agg #[.nilFunc], .bool false] else undef, if S 0 = true then .map (some mb) else undef, if S 1 = true then .pointer (some ⟨g + 1, 2, none⟩) else undef, if S 2 = true then .string nm else undef, if S 3 = true then .pointer (some ⟨g + 1, 3, none⟩) else undef, if S 4 = true then av else undef, if S 5 = true then lv else undef, if S 6 = true then kv else undef, if S 7 = true then .tuple #[.agg #[.nilFunc], .bool false] else undef, if S 9 = true then .agg #[.nilFunc] else undef, if S 10 = true then .bool false else undef, undef, undef, undef, undef, undef, undef, undef, undef, undef, undef, undef, undef, undef, undef, undef, undef, undef, undef, undef, undef, undef, undef, undef, undef, undef, undef, undef, undef, undef, undef, undef, undef, undef, undef, undef, undef, undef, undef], []⟩
/-- What a refused call returns. -/
def rvN (n : Int) : Value := .tuple #[.agg #[.slice none 0 0, .int .i64 0, .int .i64 0, .bool false, .bool false, .slice none 0 0], .slice none 0 0, .agg #[.int .i64 0, .int .i64 0, .string ⟨#[]⟩, .slice none 0 0], .int .i64 n]
end Hb
namespace Go.Proofs.YtfkhcpeahdkafaaGreat
open Go.RowKit Hb Go.Shelf
set_option maxRecDepth 100000
/-- The table, looked at where there is nothing. -/
theorem pred_none (X : World) (mb : Nat) (s : ByteArray) (n : Int) (hs : s.size ≤ maxLen) (hn : (Lit.int .i64 n).wf = true) (hc : ¬ pIx s n < 6) (h : PredIs X mb) : (Instr.lookup 94 (.map (some mb)) (keyV s n) true).run Tryz.prog X = .ok (.tuple #[.agg #[.nilFunc], .bool false]) X := by
  obtain ⟨m, D, hown, hhas, hat⟩ := h
  have hz : (zeroValue 92).run Tryz.prog X = .ok (.agg #[.nilFunc]) X := by kernel_rfl
  obtain ⟨v, ps, hrun, hv⟩ := hown.look_ok key_law Tryz.underlying94 hz predR_nil (klit_is s n hs hn)
  have hno : Maps.has D (klit s n) = false := by
    rw [Bool.eq_false_iff, ne_eq, hhas]
    rintro ⟨j, hj, e⟩
    obtain ⟨e1, e2⟩ := klit_inj hs hn (p_small j) (p_wf j) e
    exact absurd ⟨e1, e2⟩ (pIx_none hc j hj)
  rw [hno] at hrun
  rw [Maps.atKey_of_not_has hno] at hv
  rcases predR_inv hv with ⟨_, h2⟩ | ⟨m, h1, h2⟩
  · subst h2
    exact hrun
  · exact absurd h1 (by omega)
set_option maxHeartbeats 6400000 in
theorem f_call_none (OA : Option Addr) (on oc : Nat) (q u : Int) (c d : Bool) (CA : Option Addr) (cn cc : Nat) (gk gn : Int) (gs : ByteArray) (AA : Option Addr) (na ac : Nat) (gl : List Tm) (l : List OpR) (cl : List (Int × Int)) (w : World)
    (hTab : Tab w OA on oc l) (hcl : cn = cl.length) (hcn : cn ≤ maxLen) (hcp : Pairs w CA cl) (hna : na = gl.length) (hA : TmsAt w.heap.size w AA gl) (hvs : (opsValid l && (flOk ⟨q, u, c, d⟩ && pvalid cl)) = true) (hvt : validT (.mk gk gn gs gl) = true) (hsm : sameT (.mk gk gn gs gl) (canT (.mk gk gn gs gl)) = true) (hgs : gs.size ≤ maxLen) (hna8 : na ≤ 8) (hno : ¬ pIx gs na < 6) : Calls Tryz.prog 30 #[.agg #[.slice OA on oc, .int .i64 q, .int .i64 u, .bool c, .bool d, .slice CA cn cc], .agg #[.int .i64 gk, .int .i64 gn, .string gs, .slice AA na ac]] w fun e w' => e = .returned (rvN 4) ∧ Below w.heap.size w w' := by
  have HPF : Hid (∀ X mb, PredIs X mb → (Instr.lookup 94 (.map (some mb)) (.agg #[.string gs, .int .i64 (na : Int)]) true).run Tryz.prog X = .ok (.tuple #[.agg #[.nilFunc], .bool false]) X) := Lib.hid fun X mb h =>
    pred_none X mb gs na hgs ((show ∀ n : Nat, n ≤ 8 → (Lit.int .i64 (n : Int)).wf = true from fun n hn => by rcases (show n = 0 ∨ n = 1 ∨ n = 2 ∨ n = 3 ∨ n = 4 ∨ n = 5 ∨ n = 6 ∨ n = 7 ∨ n = 8 by omega) with rfl | rfl | rfl | rfl | rfl | rfl | rfl | rfl | rfl <;> decide) na hna8) hno h
  clear hgs hna8 hno
  have HVS : Hid (∀ X, Below w.heap.size w X → Calls Tryz.prog 23 #[.agg #[.slice OA on oc, .int .i64 q, .int .i64 u, .bool c, .bool d, .slice CA cn cc]] X fun e w' => ∃ v, e = .returned v ∧ (v = .bool true ∧ Below X.heap.size X w')) := Lib.hid fun X hX => (f_validSyntaxL OA on oc q u c d CA cn cc l cl X (hTab.below hX) hcl hcn (hcp.below hX)).mono fun e w' h => ⟨_, h.1, by rw [hvs], h.2⟩
  have HVT : Hid (∀ X, Below w.heap.size w X → Calls Tryz.prog 53 #[tmV (.mk gk gn gs gl) AA ac] X fun e w' => ∃ v, e = .returned v ∧ (v = .bool true ∧ Below X.heap.size X w')) := Lib.hid fun X hX => (t_valid (.mk gk gn gs gl) AA ac X ((hA.keep hX).mono hX.size)).mono fun e w' h => ⟨_, h.1, by rw [hvt], h.2⟩
  have HCN : Hid (∀ X, Below w.heap.size w X → Calls Tryz.prog 67 #[tmV (.mk gk gn gs gl) AA ac] X fun e w' => ∃ v, e = .returned v ∧ ((∃ A' c', v = tmV (canT (.mk gk gn gs gl)) A' c' ∧ TmsAt w'.heap.size w' A' (canT (.mk gk gn gs gl)).args) ∧ Below X.heap.size X w')) := Lib.hid fun X hX => (t_canon (.mk gk gn gs gl) AA ac X ((hA.keep hX).mono hX.size)).mono fun e w' h => by
    obtain ⟨A', c', he, hB, hN⟩ := h
    exact ⟨_, he, ⟨A', c', rfl, hN.at'⟩, hB⟩
  have HSM : Hid (∀ X A' c', Below w.heap.size w X → TmsAt X.heap.size X A' (canT (.mk gk gn gs gl)).args → Calls Tryz.prog 66 #[tmV (.mk gk gn gs gl) AA ac, tmV (canT (.mk gk gn gs gl)) A' c'] X fun e w' => ∃ v, e = .returned v ∧ (v = .bool true ∧ Below X.heap.size X w')) := Lib.hid fun X A' c' hX hT => (t_same (.mk gk gn gs gl) (canT (.mk gk gn gs gl)) AA A' ac c' X ((hA.keep hX).mono hX.size) hT).mono fun e w' h => ⟨_, h.1, by rw [hsm], h.2⟩
  have HBL0 : Hid (Below w.heap.size w (((((w.alloc (.cells #[.slice OA on oc, .int .i64 q, .int .i64 u, .bool c, .bool d, .slice CA cn cc] 43)).alloc (.cells #[.int .i64 gk, .int .i64 gn, .string gs, .slice AA na ac] 26)).alloc (.cells #[.slice none 0 0, .int .i64 0, .int .i64 0, .bool false, .bool false, .slice none 0 0] 43)).alloc (.cells #[.int .i64 0, .int .i64 0, .string ⟨#[]⟩, .slice none 0 0] 26)))) := Lib.hid (((((Below.refl _ w).alloc (Nat.le_refl _) _).alloc (by simp) _).alloc (by simp; omega) _).alloc (by simp; omega) _)
  have HBK0 : Hid (Bks (((((w.alloc (.cells #[.slice OA on oc, .int .i64 q, .int .i64 u, .bool c, .bool d, .slice CA cn cc] 43)).alloc (.cells #[.int .i64 gk, .int .i64 gn, .string gs, .slice AA na ac] 26)).alloc (.cells #[.slice none 0 0, .int .i64 0, .int .i64 0, .bool false, .bool false, .slice none 0 0] 43)).alloc (.cells #[.int .i64 0, .int .i64 0, .string ⟨#[]⟩, .slice none 0 0] 26))) [(w.heap.size + 1 + 1 + 1, [.int .i64 0, .int .i64 0, .string ⟨#[]⟩, .slice none 0 0]), (w.heap.size + 1 + 1, [.slice none 0 0, .int .i64 0, .int .i64 0, .bool false, .bool false, .slice none 0 0]), (w.heap.size + 1, [.int .i64 gk, .int .i64 gn, .string gs, .slice AA na ac]), (w.heap.size, [.slice OA on oc, .int .i64 q, .int .i64 u, .bool c, .bool d, .slice CA cn cc])]) := Lib.hid (((((Bks.nil w).new [.slice OA on oc, .int .i64 q, .int .i64 u, .bool c, .bool d, .slice CA cn cc] 43 rfl).new [.int .i64 gk, .int .i64 gn, .string gs, .slice AA na ac] 26 (by simp)).new [.slice none 0 0, .int .i64 0, .int .i64 0, .bool false, .bool false, .slice none 0 0] 43 (by simp)).new [.int .i64 0, .int .i64 0, .string ⟨#[]⟩, .slice none 0 0] 26 (by simp))
  have HTV : Hid (∀ A c, tmV (.mk gk gn gs gl) A c = .agg #[.int .i64 gk, .int .i64 gn, .string gs, .slice A na c]) := Lib.hid fun A c => by rw [hna]; rfl
  rw [HTV.out] at HVT HCN HSM
  clear hTab hcl hcn hcp hA hvs hvt hsm hna HTV
  go_enter Tryz.func30, Tryz.ntmps30
  go_wp2_with fail
  obtain ⟨W0, HW0⟩ : ∃ W0, Hid (W0 = ((((w.alloc (.cells #[.slice OA on oc, .int .i64 q, .int .i64 u, .bool c, .bool d, .slice CA cn cc] 43)).alloc (.cells #[.int .i64 gk, .int .i64 gn, .string gs, .slice AA na ac] 26)).alloc (.cells #[.slice none 0 0, .int .i64 0, .int .i64 0, .bool false, .bool false, .slice none 0 0] 43)).alloc (.cells #[.int .i64 0, .int .i64 0, .string ⟨#[]⟩, .slice none 0 0] 26))) := ⟨_, Lib.hid rfl⟩
  rw [← HW0.out] at HBL0 HBK0 ⊢
  clear HW0
  rename_i K0 hK0
  have as_0 : W0.cell? ⟨w.heap.size, 0, none⟩ = some (.slice OA on oc) := HBK0.out.cell 3 0 rfl rfl
  have as_1 : W0.cell? ⟨w.heap.size, 1, none⟩ = some (.int .i64 q) := HBK0.out.cell 3 1 rfl rfl
  have as_2 : W0.cell? ⟨w.heap.size, 2, none⟩ = some (.int .i64 u) := HBK0.out.cell 3 2 rfl rfl
  have as_3 : W0.cell? ⟨w.heap.size, 3, none⟩ = some (.bool c) := HBK0.out.cell 3 3 rfl rfl
  have as_4 : W0.cell? ⟨w.heap.size, 4, none⟩ = some (.bool d) := HBK0.out.cell 3 4 rfl rfl
  have as_5 : W0.cell? ⟨w.heap.size, 5, none⟩ = some (.slice CA cn cc) := HBK0.out.cell 3 5 rfl rfl
  have ag_0 : W0.cell? ⟨w.heap.size + 1, 0, none⟩ = some (.int .i64 gk) := HBK0.out.cell 2 0 rfl rfl
  have ag_1 : W0.cell? ⟨w.heap.size + 1, 1, none⟩ = some (.int .i64 gn) := HBK0.out.cell 2 1 rfl rfl
  have ag_2 : W0.cell? ⟨w.heap.size + 1, 2, none⟩ = some (.string gs) := HBK0.out.cell 2 2 rfl rfl
  have ag_3 : W0.cell? ⟨w.heap.size + 1, 3, none⟩ = some (.slice AA na ac) := HBK0.out.cell 2 3 rfl rfl
  have ls : w.heap.size < W0.heap.size := HBK0.out.lt 3 rfl
  have lg : w.heap.size + 1 < W0.heap.size := HBK0.out.lt 2 rfl
  refine wp_region_any (by kernel_rfl) ?_
  refine wpAny_inv (fun S a X => ∃ cv, a = (cbD (.agg #[.slice OA on oc, .int .i64 q, .int .i64 u, .bool c, .bool d, .slice CA cn cc]) (.agg #[.int .i64 gk, .int .i64 gn, .string gs, .slice AA na ac]) cv w.heap.size S) ∧ Below W0.heap.size W0 X ∧ (S 11 = true → ∃ A' c', cv = tmV (canT (.mk gk gn gs gl)) A' c' ∧ TmsAt X.heap.size X A' (canT (.mk gk gn gs gl)).args)) (by kernel_rfl) ?step ?fin 15 (fun _ => false) _ _ (by decide) ⟨undef, rfl, (Below.refl _ W0).drew, fun h => (by cases h)⟩
  case step =>
    rintro S j o a X ho hs hp ⟨cv, rfl, hB, hcv⟩
    have hlt : j < 15 := (Array.getElem?_eq_some_iff.1 ho).1
    rcases (show j = 0 ∨ j = 1 ∨ j = 2 ∨ j = 3 ∨ j = 4 ∨ j = 5 ∨ j = 6 ∨ j = 7 ∨ j = 8 ∨ j = 9 ∨ j = 10 ∨ j = 11 ∨ j = 12 ∨ j = 13 ∨ j = 14 by omega) with rfl | rfl | rfl | rfl | rfl | rfl | rfl | rfl | rfl | rfl | rfl | rfl | rfl | rfl | rfl
    · injection ho with ho
      subst ho
      have xs0 : X.cell? ⟨w.heap.size, 0, none⟩ = some (.slice OA on oc) := (hB.cell (p := ⟨_, 0, none⟩) ls).trans as_0
      have xs1 : X.cell? ⟨w.heap.size, 1, none⟩ = some (.int .i64 q) := (hB.cell (p := ⟨_, 1, none⟩) ls).trans as_1
      have xs2 : X.cell? ⟨w.heap.size, 2, none⟩ = some (.int .i64 u) := (hB.cell (p := ⟨_, 2, none⟩) ls).trans as_2
      have xs3 : X.cell? ⟨w.heap.size, 3, none⟩ = some (.bool c) := (hB.cell (p := ⟨_, 3, none⟩) ls).trans as_3
      have xs4 : X.cell? ⟨w.heap.size, 4, none⟩ = some (.bool d) := (hB.cell (p := ⟨_, 4, none⟩) ls).trans as_4
      have xs5 : X.cell? ⟨w.heap.size, 5, none⟩ = some (.slice CA cn cc) := (hB.cell (p := ⟨_, 5, none⟩) ls).trans as_5
      rw [if_pos (show Region.wanted _ _ = true from rfl)]
      refine wp_val (v := .agg #[.slice OA on oc, .int .i64 q, .int .i64 u, .bool c, .bool d, .slice CA cn cc]) (w' := X) ?_ ⟨cv, rfl, hB, hcv⟩
      simp [execOp, go_sem, Act.eval, cbD, xs0, xs1, xs2, xs3, xs4, xs5]
    · injection ho with ho
      subst ho
      have s0 : S 0 = true := hp ⟨0, .data⟩ (by simp) rfl
      rw [if_pos (show Region.wanted _ _ = true from rfl)]
      refine wp_cal ?_ (HVS.out X (HBL0.out.trans (hB.mono HBL0.out.size))) (fun v w' hR => ?_)
      · simp [execOp, go_sem, Act.eval, cbD, s0]
        try rfl
      · obtain ⟨rfl, hB'⟩ := hR
        exact ⟨_, rfl, hB.trans (hB'.mono hB.size), fun h => (by obtain ⟨A', c', e, hT⟩ := hcv h; exact ⟨A', c', e, (hT.keep hB').mono hB'.size⟩)⟩
    · injection ho with ho
      subst ho
      have s1 : S 1 = true := hp ⟨1, .data⟩ (by simp) rfl
      rw [if_pos (show Region.wanted _ _ = true from rfl)]
      refine wp_val (v := .bool false) (w' := X) ?_ ⟨cv, rfl, hB, hcv⟩
      simp [execOp, go_sem, Act.eval, cbD, s1]
    · injection ho with ho
      subst ho
      have s2 : S 2 = true := hp ⟨2, .data⟩ (by simp) rfl
      rw [if_pos (show Region.wanted _ _ = true from rfl)]
      refine wp_val (v := .bool false) (w' := X) ?_ ⟨cv, rfl, hB, hcv⟩
      simp [execOp, go_sem, Act.eval, cbD, s2]
    · injection ho with ho
      subst ho
      have s3 : S 3 = true := hp ⟨3, .guard⟩ (by simp) rfl
      have xg0 : X.cell? ⟨w.heap.size + 1, 0, none⟩ = some (.int .i64 gk) := (hB.cell (p := ⟨_, 0, none⟩) lg).trans ag_0
      have xg1 : X.cell? ⟨w.heap.size + 1, 1, none⟩ = some (.int .i64 gn) := (hB.cell (p := ⟨_, 1, none⟩) lg).trans ag_1
      have xg2 : X.cell? ⟨w.heap.size + 1, 2, none⟩ = some (.string gs) := (hB.cell (p := ⟨_, 2, none⟩) lg).trans ag_2
      have xg3 : X.cell? ⟨w.heap.size + 1, 3, none⟩ = some (.slice AA na ac) := (hB.cell (p := ⟨_, 3, none⟩) lg).trans ag_3
      rw [if_pos (show Region.wanted _ (yielded _ _) = true by simp [Region.wanted, yielded, cbD, s3])]
      refine wp_val (v := .agg #[.int .i64 gk, .int .i64 gn, .string gs, .slice AA na ac]) (w' := X) ?_ ⟨cv, rfl, hB, hcv⟩
      simp [execOp, go_sem, Act.eval, cbD, xg0, xg1, xg2, xg3]
    · injection ho with ho
      subst ho
      have s4 : S 4 = true := hp ⟨4, .data⟩ (by simp) rfl
      have s3 : S 3 = true := hp ⟨3, .guard⟩ (by simp) rfl
      rw [if_pos (show Region.wanted _ (yielded _ _) = true by simp [Region.wanted, yielded, cbD, s3])]
      refine wp_cal ?_ (HVT.out X (HBL0.out.trans (hB.mono HBL0.out.size))) (fun v w' hR => ?_)
      · simp [execOp, go_sem, Act.eval, cbD, s4]
        try rfl
      · obtain ⟨rfl, hB'⟩ := hR
        exact ⟨_, rfl, hB.trans (hB'.mono hB.size), fun h => (by obtain ⟨A', c', e, hT⟩ := hcv h; exact ⟨A', c', e, (hT.keep hB').mono hB'.size⟩)⟩
    · injection ho with ho
      subst ho
      have s5 : S 5 = true := hp ⟨5, .data⟩ (by simp) rfl
      have s3 : S 3 = true := hp ⟨3, .guard⟩ (by simp) rfl
      rw [if_pos (show Region.wanted _ (yielded _ _) = true by simp [Region.wanted, yielded, cbD, s3])]
      refine wp_val (v := .bool false) (w' := X) ?_ ⟨cv, rfl, hB, hcv⟩
      simp [execOp, go_sem, Act.eval, cbD, s5]
    · injection ho with ho
      subst ho
      have s3 : S 3 = true := hp ⟨3, .data⟩ (by simp) rfl
      have s6 : S 6 = true := hp ⟨6, .data⟩ (by simp) rfl
      rw [if_pos (show Region.wanted _ _ = true from rfl)]
      refine wp_val (v := .bool false) (w' := X) ?_ ⟨cv, rfl, hB, hcv⟩
      simp [execOp, go_sem, Act.eval, cbD, s3, s6]
    · injection ho with ho
      subst ho
      have s7 : S 7 = true := hp ⟨7, .data⟩ (by simp) rfl
      rw [if_pos (show Region.wanted _ _ = true from rfl)]
      refine wp_val (v := .bool false) (w' := X) ?_ ⟨cv, rfl, hB, hcv⟩
      simp [execOp, go_sem, Act.eval, cbD, s7]
    · injection ho with ho
      subst ho
      have s8 : S 8 = true := hp ⟨8, .guard⟩ (by simp) rfl
      have xg0 : X.cell? ⟨w.heap.size + 1, 0, none⟩ = some (.int .i64 gk) := (hB.cell (p := ⟨_, 0, none⟩) lg).trans ag_0
      have xg1 : X.cell? ⟨w.heap.size + 1, 1, none⟩ = some (.int .i64 gn) := (hB.cell (p := ⟨_, 1, none⟩) lg).trans ag_1
      have xg2 : X.cell? ⟨w.heap.size + 1, 2, none⟩ = some (.string gs) := (hB.cell (p := ⟨_, 2, none⟩) lg).trans ag_2
      have xg3 : X.cell? ⟨w.heap.size + 1, 3, none⟩ = some (.slice AA na ac) := (hB.cell (p := ⟨_, 3, none⟩) lg).trans ag_3
      rw [if_pos (show Region.wanted _ (yielded _ _) = true by simp [Region.wanted, yielded, cbD, s8])]
      refine wp_val (v := .agg #[.int .i64 gk, .int .i64 gn, .string gs, .slice AA na ac]) (w' := X) ?_ ⟨cv, rfl, hB, hcv⟩
      simp [execOp, go_sem, Act.eval, cbD, xg0, xg1, xg2, xg3]
    · injection ho with ho
      subst ho
      have s8 : S 8 = true := hp ⟨8, .guard⟩ (by simp) rfl
      have xg0 : X.cell? ⟨w.heap.size + 1, 0, none⟩ = some (.int .i64 gk) := (hB.cell (p := ⟨_, 0, none⟩) lg).trans ag_0
      have xg1 : X.cell? ⟨w.heap.size + 1, 1, none⟩ = some (.int .i64 gn) := (hB.cell (p := ⟨_, 1, none⟩) lg).trans ag_1
      have xg2 : X.cell? ⟨w.heap.size + 1, 2, none⟩ = some (.string gs) := (hB.cell (p := ⟨_, 2, none⟩) lg).trans ag_2
      have xg3 : X.cell? ⟨w.heap.size + 1, 3, none⟩ = some (.slice AA na ac) := (hB.cell (p := ⟨_, 3, none⟩) lg).trans ag_3
      rw [if_pos (show Region.wanted _ (yielded _ _) = true by simp [Region.wanted, yielded, cbD, s8])]
      refine wp_val (v := .agg #[.int .i64 gk, .int .i64 gn, .string gs, .slice AA na ac]) (w' := X) ?_ ⟨cv, rfl, hB, hcv⟩
      simp [execOp, go_sem, Act.eval, cbD, xg0, xg1, xg2, xg3]
    · injection ho with ho
      subst ho
      have s10 : S 10 = true := hp ⟨10, .data⟩ (by simp) rfl
      have s8 : S 8 = true := hp ⟨8, .guard⟩ (by simp) rfl
      rw [if_pos (show Region.wanted _ (yielded _ _) = true by simp [Region.wanted, yielded, cbD, s8])]
      refine wp_cal ?_ (HCN.out X (HBL0.out.trans (hB.mono HBL0.out.size))) (fun v w' hR => ?_)
      · simp [execOp, go_sem, Act.eval, cbD, s10]
        try rfl
      · obtain ⟨hcv', hB'⟩ := hR
        exact ⟨v, rfl, hB.trans (hB'.mono hB.size), fun _ => hcv'⟩
    · injection ho with ho
      subst ho
      have s9 : S 9 = true := hp ⟨9, .data⟩ (by simp) rfl
      have s11 : S 11 = true := hp ⟨11, .data⟩ (by simp) rfl
      have s8 : S 8 = true := hp ⟨8, .guard⟩ (by simp) rfl
      obtain ⟨A1, c1, hcve, hT1⟩ := hcv s11
      subst hcve
      rw [if_pos (show Region.wanted _ (yielded _ _) = true by simp [Region.wanted, yielded, cbD, s8])]
      refine wp_cal ?_ (HSM.out X A1 c1 (HBL0.out.trans (hB.mono HBL0.out.size)) hT1) (fun v w' hR => ?_)
      · simp [execOp, go_sem, Act.eval, cbD, s9, s11]
        try rfl
      · obtain ⟨rfl, hB'⟩ := hR
        exact ⟨_, rfl, hB.trans (hB'.mono hB.size), fun h => (by obtain ⟨A', c', e, hT⟩ := hcv h; exact ⟨A', c', e, (hT.keep hB').mono hB'.size⟩)⟩
    · injection ho with ho
      subst ho
      have s12 : S 12 = true := hp ⟨12, .data⟩ (by simp) rfl
      have s8 : S 8 = true := hp ⟨8, .guard⟩ (by simp) rfl
      rw [if_pos (show Region.wanted _ (yielded _ _) = true by simp [Region.wanted, yielded, cbD, s8])]
      refine wp_val (v := .bool false) (w' := X) ?_ ⟨cv, rfl, hB, hcv⟩
      simp [execOp, go_sem, Act.eval, cbD, s12]
    · injection ho with ho
      subst ho
      have s8 : S 8 = true := hp ⟨8, .data⟩ (by simp) rfl
      have s13 : S 13 = true := hp ⟨13, .data⟩ (by simp) rfl
      rw [if_pos (show Region.wanted _ _ = true from rfl)]
      refine wp_val (v := .bool false) (w' := X) ?_ ⟨cv, rfl, hB, hcv⟩
      simp [execOp, go_sem, Act.eval, cbD, s8, s13]
  case fin =>
    rintro S a W1 hall ⟨cv, rfl, hB, -⟩
    have s0 : S 0 = true := hall 0 (show 0 < 15 by omega)
    have s1 : S 1 = true := hall 1 (show 1 < 15 by omega)
    have s2 : S 2 = true := hall 2 (show 2 < 15 by omega)
    have s3 : S 3 = true := hall 3 (show 3 < 15 by omega)
    have s4 : S 4 = true := hall 4 (show 4 < 15 by omega)
    have s5 : S 5 = true := hall 5 (show 5 < 15 by omega)
    have s6 : S 6 = true := hall 6 (show 6 < 15 by omega)
    have s7 : S 7 = true := hall 7 (show 7 < 15 by omega)
    have s8 : S 8 = true := hall 8 (show 8 < 15 by omega)
    have s9 : S 9 = true := hall 9 (show 9 < 15 by omega)
    have s10 : S 10 = true := hall 10 (show 10 < 15 by omega)
    have s11 : S 11 = true := hall 11 (show 11 < 15 by omega)
    have s12 : S 12 = true := hall 12 (show 12 < 15 by omega)
    have s13 : S 13 = true := hall 13 (show 13 < 15 by omega)
    have s14 : S 14 = true := hall 14 (show 14 < 15 by omega)
    have HBL1 := Lib.hid (HBL0.out.trans (hB.mono HBL0.out.size))
    have HBK1 := Lib.hid (HBK0.out.keep fun x hx => hB.block x.1 (HBK0.out.bk x hx).lt)
    refine hK0 _ _ ?_
    simp only [cbD, s0, s1, s2, s3, s4, s5, s6, s7, s8, s9, s10, s11, s12, s13, s14, if_true]
    clear hall hB HBL0 HBK0 hK0 HVS HVT HCN HSM ls lg s0 s1 s2 s3 s4 s5 s6 s7 s8 s9 s10 s11 s12 s13 s14 as_0 as_1 as_2 as_3 as_4 as_5 ag_0 ag_1 ag_2 ag_3
    go_wp2_with fail
    rename_i K3 hK3
    have bg_0 : W1.cell? ⟨w.heap.size + 1, 0, none⟩ = some (.int .i64 gk) := HBK1.out.cell 2 0 rfl rfl
    have bg_1 : W1.cell? ⟨w.heap.size + 1, 1, none⟩ = some (.int .i64 gn) := HBK1.out.cell 2 1 rfl rfl
    have bg_2 : W1.cell? ⟨w.heap.size + 1, 2, none⟩ = some (.string gs) := HBK1.out.cell 2 2 rfl rfl
    have bg_3 : W1.cell? ⟨w.heap.size + 1, 3, none⟩ = some (.slice AA na ac) := HBK1.out.cell 2 3 rfl rfl
    have lg : w.heap.size + 1 < W1.heap.size := HBK1.out.lt 2 rfl
    refine wp_region_any (by kernel_rfl) ?_
    refine wpAny_inv (fun S a X => ∃ mb e, a = (cbN (.agg #[.slice OA on oc, .int .i64 q, .int .i64 u, .bool c, .bool d, .slice CA cn cc]) (.agg #[.int .i64 gk, .int .i64 gn, .string gs, .slice AA na ac]) cv (.slice AA na ac) (.int .i64 (na : Int)) (.agg #[.string gs, .int .i64 (na : Int)]) gs w.heap.size S mb e) ∧ Below W1.heap.size W1 X ∧ (S 0 = true → W1.heap.size ≤ mb ∧ PredIs X mb) ∧ (S 11 = true → W1.heap.size ≤ e ∧ Bk X e [.nilFunc]) ∧ (S 12 = true → S 11 = true)) (by kernel_rfl) ?step ?fin 14 (fun _ => false) _ _ (by decide) ⟨0, 0, rfl, (Below.refl _ W1).drew, fun h => (by cases h), fun h => (by cases h), fun h => (by cases h)⟩
    case step =>
      rintro S j o a X ho hs hp ⟨mb, e, rfl, hB, hm, he, i12⟩
      have hlt : j < 14 := (Array.getElem?_eq_some_iff.1 ho).1
      rcases (show j = 0 ∨ j = 1 ∨ j = 2 ∨ j = 3 ∨ j = 4 ∨ j = 5 ∨ j = 6 ∨ j = 7 ∨ j = 8 ∨ j = 9 ∨ j = 10 ∨ j = 11 ∨ j = 12 ∨ j = 13 by omega) with rfl | rfl | rfl | rfl | rfl | rfl | rfl | rfl | rfl | rfl | rfl | rfl | rfl | rfl
      · injection ho with ho
        subst ho
        have HPR : Calls Tryz.prog 68 #[] X fun e w' => ∃ v, e = .returned v ∧ ((∃ m, v = Value.map (some m) ∧ X.heap.size ≤ m ∧ PredIs w' m) ∧ Below X.heap.size X w') := (f_predicates X).mono fun e w' h => by
          obtain ⟨m, he, h1, h2, h3⟩ := h
          exact ⟨_, he, ⟨m, rfl, h1, h3⟩, h2⟩
        rw [if_pos (show Region.wanted _ _ = true from rfl)]
        refine wp_cal ?_ (HPR) (fun v w' hR => ?_)
        · simp [execOp, go_sem, Act.eval, cbN]
          try rfl
        · obtain ⟨⟨m, rfl, h1, h3⟩, hB'⟩ := hR
          exact ⟨m, e, rfl, hB.trans (hB'.mono hB.size), fun _ => ⟨Nat.le_trans hB.size h1, h3⟩, fun h => ⟨(he h).1, (he h).2.call hB'⟩, i12⟩
      · injection ho with ho
        subst ho
        rw [if_pos (show Region.wanted _ _ = true from rfl)]
        refine wp_val (v := .pointer (some ⟨w.heap.size + 1, 2, none⟩)) (w' := X) ?_ ⟨mb, e, rfl, hB, hm, he, i12⟩
        simp [execOp, go_sem, Act.eval, cbN]
      · injection ho with ho
        subst ho
        have s1 : S 1 = true := hp ⟨1, .data⟩ (by simp) rfl
        have xg2 : X.cell? ⟨w.heap.size + 1, 2, none⟩ = some (.string gs) := (hB.cell (p := ⟨_, 2, none⟩) lg).trans bg_2
        rw [if_pos (show Region.wanted _ _ = true from rfl)]
        refine wp_val (v := .string gs) (w' := X) ?_ ⟨mb, e, rfl, hB, hm, he, i12⟩
        simp [execOp, go_sem, Act.eval, cbN, s1, xg2]
      · injection ho with ho
        subst ho
        rw [if_pos (show Region.wanted _ _ = true from rfl)]
        refine wp_val (v := .pointer (some ⟨w.heap.size + 1, 3, none⟩)) (w' := X) ?_ ⟨mb, e, rfl, hB, hm, he, i12⟩
        simp [execOp, go_sem, Act.eval, cbN]
      · injection ho with ho
        subst ho
        have s3 : S 3 = true := hp ⟨3, .data⟩ (by simp) rfl
        have xg3 : X.cell? ⟨w.heap.size + 1, 3, none⟩ = some (.slice AA na ac) := (hB.cell (p := ⟨_, 3, none⟩) lg).trans bg_3
        rw [if_pos (show Region.wanted _ _ = true from rfl)]
        refine wp_val (v := .slice AA na ac) (w' := X) ?_ ⟨mb, e, rfl, hB, hm, he, i12⟩
        simp [execOp, go_sem, Act.eval, cbN, s3, xg3]
      · injection ho with ho
        subst ho
        have s4 : S 4 = true := hp ⟨4, .data⟩ (by simp) rfl
        rw [if_pos (show Region.wanted _ _ = true from rfl)]
        refine wp_val (v := .int .i64 (na : Int)) (w' := X) ?_ ⟨mb, e, rfl, hB, hm, he, i12⟩
        simp [execOp, go_sem, Act.eval, cbN, s4]
      · injection ho with ho
        subst ho
        have s2 : S 2 = true := hp ⟨2, .data⟩ (by simp) rfl
        have s5 : S 5 = true := hp ⟨5, .data⟩ (by simp) rfl
        rw [if_pos (show Region.wanted _ _ = true from rfl)]
        refine wp_val (v := .agg #[.string gs, .int .i64 (na : Int)]) (w' := X) ?_ ⟨mb, e, rfl, hB, hm, he, i12⟩
        simp [execOp, go_sem, Act.eval, cbN, s2, s5]
      · injection ho with ho
        subst ho
        have s0 : S 0 = true := hp ⟨0, .data⟩ (by simp) rfl
        have s6 : S 6 = true := hp ⟨6, .data⟩ (by simp) rfl
        rw [if_pos (show Region.wanted _ _ = true from rfl)]
        have hrun := HPF.out X mb (hm s0).2
        refine wp_val (v := .tuple #[.agg #[.nilFunc], .bool false]) (w' := X) ?_ ⟨mb, e, rfl, hB, hm, he, i12⟩
        rw [show (execOp (Act.eval (cbN (.agg #[.slice OA on oc, .int .i64 q, .int .i64 u, .bool c, .bool d, .slice CA cn cc]) (.agg #[.int .i64 gk, .int .i64 gn, .string gs, .slice AA na ac]) cv (.slice AA na ac) (.int .i64 (na : Int)) (.agg #[.string gs, .int .i64 (na : Int)]) gs w.heap.size S mb e)) _ : Sem Next) = (Instr.lookup 94 (.map (some mb)) (.agg #[.string gs, .int .i64 (na : Int)]) true >>= fun v => pure (Next.value v)) by simp [execOp, Act.eval, cbN, s0, s6]]
        simp [go_sem, hrun]
      · injection ho with ho
        subst ho
        have s7 : S 7 = true := hp ⟨7, .data⟩ (by simp) rfl
        rw [if_pos (show Region.wanted _ _ = true from rfl)]
        refine wp_val (v := .tuple #[.agg #[.nilFunc], .bool false]) (w' := X) ?_ ⟨mb, e, rfl, hB, hm, he, i12⟩
        simp [execOp, go_sem, Act.eval, cbN, s7]
      · injection ho with ho
        subst ho
        have s8 : S 8 = true := hp ⟨8, .data⟩ (by simp) rfl
        rw [if_pos (show Region.wanted _ _ = true from rfl)]
        refine wp_val (v := .agg #[.nilFunc]) (w' := X) ?_ ⟨mb, e, rfl, hB, hm, he, i12⟩
        simp [execOp, go_sem, Act.eval, cbN, s8]
      · injection ho with ho
        subst ho
        have s8 : S 8 = true := hp ⟨8, .data⟩ (by simp) rfl
        rw [if_pos (show Region.wanted _ _ = true from rfl)]
        refine wp_val (v := .bool false) (w' := X) ?_ ⟨mb, e, rfl, hB, hm, he, i12⟩
        simp [execOp, go_sem, Act.eval, cbN, s8]
      · injection ho with ho
        subst ho
        rw [if_pos (show Region.wanted _ _ = true from rfl)]
        refine wp_val (v := .pointer (some ⟨X.heap.size, 0, none⟩)) (w' := X.alloc (.cells #[.nilFunc] 92)) ?_ ⟨mb, X.heap.size, rfl, hB.alloc hB.size _, fun h => ⟨(hm h).1, pred_keep (hm h).2 (Below.heap_alloc _ _ _ (pred_map (hm h).2).1)⟩, fun _ => ⟨hB.size, Bk.new X [.nilFunc] 92⟩, fun _ => rfl⟩
        simp [execOp, go_sem]
      · injection ho with ho
        subst ho
        have s11 : S 11 = true := hp ⟨11, .data⟩ (by simp) rfl
        have s9 : S 9 = true := hp ⟨9, .data⟩ (by simp) rfl
        rw [if_pos (show Region.wanted _ _ = true from rfl)]
        have hk := (he s11).2
        have z0 := hk.c 0 .nilFunc rfl
        have f0 := hk.f 0
        refine wp_skp (w' := X.setCell ⟨e, 0, none⟩ .nilFunc) ?_ ⟨mb, e, rfl, hB.setCell (p := ⟨_, _, none⟩) (he s11).1 _, fun h => ⟨(hm h).1, pred_keep (hm h).2 (heap_setCell_other _ _ _ _ (fun e' => ?ne))⟩, fun _ => ⟨(he s11).1, hk.set 0 _⟩, fun _ => s11⟩
        case ne =>
          obtain ⟨es, ck, hmm⟩ := (pred_map (hm h).2).2
          obtain ⟨ty, hke⟩ := hk
          have e2 : mb = e := e'
          rw [e2, hke] at hmm
          cases hmm
        simp [execOp, go_sem, Act.eval, cbN, s11, s9, z0, f0]
      · injection ho with ho
        subst ho
        have s10 : S 10 = true := hp ⟨10, .data⟩ (by simp) rfl
        rw [if_pos (show Region.wanted _ _ = true from rfl)]
        refine wp_val (v := .bool false) (w' := X) ?_ ⟨mb, e, rfl, hB, hm, he, i12⟩
        simp [execOp, go_sem, Act.eval, cbN, s10]
    case fin =>
      rintro S a W2 hall ⟨mb, e, rfl, hB, -, he, -⟩
      have s0 : S 0 = true := hall 0 (show 0 < 14 by omega)
      have s1 : S 1 = true := hall 1 (show 1 < 14 by omega)
      have s2 : S 2 = true := hall 2 (show 2 < 14 by omega)
      have s3 : S 3 = true := hall 3 (show 3 < 14 by omega)
      have s4 : S 4 = true := hall 4 (show 4 < 14 by omega)
      have s5 : S 5 = true := hall 5 (show 5 < 14 by omega)
      have s6 : S 6 = true := hall 6 (show 6 < 14 by omega)
      have s7 : S 7 = true := hall 7 (show 7 < 14 by omega)
      have s8 : S 8 = true := hall 8 (show 8 < 14 by omega)
      have s9 : S 9 = true := hall 9 (show 9 < 14 by omega)
      have s10 : S 10 = true := hall 10 (show 10 < 14 by omega)
      have s11 : S 11 = true := hall 11 (show 11 < 14 by omega)
      have s12 : S 12 = true := hall 12 (show 12 < 14 by omega)
      have s13 : S 13 = true := hall 13 (show 13 < 14 by omega)
      have HBL2 := Lib.hid (HBL1.out.trans (hB.mono HBL1.out.size))
      have HBK2 := Lib.hid (HBK1.out.keep fun x hx => hB.block x.1 (HBK1.out.bk x hx).lt)
      refine hK3 _ _ ?_
      simp only [cbN, s0, s1, s2, s3, s4, s5, s6, s7, s8, s9, s10, s11, s13, if_true]
      clear hall hB he HBL1 HBK1 hK3 HPF lg s0 s1 s2 s3 s4 s5 s6 s7 s8 s9 s10 s11 s12 s13 bg_0 bg_1 bg_2 bg_3
      have hk1 : Bks _ [(w.heap.size + 1 + 1 + 1, [.int .i64 0, .int .i64 0, .string ⟨#[]⟩, .slice none 0 0]), (w.heap.size + 1 + 1, [.slice none 0 0, .int .i64 0, .int .i64 0, .bool false, .bool false, .slice none 0 0]), (w.heap.size + 1, [.int .i64 gk, .int .i64 gn, .string gs, .slice AA na ac]), (w.heap.size, [.slice OA on oc, .int .i64 q, .int .i64 u, .bool c, .bool d, .slice CA cn cc])] := HBK2.out.set6 1 rfl (.slice none 0 0) (.int .i64 0) (.int .i64 0) (.bool false) (.bool false) (.slice none 0 0)
      have hk2 : Bks _ [(w.heap.size + 1 + 1 + 1, [.int .i64 0, .int .i64 0, .string ⟨#[]⟩, .slice none 0 0]), (w.heap.size + 1 + 1, [.slice none 0 0, .int .i64 0, .int .i64 0, .bool false, .bool false, .slice none 0 0]), (w.heap.size + 1, [.int .i64 gk, .int .i64 gn, .string gs, .slice AA na ac]), (w.heap.size, [.slice OA on oc, .int .i64 q, .int .i64 u, .bool c, .bool d, .slice CA cn cc])] := hk1.set4 0 rfl (.int .i64 0) (.int .i64 0) (.string ⟨#[]⟩) (.slice none 0 0)
      have hbl : Below w.heap.size w (((((((((((W2.setCell ⟨w.heap.size + 1 + 1, 0, none⟩ (.slice none 0 0)).setCell ⟨w.heap.size + 1 + 1, 1, none⟩ (.int .i64 0)).setCell ⟨w.heap.size + 1 + 1, 2, none⟩ (.int .i64 0)).setCell ⟨w.heap.size + 1 + 1, 3, none⟩ (.bool false)).setCell ⟨w.heap.size + 1 + 1, 4, none⟩ (.bool false)).setCell ⟨w.heap.size + 1 + 1, 5, none⟩ (.slice none 0 0)).setCell ⟨w.heap.size + 1 + 1 + 1, 0, none⟩ (.int .i64 0)).setCell ⟨w.heap.size + 1 + 1 + 1, 1, none⟩ (.int .i64 0)).setCell ⟨w.heap.size + 1 + 1 + 1, 2, none⟩ (.string ⟨#[]⟩)).setCell ⟨w.heap.size + 1 + 1 + 1, 3, none⟩ (.slice none 0 0))) := ((((((((((HBL2.out.setCell (p := ⟨w.heap.size + 1 + 1, _, none⟩) (show w.heap.size ≤ w.heap.size + 1 + 1 by omega) _).setCell (p := ⟨w.heap.size + 1 + 1, _, none⟩) (show w.heap.size ≤ w.heap.size + 1 + 1 by omega) _).setCell (p := ⟨w.heap.size + 1 + 1, _, none⟩) (show w.heap.size ≤ w.heap.size + 1 + 1 by omega) _).setCell (p := ⟨w.heap.size + 1 + 1, _, none⟩) (show w.heap.size ≤ w.heap.size + 1 + 1 by omega) _).setCell (p := ⟨w.heap.size + 1 + 1, _, none⟩) (show w.heap.size ≤ w.heap.size + 1 + 1 by omega) _).setCell (p := ⟨w.heap.size + 1 + 1, _, none⟩) (show w.heap.size ≤ w.heap.size + 1 + 1 by omega) _).setCell (p := ⟨w.heap.size + 1 + 1 + 1, _, none⟩) (show w.heap.size ≤ w.heap.size + 1 + 1 + 1 by omega) _).setCell (p := ⟨w.heap.size + 1 + 1 + 1, _, none⟩) (show w.heap.size ≤ w.heap.size + 1 + 1 + 1 by omega) _).setCell (p := ⟨w.heap.size + 1 + 1 + 1, _, none⟩) (show w.heap.size ≤ w.heap.size + 1 + 1 + 1 by omega) _).setCell (p := ⟨w.heap.size + 1 + 1 + 1, _, none⟩) (show w.heap.size ≤ w.heap.size + 1 + 1 + 1 by omega) _)
      obtain ⟨wz, HWZ⟩ : ∃ wz, Hid (wz = ((((((((((W2.setCell ⟨w.heap.size + 1 + 1, 0, none⟩ (.slice none 0 0)).setCell ⟨w.heap.size + 1 + 1, 1, none⟩ (.int .i64 0)).setCell ⟨w.heap.size + 1 + 1, 2, none⟩ (.int .i64 0)).setCell ⟨w.heap.size + 1 + 1, 3, none⟩ (.bool false)).setCell ⟨w.heap.size + 1 + 1, 4, none⟩ (.bool false)).setCell ⟨w.heap.size + 1 + 1, 5, none⟩ (.slice none 0 0)).setCell ⟨w.heap.size + 1 + 1 + 1, 0, none⟩ (.int .i64 0)).setCell ⟨w.heap.size + 1 + 1 + 1, 1, none⟩ (.int .i64 0)).setCell ⟨w.heap.size + 1 + 1 + 1, 2, none⟩ (.string ⟨#[]⟩)).setCell ⟨w.heap.size + 1 + 1 + 1, 3, none⟩ (.slice none 0 0))) := ⟨_, Lib.hid rfl⟩
      rw [← HWZ.out] at hk2 hbl
      have HKZ := Lib.hid hk2
      have HBZ := Lib.hid hbl
      clear hk1 hk2 hbl
      have ja_0 : W2.cell? ⟨w.heap.size + 1 + 1, 0, none⟩ = some (.slice none 0 0) := HBK2.out.cell 1 0 rfl rfl
      have ja_1 : W2.cell? ⟨w.heap.size + 1 + 1, 1, none⟩ = some (.int .i64 0) := HBK2.out.cell 1 1 rfl rfl
      have ja_2 : W2.cell? ⟨w.heap.size + 1 + 1, 2, none⟩ = some (.int .i64 0) := HBK2.out.cell 1 2 rfl rfl
      have ja_3 : W2.cell? ⟨w.heap.size + 1 + 1, 3, none⟩ = some (.bool false) := HBK2.out.cell 1 3 rfl rfl
      have ja_4 : W2.cell? ⟨w.heap.size + 1 + 1, 4, none⟩ = some (.bool false) := HBK2.out.cell 1 4 rfl rfl
      have ja_5 : W2.cell? ⟨w.heap.size + 1 + 1, 5, none⟩ = some (.slice none 0 0) := HBK2.out.cell 1 5 rfl rfl
      have jc_0 : W2.cell? ⟨w.heap.size + 1 + 1 + 1, 0, none⟩ = some (.int .i64 0) := HBK2.out.cell 0 0 rfl rfl
      have jc_1 : W2.cell? ⟨w.heap.size + 1 + 1 + 1, 1, none⟩ = some (.int .i64 0) := HBK2.out.cell 0 1 rfl rfl
      have jc_2 : W2.cell? ⟨w.heap.size + 1 + 1 + 1, 2, none⟩ = some (.string ⟨#[]⟩) := HBK2.out.cell 0 2 rfl rfl
      have jc_3 : W2.cell? ⟨w.heap.size + 1 + 1 + 1, 3, none⟩ = some (.slice none 0 0) := HBK2.out.cell 0 3 rfl rfl
      have jaf0 : W2.frozen? ⟨w.heap.size + 1 + 1, 0, none⟩ = false := HBK2.out.fz 1 0 rfl
      have jaf1 : W2.frozen? ⟨w.heap.size + 1 + 1, 1, none⟩ = false := HBK2.out.fz 1 1 rfl
      have jaf2 : W2.frozen? ⟨w.heap.size + 1 + 1, 2, none⟩ = false := HBK2.out.fz 1 2 rfl
      have jaf3 : W2.frozen? ⟨w.heap.size + 1 + 1, 3, none⟩ = false := HBK2.out.fz 1 3 rfl
      have jaf4 : W2.frozen? ⟨w.heap.size + 1 + 1, 4, none⟩ = false := HBK2.out.fz 1 4 rfl
      have jaf5 : W2.frozen? ⟨w.heap.size + 1 + 1, 5, none⟩ = false := HBK2.out.fz 1 5 rfl
      have jcf0 : W2.frozen? ⟨w.heap.size + 1 + 1 + 1, 0, none⟩ = false := HBK2.out.fz 0 0 rfl
      have jcf1 : W2.frozen? ⟨w.heap.size + 1 + 1 + 1, 1, none⟩ = false := HBK2.out.fz 0 1 rfl
      have jcf2 : W2.frozen? ⟨w.heap.size + 1 + 1 + 1, 2, none⟩ = false := HBK2.out.fz 0 2 rfl
      have jcf3 : W2.frozen? ⟨w.heap.size + 1 + 1 + 1, 3, none⟩ = false := HBK2.out.fz 0 3 rfl
      have la := HBK2.out.lt 1 rfl
      have lc := HBK2.out.lt 0 rfl
      go_wp2_with fail
      rw [← HWZ.out]
      have ma_0 : wz.cell? ⟨w.heap.size + 1 + 1, 0, none⟩ = some (.slice none 0 0) := HKZ.out.cell 1 0 rfl rfl
      have ma_1 : wz.cell? ⟨w.heap.size + 1 + 1, 1, none⟩ = some (.int .i64 0) := HKZ.out.cell 1 1 rfl rfl
      have ma_2 : wz.cell? ⟨w.heap.size + 1 + 1, 2, none⟩ = some (.int .i64 0) := HKZ.out.cell 1 2 rfl rfl
      have ma_3 : wz.cell? ⟨w.heap.size + 1 + 1, 3, none⟩ = some (.bool false) := HKZ.out.cell 1 3 rfl rfl
      have ma_4 : wz.cell? ⟨w.heap.size + 1 + 1, 4, none⟩ = some (.bool false) := HKZ.out.cell 1 4 rfl rfl
      have ma_5 : wz.cell? ⟨w.heap.size + 1 + 1, 5, none⟩ = some (.slice none 0 0) := HKZ.out.cell 1 5 rfl rfl
      have mc_0 : wz.cell? ⟨w.heap.size + 1 + 1 + 1, 0, none⟩ = some (.int .i64 0) := HKZ.out.cell 0 0 rfl rfl
      have mc_1 : wz.cell? ⟨w.heap.size + 1 + 1 + 1, 1, none⟩ = some (.int .i64 0) := HKZ.out.cell 0 1 rfl rfl
      have mc_2 : wz.cell? ⟨w.heap.size + 1 + 1 + 1, 2, none⟩ = some (.string ⟨#[]⟩) := HKZ.out.cell 0 2 rfl rfl
      have mc_3 : wz.cell? ⟨w.heap.size + 1 + 1 + 1, 3, none⟩ = some (.slice none 0 0) := HKZ.out.cell 0 3 rfl rfl
      exact bodyPost_ret (v := rvN 4) (by simp [rvN, results, Tryz.results30, go_sem, ma_0, ma_1, ma_2, ma_3, ma_4, ma_5, mc_0, mc_1, mc_2, mc_3]) rfl ⟨rfl, HBZ.out⟩
end Go.Proofs.YtfkhcpeahdkafaaGreat
