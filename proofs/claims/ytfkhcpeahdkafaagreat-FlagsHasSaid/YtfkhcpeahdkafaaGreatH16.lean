/- Flags: Call at op/3, where nothing is wrong. -/
import Derived.Test.YtfkhcpeahdkafaaGreatH15
import Derived.Test.YtfkhcpeahdkafaaGreatH05
import Derived.Test.YtfkhcpeahdkafaaGreatH06
namespace Hb
open Go Go.RowKit
def caT1 (sv gv cv : Value) (g : Nat) (S : Nat → Bool) : Act := ⟨#[sv, gv, .pointer (some ⟨g, 0, none⟩), .pointer (some ⟨g + 1, 0, none⟩), .pointer (some ⟨g + 1 + 1, 0, none⟩), .slice none 0 0, .pointer (some ⟨g + 1 + 1 + 1, 0, none⟩), .int .i64 0, undef, undef, undef, if S 0 = true then sv else undef, if S 1 = true then .bool true else undef, if S 2 = true then .bool false else undef, if S 3 = true then .bool false else undef, if S 4 = true then gv else undef, if S 5 = true then .bool true else undef, if S 6 = true then .bool false else undef, if S 7 = true then .bool false else undef, if S 8 = true then .bool false else undef, if S 9 = true then gv else undef, if S 10 = true then gv else undef, if S 11 = true then cv else undef, if S 12 = true then .bool true else undef, if S 13 = true then .bool false else undef, if S 14 = true then .bool false else undef, undef, undef, undef, undef, undef, undef, undef, undef, undef, undef, undef, undef, undef, undef, undef, undef, undef, undef, undef, undef, undef, undef, undef, undef, undef, undef, undef, undef, undef, undef, undef, undef, undef, undef, undef, undef, undef, undef, undef, undef, undef, undef, undef, undef, undef, undef, undef, undef, undef, undef, undef], []⟩
def caT3 (sv gv cv av kv pv : Value) (nm : ByteArray) (g : Nat) (S : Nat → Bool) (mb e : Nat) : Act := ⟨#[sv, gv, .pointer (some ⟨g, 0, none⟩), .pointer (some ⟨g + 1, 0, none⟩), .pointer (some ⟨g + 1 + 1, 0, none⟩), .slice none 0 0, .pointer (some ⟨g + 1 + 1 + 1, 0, none⟩), .int .i64 0, if S 11 = true then .pointer (some ⟨e, 0, none⟩) else undef, if S 13 = true then .bool true else undef, undef, sv, .bool true, .bool false, .bool false, gv, .bool true, .bool false, .bool false, .bool false, gv, gv, cv, .bool true, .bool false, .bool false, undef, undef, if S 8 = true then .tuple #[pv, .bool true] else undef, if S 0 = true then .map (some mb) else undef, if S 1 = true then .pointer (some ⟨g + 1, 2, none⟩) else undef, if S 2 = true then .string nm else undef, if S 3 = true then .pointer (some ⟨g + 1, 3, none⟩) else undef, if S 4 = true then av else undef, if S 5 = true then .int .i64 3 else undef, if S 6 = true then kv else undef, if S 7 = true then .tuple #[pv, .bool true] else undef, if S 9 = true then pv else undef, if S 10 = true then .bool true else undef, undef, undef, undef, undef, undef, undef, undef, undef, undef, undef, undef, undef, undef, undef, undef, undef, undef, undef, undef, undef, undef, undef, undef, undef, undef, undef, undef, undef, undef, undef, undef, undef, undef, undef, undef, undef, undef, undef], []⟩
def caT6 (sv gv cv av kv pv ov fv : Value) (nm : ByteArray) (g mb e : Nat) (S : Nat → Bool) (bv rv : Value) (e6 : Nat) : Act := ⟨#[sv, gv, .pointer (some ⟨g, 0, none⟩), .pointer (some ⟨g + 1, 0, none⟩), .pointer (some ⟨g + 1 + 1, 0, none⟩), .slice none 0 0, .pointer (some ⟨g + 1 + 1 + 1, 0, none⟩), .int .i64 0, .pointer (some ⟨e, 0, none⟩), .bool true, if S 9 = true then .pointer (some ⟨e6, 0, none⟩) else undef, sv, .bool true, .bool false, .bool false, gv, .bool true, .bool false, .bool false, .bool false, gv, gv, cv, .bool true, .bool false, .bool false, undef, undef, .tuple #[pv, .bool true], .map (some mb), .pointer (some ⟨g + 1, 2, none⟩), .string nm, .pointer (some ⟨g + 1, 3, none⟩), av, .int .i64 3, kv, .tuple #[pv, .bool true], pv, .bool true, .bool true, .bool false, .bool false, .pointer (some ⟨g + 1, 0, none⟩), .int .i64 3, .bool false, .bool false, undef, undef, if S 0 = true then .pointer (some ⟨g, 0, none⟩) else undef, if S 1 = true then ov else undef, if S 2 = true then bv else undef, if S 3 = true then .pointer (some ⟨g, 1, none⟩) else undef, if S 4 = true then fv else undef, if S 5 = true then .pointer (some ⟨g, 5, none⟩) else undef, if S 6 = true then .slice none 0 0 else undef, if S 7 = true then .slice none 0 0 else undef, if S 8 = true then rv else undef, undef, undef, undef, undef, undef, undef, undef, undef, undef, undef, undef, undef, undef, undef, undef, undef, undef, undef, undef, undef], []⟩
theorem Bks.set6 {X : World} {l : List (Nat × List Value)} (h : Bks X l) (j : Nat) {g : Nat} {u0 u1 u2 u3 u4 u5 : Value} (hx : l[j]? = some (g, [u0, u1, u2, u3, u4, u5])) (v0 v1 v2 v3 v4 v5 : Value) :
    Bks ((((((X.setCell ⟨g, 0, none⟩ v0).setCell ⟨g, 1, none⟩ v1).setCell ⟨g, 2, none⟩ v2).setCell ⟨g, 3, none⟩ v3).setCell ⟨g, 4, none⟩ v4).setCell ⟨g, 5, none⟩ v5) (l.set j (g, [v0, v1, v2, v3, v4, v5])) := by
  have hj : j < l.length := (List.getElem?_eq_some_iff.1 hx).1
  have h1 := h.set j 0 hx v0
  have h2 := h1.set j 1 (g := g) (vs := [v0, u1, u2, u3, u4, u5]) (by rw [List.getElem?_set]; simp [hj]) v1
  have h3 := h2.set j 2 (g := g) (vs := [v0, v1, u2, u3, u4, u5]) (by rw [List.getElem?_set]; simp [hj]) v2
  have h4 := h3.set j 3 (g := g) (vs := [v0, v1, v2, u3, u4, u5]) (by rw [List.getElem?_set]; simp [hj]) v3
  have h5 := h4.set j 4 (g := g) (vs := [v0, v1, v2, v3, u4, u5]) (by rw [List.getElem?_set]; simp [hj]) v4
  have h6 := h5.set j 5 (g := g) (vs := [v0, v1, v2, v3, v4, u5]) (by rw [List.getElem?_set]; simp [hj]) v5
  simpa using h6
theorem caT6_rv {sv gv cv av kv pv ov fv : Value} {nm : ByteArray} {g mb e : Nat} {S : Nat → Bool} {bv rv : Value} {e6 : Nat} (rv' : Value) (h : S 8 = false) : caT6 sv gv cv av kv pv ov fv nm g mb e S bv rv e6 = caT6 sv gv cv av kv pv ov fv nm g mb e S bv rv' e6 := by
  unfold caT6
  simp [h]
theorem wp_cal {P : Program} {o : Oper} {a : Act} {X : World} {f : FuncId} {args : Array Value} {R : Value → World → Prop} {K : Act → World → Prop} {Q : Exit → Act → World → Prop} (hr : (execOp a.eval o).run P X = .ok (.enter f args) X) (hc : Calls P f args X fun e w' => ∃ v, e = .returned v ∧ R v w') (hK : ∀ v w', R v w' → K (a.put o.dst v) w') : o.wp P a X K Q := by
  unfold Oper.wp
  rw [hr, Oper.upon_enter]
  exact hc.mono fun e w' h => by
    obtain ⟨v, he, hR⟩ := h
    subst he
    exact hK v w' hR
end Hb
namespace Go.Proofs.YtfkhcpeahdkafaaGreat
open Go.RowKit Hb Go.Shelf
set_option maxRecDepth 100000
theorem pred_look (X : World) (mb j : Nat) (hj : j < 6) (h : PredIs X mb) : (Instr.lookup 94 (.map (some mb)) (keyV (pNm j) (pAr j)) true).run Tryz.prog X = .ok (.tuple #[.agg #[.func (.func (pFn j)) #[] #[]], .bool true]) X := by
  obtain ⟨n, D, hown, hhas, hat⟩ := h
  have hz : (zeroValue 92).run Tryz.prog X = .ok (.agg #[.nilFunc]) X := by kernel_rfl
  obtain ⟨v, ps, hrun, hv⟩ := hown.look_ok key_law Tryz.underlying94 hz predR_nil (p_key j)
  rw [(hhas _).2 ⟨j, hj, rfl⟩] at hrun
  rw [hat j _ hj] at hv
  rcases predR_inv hv with ⟨h1, _⟩ | ⟨m, h1, h2⟩
  · exact absurd h1 (by omega)
  · rw [hrun, h2, show m = pFn j by omega]
theorem pred_keep {X Y : World} {mb : Nat} (h : PredIs X mb) (hk : Y.heap[mb]? = X.heap[mb]?) : PredIs Y mb := by
  obtain ⟨n, D, hown, hhas, hat⟩ := h
  obtain ⟨es, clock, hb, rest⟩ := hown
  exact ⟨n, D, ⟨es, clock, hk.trans hb, rest⟩, hhas, hat⟩
theorem pred_map {X : World} {mb : Nat} (h : PredIs X mb) : mb < X.heap.size ∧ ∃ es clock, X.heap[mb]? = some (.map es clock) := by
  obtain ⟨n, D, hown, _⟩ := h
  obtain ⟨es, clock, hb, _⟩ := hown
  exact ⟨(Array.getElem?_eq_some_iff.1 hb).1, es, clock, hb⟩
set_option maxHeartbeats 6400000 in
theorem f_call_op (OA : Option Addr) (on oc : Nat) (q u : Int) (c d : Bool) (gn : Int) (AA : Option Addr) (ac : Nat) (p t n : Tm) (l : List OpR) (w : World)
    (hTab : Tab w OA on oc l) (hon : on ≤ 400) (hov : opsValid l = true) (hfv : flOk ⟨q, u, c, d⟩ = true) (hA : TmsAt w.heap.size w AA [p, t, n]) (hg : validT (.mk 3 gn ⟨#[111, 112]⟩ [p, t, n]) = true) (hv : validT n = true) (hsm : sameT (.mk 3 gn ⟨#[111, 112]⟩ [p, t, n]) (canT (.mk 3 gn ⟨#[111, 112]⟩ [p, t, n])) = true) (hok : ChkOk p t n) (hset : SetsOk (tyOf t.name) p.num l (nmL n)) :
    Calls Tryz.prog 30 #[.agg #[.slice OA on oc, .int .i64 q, .int .i64 u, .bool c, .bool d, .slice none 0 0], .agg #[.int .i64 3, .int .i64 gn, .string ⟨#[111, 112]⟩, .slice AA 3 ac]] w fun e w' => ∃ OA' on' oc' b, e = .returned (.tuple #[.agg #[.slice OA' on' oc', .int .i64 q, .int .i64 u, .bool c, .bool d, .slice none 0 0], .slice (some ⟨b, 0, none⟩) 1 1, .agg #[.int .i64 0, .int .i64 0, .string ⟨#[]⟩, .slice none 0 0], .int .i64 0]) ∧ Below w.heap.size w w' ∧ Tab w' OA' on' oc' (setAll (tyOf t.name) p.num l (nmL n)) ∧ TmsK (fun b => w.heap.size ≤ b ∧ b < w'.heap.size) w' (some ⟨b, 0, none⟩) [(.mk 3 gn ⟨#[111, 112]⟩ [p, t, n])] := by
  have HTAB := Lib.hid hTab
  have HON := Lib.hid hon
  have HAA := Lib.hid hA
  have HGV := Lib.hid hg
  have HVN := Lib.hid hv
  have HOK := Lib.hid hok
  have HSET := Lib.hid hset
  have HVS : Hid (∀ X, Below w.heap.size w X → Calls Tryz.prog 23 #[.agg #[.slice OA on oc, .int .i64 q, .int .i64 u, .bool c, .bool d, .slice none 0 0]] X fun e w' => ∃ v, e = .returned v ∧ (v = .bool true ∧ Below X.heap.size X w')) := Lib.hid fun X hX => (f_validSyntax OA on oc q u c d none 0 0 l [] X (hTab.below hX) hon rfl (by unfold maxLen; omega) (fun j hj => absurd hj (by simp))).mono fun e w' h => ⟨_, h.1, by rw [hov, hfv]; rfl, h.2⟩
  have HVT : Hid (∀ X, Below w.heap.size w X → Calls Tryz.prog 53 #[.agg #[.int .i64 3, .int .i64 gn, .string ⟨#[111, 112]⟩, .slice AA 3 ac]] X fun e w' => ∃ v, e = .returned v ∧ (v = .bool true ∧ Below X.heap.size X w')) := Lib.hid fun X hX => (t_valid (.mk 3 gn ⟨#[111, 112]⟩ [p, t, n]) AA ac X ((hA.keep hX).mono hX.size)).mono fun e w' h => ⟨_, h.1, by rw [hg], h.2⟩
  have HCN : Hid (∀ X, Below w.heap.size w X → Calls Tryz.prog 67 #[.agg #[.int .i64 3, .int .i64 gn, .string ⟨#[111, 112]⟩, .slice AA 3 ac]] X fun e w' => ∃ v, e = .returned v ∧ ((∃ A' c', v = tmV (canT (.mk 3 gn ⟨#[111, 112]⟩ [p, t, n])) A' c' ∧ TmsAt w'.heap.size w' A' (canT (.mk 3 gn ⟨#[111, 112]⟩ [p, t, n])).args) ∧ Below X.heap.size X w')) := Lib.hid fun X hX => (t_canon (.mk 3 gn ⟨#[111, 112]⟩ [p, t, n]) AA ac X ((hA.keep hX).mono hX.size)).mono fun e w' h => by
    obtain ⟨A', c', he, hB, hN⟩ := h
    exact ⟨_, he, ⟨A', c', rfl, hN.at'⟩, hB⟩
  have HSM : Hid (∀ X A' c', Below w.heap.size w X → TmsAt X.heap.size X A' (canT (.mk 3 gn ⟨#[111, 112]⟩ [p, t, n])).args → Calls Tryz.prog 66 #[.agg #[.int .i64 3, .int .i64 gn, .string ⟨#[111, 112]⟩, .slice AA 3 ac], tmV (canT (.mk 3 gn ⟨#[111, 112]⟩ [p, t, n])) A' c'] X fun e w' => ∃ v, e = .returned v ∧ (v = .bool true ∧ Below X.heap.size X w')) := Lib.hid fun X A' c' hX hT => (t_same (.mk 3 gn ⟨#[111, 112]⟩ [p, t, n]) (canT (.mk 3 gn ⟨#[111, 112]⟩ [p, t, n])) AA A' ac c' X ((hA.keep hX).mono hX.size) hT).mono fun e w' h => ⟨_, h.1, by rw [hsm], h.2⟩
  have HBL0 : Hid (Below w.heap.size w (((((w.alloc (.cells #[.slice OA on oc, .int .i64 q, .int .i64 u, .bool c, .bool d, .slice none 0 0] 43)).alloc (.cells #[.int .i64 3, .int .i64 gn, .string ⟨#[111, 112]⟩, .slice AA 3 ac] 26)).alloc (.cells #[.slice none 0 0, .int .i64 0, .int .i64 0, .bool false, .bool false, .slice none 0 0] 43)).alloc (.cells #[.int .i64 0, .int .i64 0, .string ⟨#[]⟩, .slice none 0 0] 26)))) := Lib.hid (((((Below.refl _ w).alloc (Nat.le_refl _) _).alloc (by simp) _).alloc (by simp; omega) _).alloc (by simp; omega) _)
  have HBK0 : Hid (Bks (((((w.alloc (.cells #[.slice OA on oc, .int .i64 q, .int .i64 u, .bool c, .bool d, .slice none 0 0] 43)).alloc (.cells #[.int .i64 3, .int .i64 gn, .string ⟨#[111, 112]⟩, .slice AA 3 ac] 26)).alloc (.cells #[.slice none 0 0, .int .i64 0, .int .i64 0, .bool false, .bool false, .slice none 0 0] 43)).alloc (.cells #[.int .i64 0, .int .i64 0, .string ⟨#[]⟩, .slice none 0 0] 26))) [(w.heap.size + 1 + 1 + 1, [.int .i64 0, .int .i64 0, .string ⟨#[]⟩, .slice none 0 0]), (w.heap.size + 1 + 1, [.slice none 0 0, .int .i64 0, .int .i64 0, .bool false, .bool false, .slice none 0 0]), (w.heap.size + 1, [.int .i64 3, .int .i64 gn, .string ⟨#[111, 112]⟩, .slice AA 3 ac]), (w.heap.size, [.slice OA on oc, .int .i64 q, .int .i64 u, .bool c, .bool d, .slice none 0 0])]) := Lib.hid (((((Bks.nil w).new [.slice OA on oc, .int .i64 q, .int .i64 u, .bool c, .bool d, .slice none 0 0] 43 rfl).new [.int .i64 3, .int .i64 gn, .string ⟨#[111, 112]⟩, .slice AA 3 ac] 26 (by simp)).new [.slice none 0 0, .int .i64 0, .int .i64 0, .bool false, .bool false, .slice none 0 0] 43 (by simp)).new [.int .i64 0, .int .i64 0, .string ⟨#[]⟩, .slice none 0 0] 26 (by simp))
  clear hTab hon hov hfv hA hg hv hsm hok hset
  go_enter Tryz.func30, Tryz.ntmps30
  go_wp2_with fail
  obtain ⟨W0, HW0⟩ : ∃ W0, Hid (W0 = ((((w.alloc (.cells #[.slice OA on oc, .int .i64 q, .int .i64 u, .bool c, .bool d, .slice none 0 0] 43)).alloc (.cells #[.int .i64 3, .int .i64 gn, .string ⟨#[111, 112]⟩, .slice AA 3 ac] 26)).alloc (.cells #[.slice none 0 0, .int .i64 0, .int .i64 0, .bool false, .bool false, .slice none 0 0] 43)).alloc (.cells #[.int .i64 0, .int .i64 0, .string ⟨#[]⟩, .slice none 0 0] 26))) := ⟨_, Lib.hid rfl⟩
  rw [← HW0.out] at HBL0 HBK0 ⊢
  clear HW0
  rename_i K0 hK0
  have as_0 : W0.cell? ⟨w.heap.size, 0, none⟩ = some (.slice OA on oc) := HBK0.out.cell 3 0 rfl rfl
  have as_1 : W0.cell? ⟨w.heap.size, 1, none⟩ = some (.int .i64 q) := HBK0.out.cell 3 1 rfl rfl
  have as_2 : W0.cell? ⟨w.heap.size, 2, none⟩ = some (.int .i64 u) := HBK0.out.cell 3 2 rfl rfl
  have as_3 : W0.cell? ⟨w.heap.size, 3, none⟩ = some (.bool c) := HBK0.out.cell 3 3 rfl rfl
  have as_4 : W0.cell? ⟨w.heap.size, 4, none⟩ = some (.bool d) := HBK0.out.cell 3 4 rfl rfl
  have as_5 : W0.cell? ⟨w.heap.size, 5, none⟩ = some (.slice none 0 0) := HBK0.out.cell 3 5 rfl rfl
  have ag_0 : W0.cell? ⟨w.heap.size + 1, 0, none⟩ = some (.int .i64 3) := HBK0.out.cell 2 0 rfl rfl
  have ag_1 : W0.cell? ⟨w.heap.size + 1, 1, none⟩ = some (.int .i64 gn) := HBK0.out.cell 2 1 rfl rfl
  have ag_2 : W0.cell? ⟨w.heap.size + 1, 2, none⟩ = some (.string ⟨#[111, 112]⟩) := HBK0.out.cell 2 2 rfl rfl
  have ag_3 : W0.cell? ⟨w.heap.size + 1, 3, none⟩ = some (.slice AA 3 ac) := HBK0.out.cell 2 3 rfl rfl
  have ls : w.heap.size < W0.heap.size := HBK0.out.lt 3 rfl
  have lg : w.heap.size + 1 < W0.heap.size := HBK0.out.lt 2 rfl
  refine wp_region_any (by kernel_rfl) ?_
  refine wpAny_inv (fun S a X => ∃ cv, a = (caT1 (.agg #[.slice OA on oc, .int .i64 q, .int .i64 u, .bool c, .bool d, .slice none 0 0]) (.agg #[.int .i64 3, .int .i64 gn, .string ⟨#[111, 112]⟩, .slice AA 3 ac]) cv w.heap.size S) ∧ Below W0.heap.size W0 X ∧ (S 11 = true → ∃ A' c', cv = tmV (canT (.mk 3 gn ⟨#[111, 112]⟩ [p, t, n])) A' c' ∧ TmsAt X.heap.size X A' (canT (.mk 3 gn ⟨#[111, 112]⟩ [p, t, n])).args)) (by kernel_rfl) ?step ?fin 15 (fun _ => false) _ _ (by decide) ⟨undef, rfl, (Below.refl _ W0).drew, fun h => (by cases h)⟩
  case step =>
    rintro S j o a X ho hs hp ⟨cv, rfl, hB, hcv⟩
    have hlt : j < 15 := (Array.getElem?_eq_some_iff.1 ho).1
    rcases (show j = 0 ∨ j = 1 ∨ j = 2 ∨ j = 3 ∨ j = 4 ∨ j = 5 ∨ j = 6 ∨ j = 7 ∨ j = 8 ∨ j = 9 ∨ j = 10 ∨ j = 11 ∨ j = 12 ∨ j = 13 ∨ j = 14 by omega) with rfl | rfl | rfl | rfl | rfl | rfl | rfl | rfl | rfl | rfl | rfl | rfl | rfl | rfl | rfl
    · injection ho with ho
      subst ho
      have xs0 : X.cell? ⟨w.heap.size, 0, none⟩ = some (.slice OA on oc) := (hB.cell (p := ⟨_, 0, none⟩) ls).trans as_0
      have xs1 : X.cell? ⟨w.heap.size, 1, none⟩ = some (.int .i64 q) := (hB.cell (p := ⟨_, 1, none⟩) ls).trans as_1
      have xs2 : X.cell? ⟨w.heap.size, 2, none⟩ = some (.int .i64 u) := (hB.cell (p := ⟨_, 2, none⟩) ls).trans as_2
      have xs3 : X.cell? ⟨w.heap.size, 3, none⟩ = some (.bool c) := (hB.cell (p := ⟨_, 3, none⟩) ls).trans as_3
      have xs4 : X.cell? ⟨w.heap.size, 4, none⟩ = some (.bool d) := (hB.cell (p := ⟨_, 4, none⟩) ls).trans as_4
      have xs5 : X.cell? ⟨w.heap.size, 5, none⟩ = some (.slice none 0 0) := (hB.cell (p := ⟨_, 5, none⟩) ls).trans as_5
      rw [if_pos (show Region.wanted _ _ = true from rfl)]
      refine wp_val (v := .agg #[.slice OA on oc, .int .i64 q, .int .i64 u, .bool c, .bool d, .slice none 0 0]) (w' := X) ?_ ⟨cv, rfl, hB, hcv⟩
      simp [execOp, go_sem, Act.eval, caT1, xs0, xs1, xs2, xs3, xs4, xs5]
    · injection ho with ho
      subst ho
      have s0 : S 0 = true := hp ⟨0, .data⟩ (by simp) rfl
      rw [if_pos (show Region.wanted _ _ = true from rfl)]
      refine wp_cal ?_ (HVS.out X (HBL0.out.trans (hB.mono HBL0.out.size))) (fun v w' hR => ?_)
      · simp [execOp, go_sem, Act.eval, caT1, s0]
        try rfl
      · obtain ⟨rfl, hB'⟩ := hR
        exact ⟨_, rfl, hB.trans (hB'.mono hB.size), fun h => (by obtain ⟨A', c', e, hT⟩ := hcv h; exact ⟨A', c', e, (hT.keep hB').mono hB'.size⟩)⟩
    · injection ho with ho
      subst ho
      have s1 : S 1 = true := hp ⟨1, .data⟩ (by simp) rfl
      rw [if_pos (show Region.wanted _ _ = true from rfl)]
      refine wp_val (v := .bool false) (w' := X) ?_ ⟨cv, rfl, hB, hcv⟩
      simp [execOp, go_sem, Act.eval, caT1, s1]
    · injection ho with ho
      subst ho
      have s2 : S 2 = true := hp ⟨2, .data⟩ (by simp) rfl
      rw [if_pos (show Region.wanted _ _ = true from rfl)]
      refine wp_val (v := .bool false) (w' := X) ?_ ⟨cv, rfl, hB, hcv⟩
      simp [execOp, go_sem, Act.eval, caT1, s2]
    · injection ho with ho
      subst ho
      have s3 : S 3 = true := hp ⟨3, .guard⟩ (by simp) rfl
      have xg0 : X.cell? ⟨w.heap.size + 1, 0, none⟩ = some (.int .i64 3) := (hB.cell (p := ⟨_, 0, none⟩) lg).trans ag_0
      have xg1 : X.cell? ⟨w.heap.size + 1, 1, none⟩ = some (.int .i64 gn) := (hB.cell (p := ⟨_, 1, none⟩) lg).trans ag_1
      have xg2 : X.cell? ⟨w.heap.size + 1, 2, none⟩ = some (.string ⟨#[111, 112]⟩) := (hB.cell (p := ⟨_, 2, none⟩) lg).trans ag_2
      have xg3 : X.cell? ⟨w.heap.size + 1, 3, none⟩ = some (.slice AA 3 ac) := (hB.cell (p := ⟨_, 3, none⟩) lg).trans ag_3
      rw [if_pos (show Region.wanted _ (yielded _ _) = true by simp [Region.wanted, yielded, caT1, s3])]
      refine wp_val (v := .agg #[.int .i64 3, .int .i64 gn, .string ⟨#[111, 112]⟩, .slice AA 3 ac]) (w' := X) ?_ ⟨cv, rfl, hB, hcv⟩
      simp [execOp, go_sem, Act.eval, caT1, xg0, xg1, xg2, xg3]
    · injection ho with ho
      subst ho
      have s4 : S 4 = true := hp ⟨4, .data⟩ (by simp) rfl
      have s3 : S 3 = true := hp ⟨3, .guard⟩ (by simp) rfl
      rw [if_pos (show Region.wanted _ (yielded _ _) = true by simp [Region.wanted, yielded, caT1, s3])]
      refine wp_cal ?_ (HVT.out X (HBL0.out.trans (hB.mono HBL0.out.size))) (fun v w' hR => ?_)
      · simp [execOp, go_sem, Act.eval, caT1, s4]
        try rfl
      · obtain ⟨rfl, hB'⟩ := hR
        exact ⟨_, rfl, hB.trans (hB'.mono hB.size), fun h => (by obtain ⟨A', c', e, hT⟩ := hcv h; exact ⟨A', c', e, (hT.keep hB').mono hB'.size⟩)⟩
    · injection ho with ho
      subst ho
      have s5 : S 5 = true := hp ⟨5, .data⟩ (by simp) rfl
      have s3 : S 3 = true := hp ⟨3, .guard⟩ (by simp) rfl
      rw [if_pos (show Region.wanted _ (yielded _ _) = true by simp [Region.wanted, yielded, caT1, s3])]
      refine wp_val (v := .bool false) (w' := X) ?_ ⟨cv, rfl, hB, hcv⟩
      simp [execOp, go_sem, Act.eval, caT1, s5]
    · injection ho with ho
      subst ho
      have s3 : S 3 = true := hp ⟨3, .data⟩ (by simp) rfl
      have s6 : S 6 = true := hp ⟨6, .data⟩ (by simp) rfl
      rw [if_pos (show Region.wanted _ _ = true from rfl)]
      refine wp_val (v := .bool false) (w' := X) ?_ ⟨cv, rfl, hB, hcv⟩
      simp [execOp, go_sem, Act.eval, caT1, s3, s6]
    · injection ho with ho
      subst ho
      have s7 : S 7 = true := hp ⟨7, .data⟩ (by simp) rfl
      rw [if_pos (show Region.wanted _ _ = true from rfl)]
      refine wp_val (v := .bool false) (w' := X) ?_ ⟨cv, rfl, hB, hcv⟩
      simp [execOp, go_sem, Act.eval, caT1, s7]
    · injection ho with ho
      subst ho
      have s8 : S 8 = true := hp ⟨8, .guard⟩ (by simp) rfl
      have xg0 : X.cell? ⟨w.heap.size + 1, 0, none⟩ = some (.int .i64 3) := (hB.cell (p := ⟨_, 0, none⟩) lg).trans ag_0
      have xg1 : X.cell? ⟨w.heap.size + 1, 1, none⟩ = some (.int .i64 gn) := (hB.cell (p := ⟨_, 1, none⟩) lg).trans ag_1
      have xg2 : X.cell? ⟨w.heap.size + 1, 2, none⟩ = some (.string ⟨#[111, 112]⟩) := (hB.cell (p := ⟨_, 2, none⟩) lg).trans ag_2
      have xg3 : X.cell? ⟨w.heap.size + 1, 3, none⟩ = some (.slice AA 3 ac) := (hB.cell (p := ⟨_, 3, none⟩) lg).trans ag_3
      rw [if_pos (show Region.wanted _ (yielded _ _) = true by simp [Region.wanted, yielded, caT1, s8])]
      refine wp_val (v := .agg #[.int .i64 3, .int .i64 gn, .string ⟨#[111, 112]⟩, .slice AA 3 ac]) (w' := X) ?_ ⟨cv, rfl, hB, hcv⟩
      simp [execOp, go_sem, Act.eval, caT1, xg0, xg1, xg2, xg3]
    · injection ho with ho
      subst ho
      have s8 : S 8 = true := hp ⟨8, .guard⟩ (by simp) rfl
      have xg0 : X.cell? ⟨w.heap.size + 1, 0, none⟩ = some (.int .i64 3) := (hB.cell (p := ⟨_, 0, none⟩) lg).trans ag_0
      have xg1 : X.cell? ⟨w.heap.size + 1, 1, none⟩ = some (.int .i64 gn) := (hB.cell (p := ⟨_, 1, none⟩) lg).trans ag_1
      have xg2 : X.cell? ⟨w.heap.size + 1, 2, none⟩ = some (.string ⟨#[111, 112]⟩) := (hB.cell (p := ⟨_, 2, none⟩) lg).trans ag_2
      have xg3 : X.cell? ⟨w.heap.size + 1, 3, none⟩ = some (.slice AA 3 ac) := (hB.cell (p := ⟨_, 3, none⟩) lg).trans ag_3
      rw [if_pos (show Region.wanted _ (yielded _ _) = true by simp [Region.wanted, yielded, caT1, s8])]
      refine wp_val (v := .agg #[.int .i64 3, .int .i64 gn, .string ⟨#[111, 112]⟩, .slice AA 3 ac]) (w' := X) ?_ ⟨cv, rfl, hB, hcv⟩
      simp [execOp, go_sem, Act.eval, caT1, xg0, xg1, xg2, xg3]
    · injection ho with ho
      subst ho
      have s10 : S 10 = true := hp ⟨10, .data⟩ (by simp) rfl
      have s8 : S 8 = true := hp ⟨8, .guard⟩ (by simp) rfl
      rw [if_pos (show Region.wanted _ (yielded _ _) = true by simp [Region.wanted, yielded, caT1, s8])]
      refine wp_cal ?_ (HCN.out X (HBL0.out.trans (hB.mono HBL0.out.size))) (fun v w' hR => ?_)
      · simp [execOp, go_sem, Act.eval, caT1, s10]
        try rfl
      · obtain ⟨hcv', hB'⟩ := hR
        exact ⟨v, rfl, hB.trans (hB'.mono hB.size), fun _ => hcv'⟩
    · injection ho with ho
      subst ho
      have s9 : S 9 = true := hp ⟨9, .data⟩ (by simp) rfl
      have s11 : S 11 = true := hp ⟨11, .data⟩ (by simp) rfl
      have s8 : S 8 = true := hp ⟨8, .guard⟩ (by simp) rfl
      obtain ⟨A1, c1, hcve, hT1⟩ := hcv s11
      subst hcve
      rw [if_pos (show Region.wanted _ (yielded _ _) = true by simp [Region.wanted, yielded, caT1, s8])]
      refine wp_cal ?_ (HSM.out X A1 c1 (HBL0.out.trans (hB.mono HBL0.out.size)) hT1) (fun v w' hR => ?_)
      · simp [execOp, go_sem, Act.eval, caT1, s9, s11]
        try rfl
      · obtain ⟨rfl, hB'⟩ := hR
        exact ⟨_, rfl, hB.trans (hB'.mono hB.size), fun h => (by obtain ⟨A', c', e, hT⟩ := hcv h; exact ⟨A', c', e, (hT.keep hB').mono hB'.size⟩)⟩
    · injection ho with ho
      subst ho
      have s12 : S 12 = true := hp ⟨12, .data⟩ (by simp) rfl
      have s8 : S 8 = true := hp ⟨8, .guard⟩ (by simp) rfl
      rw [if_pos (show Region.wanted _ (yielded _ _) = true by simp [Region.wanted, yielded, caT1, s8])]
      refine wp_val (v := .bool false) (w' := X) ?_ ⟨cv, rfl, hB, hcv⟩
      simp [execOp, go_sem, Act.eval, caT1, s12]
    · injection ho with ho
      subst ho
      have s8 : S 8 = true := hp ⟨8, .data⟩ (by simp) rfl
      have s13 : S 13 = true := hp ⟨13, .data⟩ (by simp) rfl
      rw [if_pos (show Region.wanted _ _ = true from rfl)]
      refine wp_val (v := .bool false) (w' := X) ?_ ⟨cv, rfl, hB, hcv⟩
      simp [execOp, go_sem, Act.eval, caT1, s8, s13]
  case fin =>
    rintro S a W1 hall ⟨cv, rfl, hB, -⟩
    have s0 : S 0 = true := hall 0 (show 0 < 15 by omega)
    have s1 : S 1 = true := hall 1 (show 1 < 15 by omega)
    have s2 : S 2 = true := hall 2 (show 2 < 15 by omega)
    have s3 : S 3 = true := hall 3 (show 3 < 15 by omega)
    have s4 : S 4 = true := hall 4 (show 4 < 15 by omega)
    have s5 : S 5 = true := hall 5 (show 5 < 15 by omega)
    have s6 : S 6 = true := hall 6 (show 6 < 15 by omega)
    have s7 : S 7 = true := hall 7 (show 7 < 15 by omega)
    have s8 : S 8 = true := hall 8 (show 8 < 15 by omega)
    have s9 : S 9 = true := hall 9 (show 9 < 15 by omega)
    have s10 : S 10 = true := hall 10 (show 10 < 15 by omega)
    have s11 : S 11 = true := hall 11 (show 11 < 15 by omega)
    have s12 : S 12 = true := hall 12 (show 12 < 15 by omega)
    have s13 : S 13 = true := hall 13 (show 13 < 15 by omega)
    have s14 : S 14 = true := hall 14 (show 14 < 15 by omega)
    have HBL1 := Lib.hid (HBL0.out.trans (hB.mono HBL0.out.size))
    have HBK1 := Lib.hid (HBK0.out.keep fun x hx => hB.block x.1 (HBK0.out.bk x hx).lt)
    refine hK0 _ _ ?_
    simp only [caT1, s0, s1, s2, s3, s4, s5, s6, s7, s8, s9, s10, s11, s12, s13, s14, if_true]
    clear hall hB HBL0 HBK0 hK0 HVS HVT HCN HSM ls lg s0 s1 s2 s3 s4 s5 s6 s7 s8 s9 s10 s11 s12 s13 s14 as_0 as_1 as_2 as_3 as_4 as_5 ag_0 ag_1 ag_2 ag_3
    go_wp2_with fail
    rename_i K3 hK3
    have bg_0 : W1.cell? ⟨w.heap.size + 1, 0, none⟩ = some (.int .i64 3) := HBK1.out.cell 2 0 rfl rfl
    have bg_1 : W1.cell? ⟨w.heap.size + 1, 1, none⟩ = some (.int .i64 gn) := HBK1.out.cell 2 1 rfl rfl
    have bg_2 : W1.cell? ⟨w.heap.size + 1, 2, none⟩ = some (.string ⟨#[111, 112]⟩) := HBK1.out.cell 2 2 rfl rfl
    have bg_3 : W1.cell? ⟨w.heap.size + 1, 3, none⟩ = some (.slice AA 3 ac) := HBK1.out.cell 2 3 rfl rfl
    have lg : w.heap.size + 1 < W1.heap.size := HBK1.out.lt 2 rfl
    refine wp_region_any (by kernel_rfl) ?_
    refine wpAny_inv (fun S a X => ∃ mb e, a = (caT3 (.agg #[.slice OA on oc, .int .i64 q, .int .i64 u, .bool c, .bool d, .slice none 0 0]) (.agg #[.int .i64 3, .int .i64 gn, .string ⟨#[111, 112]⟩, .slice AA 3 ac]) cv (.slice AA 3 ac) (.agg #[.string ⟨#[111, 112]⟩, .int .i64 3]) (.agg #[.func (.func 113) #[] #[]]) ⟨#[111, 112]⟩ w.heap.size S mb e) ∧ Below W1.heap.size W1 X ∧ (S 0 = true → W1.heap.size ≤ mb ∧ PredIs X mb) ∧ (S 11 = true → W1.heap.size ≤ e ∧ Bk X e (if S 12 = true then [.func (.func 113) #[] #[]] else [.nilFunc])) ∧ (S 12 = true → S 11 = true)) (by kernel_rfl) ?step ?fin 14 (fun _ => false) _ _ (by decide) ⟨0, 0, rfl, (Below.refl _ W1).drew, fun h => (by cases h), fun h => (by cases h), fun h => (by cases h)⟩
    case step =>
      rintro S j o a X ho hs hp ⟨mb, e, rfl, hB, hm, he, i12⟩
      have hlt : j < 14 := (Array.getElem?_eq_some_iff.1 ho).1
      rcases (show j = 0 ∨ j = 1 ∨ j = 2 ∨ j = 3 ∨ j = 4 ∨ j = 5 ∨ j = 6 ∨ j = 7 ∨ j = 8 ∨ j = 9 ∨ j = 10 ∨ j = 11 ∨ j = 12 ∨ j = 13 by omega) with rfl | rfl | rfl | rfl | rfl | rfl | rfl | rfl | rfl | rfl | rfl | rfl | rfl | rfl
      · injection ho with ho
        subst ho
        have HPR : Calls Tryz.prog 68 #[] X fun e w' => ∃ v, e = .returned v ∧ ((∃ m, v = Value.map (some m) ∧ X.heap.size ≤ m ∧ PredIs w' m) ∧ Below X.heap.size X w') := (f_predicates X).mono fun e w' h => by
          obtain ⟨m, he, h1, h2, h3⟩ := h
          exact ⟨_, he, ⟨m, rfl, h1, h3⟩, h2⟩
        rw [if_pos (show Region.wanted _ _ = true from rfl)]
        refine wp_cal ?_ (HPR) (fun v w' hR => ?_)
        · simp [execOp, go_sem, Act.eval, caT3]
          try rfl
        · obtain ⟨⟨m, rfl, h1, h3⟩, hB'⟩ := hR
          exact ⟨m, e, rfl, hB.trans (hB'.mono hB.size), fun _ => ⟨Nat.le_trans hB.size h1, h3⟩, fun h => ⟨(he h).1, (he h).2.call hB'⟩, i12⟩
      · injection ho with ho
        subst ho
        rw [if_pos (show Region.wanted _ _ = true from rfl)]
        refine wp_val (v := .pointer (some ⟨w.heap.size + 1, 2, none⟩)) (w' := X) ?_ ⟨mb, e, rfl, hB, hm, he, i12⟩
        simp [execOp, go_sem, Act.eval, caT3]
      · injection ho with ho
        subst ho
        have s1 : S 1 = true := hp ⟨1, .data⟩ (by simp) rfl
        have xg2 : X.cell? ⟨w.heap.size + 1, 2, none⟩ = some (.string ⟨#[111, 112]⟩) := (hB.cell (p := ⟨_, 2, none⟩) lg).trans bg_2
        rw [if_pos (show Region.wanted _ _ = true from rfl)]
        refine wp_val (v := .string ⟨#[111, 112]⟩) (w' := X) ?_ ⟨mb, e, rfl, hB, hm, he, i12⟩
        simp [execOp, go_sem, Act.eval, caT3, s1, xg2]
      · injection ho with ho
        subst ho
        rw [if_pos (show Region.wanted _ _ = true from rfl)]
        refine wp_val (v := .pointer (some ⟨w.heap.size + 1, 3, none⟩)) (w' := X) ?_ ⟨mb, e, rfl, hB, hm, he, i12⟩
        simp [execOp, go_sem, Act.eval, caT3]
      · injection ho with ho
        subst ho
        have s3 : S 3 = true := hp ⟨3, .data⟩ (by simp) rfl
        have xg3 : X.cell? ⟨w.heap.size + 1, 3, none⟩ = some (.slice AA 3 ac) := (hB.cell (p := ⟨_, 3, none⟩) lg).trans bg_3
        rw [if_pos (show Region.wanted _ _ = true from rfl)]
        refine wp_val (v := .slice AA 3 ac) (w' := X) ?_ ⟨mb, e, rfl, hB, hm, he, i12⟩
        simp [execOp, go_sem, Act.eval, caT3, s3, xg3]
      · injection ho with ho
        subst ho
        have s4 : S 4 = true := hp ⟨4, .data⟩ (by simp) rfl
        rw [if_pos (show Region.wanted _ _ = true from rfl)]
        refine wp_val (v := .int .i64 3) (w' := X) ?_ ⟨mb, e, rfl, hB, hm, he, i12⟩
        simp [execOp, go_sem, Act.eval, caT3, s4]
      · injection ho with ho
        subst ho
        have s2 : S 2 = true := hp ⟨2, .data⟩ (by simp) rfl
        have s5 : S 5 = true := hp ⟨5, .data⟩ (by simp) rfl
        rw [if_pos (show Region.wanted _ _ = true from rfl)]
        refine wp_val (v := .agg #[.string ⟨#[111, 112]⟩, .int .i64 3]) (w' := X) ?_ ⟨mb, e, rfl, hB, hm, he, i12⟩
        simp [execOp, go_sem, Act.eval, caT3, s2, s5]
      · injection ho with ho
        subst ho
        have s0 : S 0 = true := hp ⟨0, .data⟩ (by simp) rfl
        have s6 : S 6 = true := hp ⟨6, .data⟩ (by simp) rfl
        rw [if_pos (show Region.wanted _ _ = true from rfl)]
        have hrun := pred_look X mb 0 (by omega) (hm s0).2
        refine wp_val (v := .tuple #[.agg #[.func (.func 113) #[] #[]], .bool true]) (w' := X) ?_ ⟨mb, e, rfl, hB, hm, he, i12⟩
        rw [show (execOp (Act.eval (caT3 (.agg #[.slice OA on oc, .int .i64 q, .int .i64 u, .bool c, .bool d, .slice none 0 0]) (.agg #[.int .i64 3, .int .i64 gn, .string ⟨#[111, 112]⟩, .slice AA 3 ac]) cv (.slice AA 3 ac) (.agg #[.string ⟨#[111, 112]⟩, .int .i64 3]) (.agg #[.func (.func 113) #[] #[]]) ⟨#[111, 112]⟩ w.heap.size S mb e)) _ : Sem Next) = (Instr.lookup 94 (.map (some mb)) (keyV (pNm 0) (pAr 0)) true >>= fun v => pure (Next.value v)) by simp [execOp, Act.eval, caT3, s0, s6]; rfl]
        simp [go_sem, hrun]
        rfl
      · injection ho with ho
        subst ho
        have s7 : S 7 = true := hp ⟨7, .data⟩ (by simp) rfl
        rw [if_pos (show Region.wanted _ _ = true from rfl)]
        refine wp_val (v := .tuple #[.agg #[.func (.func 113) #[] #[]], .bool true]) (w' := X) ?_ ⟨mb, e, rfl, hB, hm, he, i12⟩
        simp [execOp, go_sem, Act.eval, caT3, s7]
      · injection ho with ho
        subst ho
        have s8 : S 8 = true := hp ⟨8, .data⟩ (by simp) rfl
        rw [if_pos (show Region.wanted _ _ = true from rfl)]
        refine wp_val (v := .agg #[.func (.func 113) #[] #[]]) (w' := X) ?_ ⟨mb, e, rfl, hB, hm, he, i12⟩
        simp [execOp, go_sem, Act.eval, caT3, s8]
      · injection ho with ho
        subst ho
        have s8 : S 8 = true := hp ⟨8, .data⟩ (by simp) rfl
        rw [if_pos (show Region.wanted _ _ = true from rfl)]
        refine wp_val (v := .bool true) (w' := X) ?_ ⟨mb, e, rfl, hB, hm, he, i12⟩
        simp [execOp, go_sem, Act.eval, caT3, s8]
      · injection ho with ho
        subst ho
        rw [if_pos (show Region.wanted _ _ = true from rfl)]
        refine wp_val (v := .pointer (some ⟨X.heap.size, 0, none⟩)) (w' := X.alloc (.cells #[.nilFunc] 92)) ?_ ⟨mb, X.heap.size, rfl, hB.alloc hB.size _, fun h => ⟨(hm h).1, pred_keep (hm h).2 (Below.heap_alloc _ _ _ (pred_map (hm h).2).1)⟩, fun _ => ⟨hB.size, by rw [if_neg (show ¬ updF S 11 12 = true from fun h => absurd (i12 h) (by rw [hs]; simp))]; exact Bk.new X [.nilFunc] 92⟩, fun _ => rfl⟩
        simp [execOp, go_sem]
      · injection ho with ho
        subst ho
        have s11 : S 11 = true := hp ⟨11, .data⟩ (by simp) rfl
        have s9 : S 9 = true := hp ⟨9, .data⟩ (by simp) rfl
        rw [if_pos (show Region.wanted _ _ = true from rfl)]
        have hk := (he s11).2
        rw [if_neg (by rw [hs]; simp)] at hk
        have z0 := hk.c 0 .nilFunc rfl
        have f0 := hk.f 0
        refine wp_skp (w' := X.setCell ⟨e, 0, none⟩ (.func (.func 113) #[] #[])) ?_ ⟨mb, e, rfl, hB.setCell (p := ⟨_, _, none⟩) (he s11).1 _, fun h => ⟨(hm h).1, pred_keep (hm h).2 (heap_setCell_other _ _ _ _ (fun e' => ?ne))⟩, fun _ => ⟨(he s11).1, by rw [if_pos (show updF S 12 12 = true from rfl)]; exact hk.set 0 _⟩, fun _ => s11⟩
        case ne =>
          obtain ⟨es, ck, hmm⟩ := (pred_map (hm h).2).2
          obtain ⟨ty, hke⟩ := hk
          have e2 : mb = e := e'
          rw [e2, hke] at hmm
          cases hmm
        simp [execOp, go_sem, Act.eval, caT3, s11, s9, z0, f0]
      · injection ho with ho
        subst ho
        have s10 : S 10 = true := hp ⟨10, .data⟩ (by simp) rfl
        rw [if_pos (show Region.wanted _ _ = true from rfl)]
        refine wp_val (v := .bool true) (w' := X) ?_ ⟨mb, e, rfl, hB, hm, he, i12⟩
        simp [execOp, go_sem, Act.eval, caT3, s10]
    case fin =>
      rintro S a W2 hall ⟨mb, e, rfl, hB, -, he, -⟩
      have s0 : S 0 = true := hall 0 (show 0 < 14 by omega)
      have s1 : S 1 = true := hall 1 (show 1 < 14 by omega)
      have s2 : S 2 = true := hall 2 (show 2 < 14 by omega)
      have s3 : S 3 = true := hall 3 (show 3 < 14 by omega)
      have s4 : S 4 = true := hall 4 (show 4 < 14 by omega)
      have s5 : S 5 = true := hall 5 (show 5 < 14 by omega)
      have s6 : S 6 = true := hall 6 (show 6 < 14 by omega)
      have s7 : S 7 = true := hall 7 (show 7 < 14 by omega)
      have s8 : S 8 = true := hall 8 (show 8 < 14 by omega)
      have s9 : S 9 = true := hall 9 (show 9 < 14 by omega)
      have s10 : S 10 = true := hall 10 (show 10 < 14 by omega)
      have s11 : S 11 = true := hall 11 (show 11 < 14 by omega)
      have s12 : S 12 = true := hall 12 (show 12 < 14 by omega)
      have s13 : S 13 = true := hall 13 (show 13 < 14 by omega)
      have he0 := (he s11).2
      rw [if_pos s12] at he0
      have HE := Lib.hid he0
      have HBL2 := Lib.hid (HBL1.out.trans (hB.mono HBL1.out.size))
      have HBK2 := Lib.hid (HBK1.out.keep fun x hx => hB.block x.1 (HBK1.out.bk x hx).lt)
      refine hK3 _ _ ?_
      simp only [caT3, s0, s1, s2, s3, s4, s5, s6, s7, s8, s9, s10, s11, s13, if_true]
      clear hall hB he he0 HBL1 HBK1 hK3 lg s0 s1 s2 s3 s4 s5 s6 s7 s8 s9 s10 s11 s12 s13 bg_0 bg_1 bg_2 bg_3
      have dg_0 : W2.cell? ⟨w.heap.size + 1, 0, none⟩ = some (.int .i64 3) := HBK2.out.cell 2 0 rfl rfl
      have dg_1 : W2.cell? ⟨w.heap.size + 1, 1, none⟩ = some (.int .i64 gn) := HBK2.out.cell 2 1 rfl rfl
      have dg_2 : W2.cell? ⟨w.heap.size + 1, 2, none⟩ = some (.string ⟨#[111, 112]⟩) := HBK2.out.cell 2 2 rfl rfl
      have dg_3 : W2.cell? ⟨w.heap.size + 1, 3, none⟩ = some (.slice AA 3 ac) := HBK2.out.cell 2 3 rfl rfl
      go_wp2_with fail
      rename_i K6 hK6
      have ks_0 : W2.cell? ⟨w.heap.size, 0, none⟩ = some (.slice OA on oc) := HBK2.out.cell 3 0 rfl rfl
      have ks_1 : W2.cell? ⟨w.heap.size, 1, none⟩ = some (.int .i64 q) := HBK2.out.cell 3 1 rfl rfl
      have ks_2 : W2.cell? ⟨w.heap.size, 2, none⟩ = some (.int .i64 u) := HBK2.out.cell 3 2 rfl rfl
      have ks_3 : W2.cell? ⟨w.heap.size, 3, none⟩ = some (.bool c) := HBK2.out.cell 3 3 rfl rfl
      have ks_4 : W2.cell? ⟨w.heap.size, 4, none⟩ = some (.bool d) := HBK2.out.cell 3 4 rfl rfl
      have ks_5 : W2.cell? ⟨w.heap.size, 5, none⟩ = some (.slice none 0 0) := HBK2.out.cell 3 5 rfl rfl
      have ls : w.heap.size < W2.heap.size := HBK2.out.lt 3 rfl
      refine wp_region_any (by kernel_rfl) ?_
      refine wpAny_inv (fun S a X => ∃ OB oB e6, a = (caT6 (.agg #[.slice OA on oc, .int .i64 q, .int .i64 u, .bool c, .bool d, .slice none 0 0]) (.agg #[.int .i64 3, .int .i64 gn, .string ⟨#[111, 112]⟩, .slice AA 3 ac]) cv (.slice AA 3 ac) (.agg #[.string ⟨#[111, 112]⟩, .int .i64 3]) (.agg #[.func (.func 113) #[] #[]]) (.slice OA on oc) (.agg #[.int .i64 q, .int .i64 u, .bool c, .bool d]) ⟨#[111, 112]⟩ w.heap.size mb e S (.slice OB on oB) (.agg #[.slice OB on oB, .int .i64 q, .int .i64 u, .bool c, .bool d, .slice none 0 0]) e6) ∧ Below W2.heap.size W2 X ∧ (S 2 = true → Tab X OB on oB l) ∧ (S 9 = true → W2.heap.size ≤ e6 ∧ Bk X e6 (if S 10 = true then [.slice OB on oB, .int .i64 q, .int .i64 u, .bool c, .bool d, .slice none 0 0] else [.slice none 0 0, .int .i64 0, .int .i64 0, .bool false, .bool false, .slice none 0 0])) ∧ (S 10 = true → S 9 = true) ∧ (S 8 = true → S 2 = true) ∧ (S 10 = true → S 8 = true)) (by kernel_rfl) ?step ?fin 11 (fun _ => false) _ _ (by decide) ⟨none, 0, 0, rfl, (Below.refl _ W2).drew, fun h => (by cases h), fun h => (by cases h), fun h => (by cases h), fun h => (by cases h), fun h => (by cases h)⟩
      case step =>
        rintro S j o a X ho hs hp ⟨OB, oB, e6, rfl, hB, hT, h6, i10, j8, j10⟩
        have hlt : j < 11 := (Array.getElem?_eq_some_iff.1 ho).1
        rcases (show j = 0 ∨ j = 1 ∨ j = 2 ∨ j = 3 ∨ j = 4 ∨ j = 5 ∨ j = 6 ∨ j = 7 ∨ j = 8 ∨ j = 9 ∨ j = 10 by omega) with rfl | rfl | rfl | rfl | rfl | rfl | rfl | rfl | rfl | rfl | rfl
        · injection ho with ho
          subst ho
          rw [if_pos (show Region.wanted _ _ = true from rfl)]
          refine wp_val (v := .pointer (some ⟨w.heap.size, 0, none⟩)) (w' := X) ?_ ⟨OB, oB, e6, rfl, hB, hT, h6, i10, j8, j10⟩
          simp [execOp, go_sem, Act.eval, caT6]
        · injection ho with ho
          subst ho
          have s0 : S 0 = true := hp ⟨0, .data⟩ (by simp) rfl
          have xs0 : X.cell? ⟨w.heap.size, 0, none⟩ = some (.slice OA on oc) := (hB.cell (p := ⟨_, 0, none⟩) ls).trans ks_0
          rw [if_pos (show Region.wanted _ _ = true from rfl)]
          refine wp_val (v := .slice OA on oc) (w' := X) ?_ ⟨OB, oB, e6, rfl, hB, hT, h6, i10, j8, j10⟩
          simp [execOp, go_sem, Act.eval, caT6, s0, xs0]
        · injection ho with ho
          subst ho
          have s1 : S 1 = true := hp ⟨1, .data⟩ (by simp) rfl
          have h8 : S 8 = false := by
            cases h : S 8
            · rfl
            · exact absurd (j8 h) (by rw [hs]; simp)
          have h10 : S 10 = false := by
            cases h : S 10
            · rfl
            · exact absurd (j10 h) (by rw [h8]; simp)
          have ht := HTAB.out.below (HBL2.out.trans (hB.mono HBL2.out.size))
          have HCL : Calls Tryz.prog 69 #[.slice OA on oc] X fun e w' => ∃ v, e = .returned v ∧ ((∃ OC oC, v = Value.slice OC on oC ∧ Tab w' OC on oC l) ∧ Below X.heap.size X w') := (ops_clone OA on oc l X ht.len HON.out ht.ops ht.nil).mono fun e w' h => by
            obtain ⟨A', cap', he, hb, ho⟩ := h
            exact ⟨_, he, ⟨A', cap', rfl, Tab.own ho⟩, hb⟩
          rw [if_pos (show Region.wanted _ _ = true from rfl)]
          refine wp_cal ?_ (HCL) (fun v w' hR => ?_)
          · simp [execOp, go_sem, Act.eval, caT6, s1]
            try rfl
          · obtain ⟨⟨OC, oC, rfl, hT'⟩, hB'⟩ := hR
            refine ⟨OC, oC, e6, ?_, hB.trans (hB'.mono hB.size), fun _ => hT', fun h => ⟨(h6 h).1, ?_⟩, i10, fun _ => rfl, j10⟩
            · rw [caT6_rv (.agg #[.slice OC on oC, .int .i64 q, .int .i64 u, .bool c, .bool d, .slice none 0 0]) h8]; rfl
            · have hk := (h6 h).2.call hB'
              rw [if_neg (by rw [h10]; simp)] at hk
              rw [if_neg (show ¬ updF S 2 10 = true from fun hh => by rw [show updF S 2 10 = S 10 from rfl, h10] at hh; cases hh)]
              exact hk
        · injection ho with ho
          subst ho
          rw [if_pos (show Region.wanted _ _ = true from rfl)]
          refine wp_val (v := .pointer (some ⟨w.heap.size, 1, none⟩)) (w' := X) ?_ ⟨OB, oB, e6, rfl, hB, hT, h6, i10, j8, j10⟩
          simp [execOp, go_sem, Act.eval, caT6]
        · injection ho with ho
          subst ho
          have s3 : S 3 = true := hp ⟨3, .data⟩ (by simp) rfl
          have xs1 : X.cell? ⟨w.heap.size, 1, none⟩ = some (.int .i64 q) := (hB.cell (p := ⟨_, 1, none⟩) ls).trans ks_1
          have xs2 : X.cell? ⟨w.heap.size, 2, none⟩ = some (.int .i64 u) := (hB.cell (p := ⟨_, 2, none⟩) ls).trans ks_2
          have xs3 : X.cell? ⟨w.heap.size, 3, none⟩ = some (.bool c) := (hB.cell (p := ⟨_, 3, none⟩) ls).trans ks_3
          have xs4 : X.cell? ⟨w.heap.size, 4, none⟩ = some (.bool d) := (hB.cell (p := ⟨_, 4, none⟩) ls).trans ks_4
          rw [if_pos (show Region.wanted _ _ = true from rfl)]
          refine wp_val (v := .agg #[.int .i64 q, .int .i64 u, .bool c, .bool d]) (w' := X) ?_ ⟨OB, oB, e6, rfl, hB, hT, h6, i10, j8, j10⟩
          simp [execOp, go_sem, Act.eval, caT6, s3, xs1, xs2, xs3, xs4]
        · injection ho with ho
          subst ho
          rw [if_pos (show Region.wanted _ _ = true from rfl)]
          refine wp_val (v := .pointer (some ⟨w.heap.size, 5, none⟩)) (w' := X) ?_ ⟨OB, oB, e6, rfl, hB, hT, h6, i10, j8, j10⟩
          simp [execOp, go_sem, Act.eval, caT6]
        · injection ho with ho
          subst ho
          have s5 : S 5 = true := hp ⟨5, .data⟩ (by simp) rfl
          have xs5 : X.cell? ⟨w.heap.size, 5, none⟩ = some (.slice none 0 0) := (hB.cell (p := ⟨_, 5, none⟩) ls).trans ks_5
          rw [if_pos (show Region.wanted _ _ = true from rfl)]
          refine wp_val (v := .slice none 0 0) (w' := X) ?_ ⟨OB, oB, e6, rfl, hB, hT, h6, i10, j8, j10⟩
          simp [execOp, go_sem, Act.eval, caT6, s5, xs5]
        · injection ho with ho
          subst ho
          have s6 : S 6 = true := hp ⟨6, .data⟩ (by simp) rfl
          have HCN : Calls Tryz.prog 70 #[.slice none 0 0] X fun e w' => ∃ v, e = .returned v ∧ (v = Value.slice none 0 0 ∧ Below X.heap.size X w') := (clone_nil X).mono fun e w' h => ⟨_, h.1, rfl, h.2⟩
          rw [if_pos (show Region.wanted _ _ = true from rfl)]
          refine wp_cal ?_ (HCN) (fun v w' hR => ?_)
          · simp [execOp, go_sem, Act.eval, caT6, s6]
            try rfl
          · obtain ⟨rfl, hB'⟩ := hR
            exact ⟨OB, oB, e6, rfl, hB.trans (hB'.mono hB.size), fun h => (hT h).below hB', fun h => ⟨(h6 h).1, (h6 h).2.call hB'⟩, i10, j8, j10⟩
        · injection ho with ho
          subst ho
          have s2 : S 2 = true := hp ⟨2, .data⟩ (by simp) rfl
          have s4 : S 4 = true := hp ⟨4, .data⟩ (by simp) rfl
          have s7 : S 7 = true := hp ⟨7, .data⟩ (by simp) rfl
          rw [if_pos (show Region.wanted _ _ = true from rfl)]
          refine wp_val (v := .agg #[.slice OB on oB, .int .i64 q, .int .i64 u, .bool c, .bool d, .slice none 0 0]) (w' := X) ?_ ⟨OB, oB, e6, rfl, hB, hT, h6, i10, fun _ => s2, fun _ => rfl⟩
          simp [execOp, go_sem, Act.eval, caT6, s2, s4, s7]
        · injection ho with ho
          subst ho
          rw [if_pos (show Region.wanted _ _ = true from rfl)]
          refine wp_val (v := .pointer (some ⟨X.heap.size, 0, none⟩)) (w' := X.alloc (.cells #[.slice none 0 0, .int .i64 0, .int .i64 0, .bool false, .bool false, .slice none 0 0] 43)) ?_ ⟨OB, oB, X.heap.size, rfl, hB.alloc hB.size _, fun h => (hT h).below ((Below.refl _ _).alloc (Nat.le_refl _) _), fun _ => ⟨hB.size, by rw [if_neg (show ¬ updF S 9 10 = true from fun h => absurd (i10 h) (by rw [hs]; simp))]; exact Bk.new X [.slice none 0 0, .int .i64 0, .int .i64 0, .bool false, .bool false, .slice none 0 0] 43⟩, fun _ => rfl, j8, j10⟩
          simp [execOp, go_sem]
        · injection ho with ho
          subst ho
          have s9 : S 9 = true := hp ⟨9, .data⟩ (by simp) rfl
          have s8 : S 8 = true := hp ⟨8, .data⟩ (by simp) rfl
          rw [if_pos (show Region.wanted _ _ = true from rfl)]
          have hk := (h6 s9).2
          rw [if_neg (by rw [hs]; simp)] at hk
          have z0 := hk.c 0 (.slice none 0 0) rfl
          have f0 := hk.f 0
          have z1 := hk.c 1 (.int .i64 0) rfl
          have f1 := hk.f 1
          have z2 := hk.c 2 (.int .i64 0) rfl
          have f2 := hk.f 2
          have z3 := hk.c 3 (.bool false) rfl
          have f3 := hk.f 3
          have z4 := hk.c 4 (.bool false) rfl
          have f4 := hk.f 4
          have z5 := hk.c 5 (.slice none 0 0) rfl
          have f5 := hk.f 5
          refine wp_skp (w' := ((((((X.setCell ⟨e6, 0, none⟩ (.slice OB on oB)).setCell ⟨e6, 1, none⟩ (.int .i64 q)).setCell ⟨e6, 2, none⟩ (.int .i64 u)).setCell ⟨e6, 3, none⟩ (.bool c)).setCell ⟨e6, 4, none⟩ (.bool d)).setCell ⟨e6, 5, none⟩ (.slice none 0 0))) ?_ ⟨OB, oB, e6, rfl, ((((((hB.setCell (p := ⟨_, _, none⟩) (h6 s9).1 _).setCell (p := ⟨_, _, none⟩) (h6 s9).1 _).setCell (p := ⟨_, _, none⟩) (h6 s9).1 _).setCell (p := ⟨_, _, none⟩) (h6 s9).1 _).setCell (p := ⟨_, _, none⟩) (h6 s9).1 _).setCell (p := ⟨_, _, none⟩) (h6 s9).1 _), fun h => tab_boxes (L := [(e6, [.slice none 0 0, .int .i64 0, .int .i64 0, .bool false, .bool false, .slice none 0 0])]) (hT h) ⟨fun x hx => by rw [List.mem_singleton.1 hx]; exact hk, by simp⟩ (fun x hx => by
            rw [List.mem_singleton.1 hx]
            intro i s x
            rcases i with _ | _ | _ | _ | _ | _ | i <;> simp) (by simp) (fun k hk => by
            have hne := hk _ (List.mem_singleton.2 rfl)
            rw [heap_setCell_other _ _ _ _ hne, heap_setCell_other _ _ _ _ hne, heap_setCell_other _ _ _ _ hne, heap_setCell_other _ _ _ _ hne, heap_setCell_other _ _ _ _ hne, heap_setCell_other _ _ _ _ hne]), fun _ => ⟨(h6 s9).1, by rw [if_pos (show updF S 10 10 = true from rfl)]; exact ((((((hk.set 0 (.slice OB on oB)).set 1 (.int .i64 q)).set 2 (.int .i64 u)).set 3 (.bool c)).set 4 (.bool d)).set 5 (.slice none 0 0))⟩, fun _ => s9, j8, fun _ => s8⟩
          simp [execOp, go_sem, Act.eval, caT6, s9, s8, z0, z1, z2, z3, z4, z5, f0, f1, f2, f3, f4, f5]
      case fin =>
        rintro S a W3 hall ⟨OB, oB, e6, rfl, hB, hT, h6, -, -, -⟩
        have s0 : S 0 = true := hall 0 (show 0 < 11 by omega)
        have s1 : S 1 = true := hall 1 (show 1 < 11 by omega)
        have s2 : S 2 = true := hall 2 (show 2 < 11 by omega)
        have s3 : S 3 = true := hall 3 (show 3 < 11 by omega)
        have s4 : S 4 = true := hall 4 (show 4 < 11 by omega)
        have s5 : S 5 = true := hall 5 (show 5 < 11 by omega)
        have s6 : S 6 = true := hall 6 (show 6 < 11 by omega)
        have s7 : S 7 = true := hall 7 (show 7 < 11 by omega)
        have s8 : S 8 = true := hall 8 (show 8 < 11 by omega)
        have s9 : S 9 = true := hall 9 (show 9 < 11 by omega)
        have s10 : S 10 = true := hall 10 (show 10 < 11 by omega)
        have he0 := (h6 s9).2
        rw [if_pos s10] at he0
        have HE6 := Lib.hid he0
        have HT3 := Lib.hid (hT s2)
        have HBL3 := Lib.hid (HBL2.out.trans (hB.mono HBL2.out.size))
        have HBK3 := Lib.hid (HBK2.out.keep fun x hx => hB.block x.1 (HBK2.out.bk x hx).lt)
        have HE3 := Lib.hid (HE.out.keeps (hB.block _ HE.out.lt))
        refine hK6 _ _ ?_
        simp only [caT6, s0, s1, s2, s3, s4, s5, s6, s7, s8, s9, if_true]
        clear hall hB h6 hT he0 HE HBL2 HBK2 hK6 ls s0 s1 s2 s3 s4 s5 s6 s7 s8 s9 s10 ks_0 ks_1 ks_2 ks_3 ks_4 ks_5 dg_0 dg_1 dg_2 dg_3
        have dg_0 : W3.cell? ⟨w.heap.size + 1, 0, none⟩ = some (.int .i64 3) := HBK3.out.cell 2 0 rfl rfl
        have dg_1 : W3.cell? ⟨w.heap.size + 1, 1, none⟩ = some (.int .i64 gn) := HBK3.out.cell 2 1 rfl rfl
        have dg_2 : W3.cell? ⟨w.heap.size + 1, 2, none⟩ = some (.string ⟨#[111, 112]⟩) := HBK3.out.cell 2 2 rfl rfl
        have dg_3 : W3.cell? ⟨w.heap.size + 1, 3, none⟩ = some (.slice AA 3 ac) := HBK3.out.cell 2 3 rfl rfl
        have xe0 := HE3.out.c 0 (.func (.func 113) #[] #[]) rfl
        have xv0 := HE6.out.c 0 (.slice OB on oB) rfl
        have xv1 := HE6.out.c 1 (.int .i64 q) rfl
        have xv2 := HE6.out.c 2 (.int .i64 u) rfl
        have xv3 := HE6.out.c 3 (.bool c) rfl
        have xv4 := HE6.out.c 4 (.bool d) rfl
        have xv5 := HE6.out.c 5 (.slice none 0 0) rfl
        have HSO := Lib.hid (f_setOps OB on oB q u c d none 0 0 3 gn ⟨#[111, 112]⟩ AA ac p t n l W3 HT3.out HON.out ((HAA.out.keep HBL3.out).mono HBL3.out.size) HGV.out HVN.out HOK.out HSET.out)
        go_wp2_with fail
        refine HSO.out.mono ?_; rintro e' w8 ⟨OA', on', oc', rb, rfl, hB8, hT8, hR8⟩
        have HBL8 := Lib.hid (HBL3.out.trans (hB8.mono HBL3.out.size))
        have HBK8 := Lib.hid (HBK3.out.call hB8)
        have HT8 := Lib.hid hT8
        have HR8 := Lib.hid hR8
        have HL3 : Hid (∀ x ∈ ([(w.heap.size + 1 + 1 + 1, [.int .i64 0, .int .i64 0, .string ⟨#[]⟩, .slice none 0 0]), (w.heap.size + 1 + 1, [.slice none 0 0, .int .i64 0, .int .i64 0, .bool false, .bool false, .slice none 0 0]), (w.heap.size + 1, [.int .i64 3, .int .i64 gn, .string ⟨#[111, 112]⟩, .slice AA 3 ac]), (w.heap.size, [.slice OA on oc, .int .i64 q, .int .i64 u, .bool c, .bool d, .slice none 0 0])] : List (Nat × List Value)), x.1 < W3.heap.size) := Lib.hid fun x hx => (HBK3.out.bk x hx).lt
        clear hB8 hT8 hR8 HSO HBL3 HT3 HE3 HE6 HBK3 xe0 xv0 xv1 xv2 xv3 xv4 xv5 dg_0 dg_1 dg_2 dg_3
        have ja_0 : w8.cell? ⟨w.heap.size + 1 + 1, 0, none⟩ = some (.slice none 0 0) := HBK8.out.cell 1 0 rfl rfl
        have ja_1 : w8.cell? ⟨w.heap.size + 1 + 1, 1, none⟩ = some (.int .i64 0) := HBK8.out.cell 1 1 rfl rfl
        have ja_2 : w8.cell? ⟨w.heap.size + 1 + 1, 2, none⟩ = some (.int .i64 0) := HBK8.out.cell 1 2 rfl rfl
        have ja_3 : w8.cell? ⟨w.heap.size + 1 + 1, 3, none⟩ = some (.bool false) := HBK8.out.cell 1 3 rfl rfl
        have ja_4 : w8.cell? ⟨w.heap.size + 1 + 1, 4, none⟩ = some (.bool false) := HBK8.out.cell 1 4 rfl rfl
        have ja_5 : w8.cell? ⟨w.heap.size + 1 + 1, 5, none⟩ = some (.slice none 0 0) := HBK8.out.cell 1 5 rfl rfl
        have jc_0 : w8.cell? ⟨w.heap.size + 1 + 1 + 1, 0, none⟩ = some (.int .i64 0) := HBK8.out.cell 0 0 rfl rfl
        have jc_1 : w8.cell? ⟨w.heap.size + 1 + 1 + 1, 1, none⟩ = some (.int .i64 0) := HBK8.out.cell 0 1 rfl rfl
        have jc_2 : w8.cell? ⟨w.heap.size + 1 + 1 + 1, 2, none⟩ = some (.string ⟨#[]⟩) := HBK8.out.cell 0 2 rfl rfl
        have jc_3 : w8.cell? ⟨w.heap.size + 1 + 1 + 1, 3, none⟩ = some (.slice none 0 0) := HBK8.out.cell 0 3 rfl rfl
        have jaf0 : w8.frozen? ⟨w.heap.size + 1 + 1, 0, none⟩ = false := HBK8.out.fz 1 0 rfl
        have jaf1 : w8.frozen? ⟨w.heap.size + 1 + 1, 1, none⟩ = false := HBK8.out.fz 1 1 rfl
        have jaf2 : w8.frozen? ⟨w.heap.size + 1 + 1, 2, none⟩ = false := HBK8.out.fz 1 2 rfl
        have jaf3 : w8.frozen? ⟨w.heap.size + 1 + 1, 3, none⟩ = false := HBK8.out.fz 1 3 rfl
        have jaf4 : w8.frozen? ⟨w.heap.size + 1 + 1, 4, none⟩ = false := HBK8.out.fz 1 4 rfl
        have jaf5 : w8.frozen? ⟨w.heap.size + 1 + 1, 5, none⟩ = false := HBK8.out.fz 1 5 rfl
        have jcf0 : w8.frozen? ⟨w.heap.size + 1 + 1 + 1, 0, none⟩ = false := HBK8.out.fz 0 0 rfl
        have jcf1 : w8.frozen? ⟨w.heap.size + 1 + 1 + 1, 1, none⟩ = false := HBK8.out.fz 0 1 rfl
        have jcf2 : w8.frozen? ⟨w.heap.size + 1 + 1 + 1, 2, none⟩ = false := HBK8.out.fz 0 2 rfl
        have jcf3 : w8.frozen? ⟨w.heap.size + 1 + 1 + 1, 3, none⟩ = false := HBK8.out.fz 0 3 rfl
        have hzk : ∀ k, k ≠ w.heap.size + 1 + 1 → k ≠ w.heap.size + 1 + 1 + 1 → (((((((((((((((((((((w8.setCell ⟨w.heap.size + 1 + 1, 0, none⟩ (.slice OA' on' oc')).setCell ⟨w.heap.size + 1 + 1, 1, none⟩ (.int .i64 q)).setCell ⟨w.heap.size + 1 + 1, 2, none⟩ (.int .i64 u)).setCell ⟨w.heap.size + 1 + 1, 3, none⟩ (.bool c)).setCell ⟨w.heap.size + 1 + 1, 4, none⟩ (.bool d)).setCell ⟨w.heap.size + 1 + 1, 5, none⟩ (.slice none 0 0)).setCell ⟨w.heap.size + 1 + 1 + 1, 0, none⟩ (.int .i64 0)).setCell ⟨w.heap.size + 1 + 1 + 1, 1, none⟩ (.int .i64 0)).setCell ⟨w.heap.size + 1 + 1 + 1, 2, none⟩ (.string ⟨#[]⟩)).setCell ⟨w.heap.size + 1 + 1 + 1, 3, none⟩ (.slice none 0 0)).setCell ⟨w.heap.size + 1 + 1, 0, none⟩ (.slice OA' on' oc')).setCell ⟨w.heap.size + 1 + 1, 1, none⟩ (.int .i64 q)).setCell ⟨w.heap.size + 1 + 1, 2, none⟩ (.int .i64 u)).setCell ⟨w.heap.size + 1 + 1, 3, none⟩ (.bool c)).setCell ⟨w.heap.size + 1 + 1, 4, none⟩ (.bool d)).setCell ⟨w.heap.size + 1 + 1, 5, none⟩ (.slice none 0 0)).setCell ⟨w.heap.size + 1 + 1 + 1, 0, none⟩ (.int .i64 0)).setCell ⟨w.heap.size + 1 + 1 + 1, 1, none⟩ (.int .i64 0)).setCell ⟨w.heap.size + 1 + 1 + 1, 2, none⟩ (.string ⟨#[]⟩)).setCell ⟨w.heap.size + 1 + 1 + 1, 3, none⟩ (.slice none 0 0))).heap[k]? = w8.heap[k]? := fun k k2 k3 => by
          rw [heap_setCell_other _ _ _ _ k3, heap_setCell_other _ _ _ _ k3, heap_setCell_other _ _ _ _ k3, heap_setCell_other _ _ _ _ k3, heap_setCell_other _ _ _ _ k2, heap_setCell_other _ _ _ _ k2, heap_setCell_other _ _ _ _ k2, heap_setCell_other _ _ _ _ k2, heap_setCell_other _ _ _ _ k2, heap_setCell_other _ _ _ _ k2, heap_setCell_other _ _ _ _ k3, heap_setCell_other _ _ _ _ k3, heap_setCell_other _ _ _ _ k3, heap_setCell_other _ _ _ _ k3, heap_setCell_other _ _ _ _ k2, heap_setCell_other _ _ _ _ k2, heap_setCell_other _ _ _ _ k2, heap_setCell_other _ _ _ _ k2, heap_setCell_other _ _ _ _ k2, heap_setCell_other _ _ _ _ k2]
        have hk1 : Bks _ [(w.heap.size + 1 + 1 + 1, [.int .i64 0, .int .i64 0, .string ⟨#[]⟩, .slice none 0 0]), (w.heap.size + 1 + 1, [.slice OA' on' oc', .int .i64 q, .int .i64 u, .bool c, .bool d, .slice none 0 0]), (w.heap.size + 1, [.int .i64 3, .int .i64 gn, .string ⟨#[111, 112]⟩, .slice AA 3 ac]), (w.heap.size, [.slice OA on oc, .int .i64 q, .int .i64 u, .bool c, .bool d, .slice none 0 0])] := HBK8.out.set6 1 rfl (.slice OA' on' oc') (.int .i64 q) (.int .i64 u) (.bool c) (.bool d) (.slice none 0 0)
        have hk2 : Bks _ [(w.heap.size + 1 + 1 + 1, [.int .i64 0, .int .i64 0, .string ⟨#[]⟩, .slice none 0 0]), (w.heap.size + 1 + 1, [.slice OA' on' oc', .int .i64 q, .int .i64 u, .bool c, .bool d, .slice none 0 0]), (w.heap.size + 1, [.int .i64 3, .int .i64 gn, .string ⟨#[111, 112]⟩, .slice AA 3 ac]), (w.heap.size, [.slice OA on oc, .int .i64 q, .int .i64 u, .bool c, .bool d, .slice none 0 0])] := hk1.set4 0 rfl (.int .i64 0) (.int .i64 0) (.string ⟨#[]⟩) (.slice none 0 0)
        have hk3 : Bks _ [(w.heap.size + 1 + 1 + 1, [.int .i64 0, .int .i64 0, .string ⟨#[]⟩, .slice none 0 0]), (w.heap.size + 1 + 1, [.slice OA' on' oc', .int .i64 q, .int .i64 u, .bool c, .bool d, .slice none 0 0]), (w.heap.size + 1, [.int .i64 3, .int .i64 gn, .string ⟨#[111, 112]⟩, .slice AA 3 ac]), (w.heap.size, [.slice OA on oc, .int .i64 q, .int .i64 u, .bool c, .bool d, .slice none 0 0])] := hk2.set6 1 rfl (.slice OA' on' oc') (.int .i64 q) (.int .i64 u) (.bool c) (.bool d) (.slice none 0 0)
        have hBKz : Bks (((((((((((((((((((((w8.setCell ⟨w.heap.size + 1 + 1, 0, none⟩ (.slice OA' on' oc')).setCell ⟨w.heap.size + 1 + 1, 1, none⟩ (.int .i64 q)).setCell ⟨w.heap.size + 1 + 1, 2, none⟩ (.int .i64 u)).setCell ⟨w.heap.size + 1 + 1, 3, none⟩ (.bool c)).setCell ⟨w.heap.size + 1 + 1, 4, none⟩ (.bool d)).setCell ⟨w.heap.size + 1 + 1, 5, none⟩ (.slice none 0 0)).setCell ⟨w.heap.size + 1 + 1 + 1, 0, none⟩ (.int .i64 0)).setCell ⟨w.heap.size + 1 + 1 + 1, 1, none⟩ (.int .i64 0)).setCell ⟨w.heap.size + 1 + 1 + 1, 2, none⟩ (.string ⟨#[]⟩)).setCell ⟨w.heap.size + 1 + 1 + 1, 3, none⟩ (.slice none 0 0)).setCell ⟨w.heap.size + 1 + 1, 0, none⟩ (.slice OA' on' oc')).setCell ⟨w.heap.size + 1 + 1, 1, none⟩ (.int .i64 q)).setCell ⟨w.heap.size + 1 + 1, 2, none⟩ (.int .i64 u)).setCell ⟨w.heap.size + 1 + 1, 3, none⟩ (.bool c)).setCell ⟨w.heap.size + 1 + 1, 4, none⟩ (.bool d)).setCell ⟨w.heap.size + 1 + 1, 5, none⟩ (.slice none 0 0)).setCell ⟨w.heap.size + 1 + 1 + 1, 0, none⟩ (.int .i64 0)).setCell ⟨w.heap.size + 1 + 1 + 1, 1, none⟩ (.int .i64 0)).setCell ⟨w.heap.size + 1 + 1 + 1, 2, none⟩ (.string ⟨#[]⟩)).setCell ⟨w.heap.size + 1 + 1 + 1, 3, none⟩ (.slice none 0 0))) [(w.heap.size + 1 + 1 + 1, [.int .i64 0, .int .i64 0, .string ⟨#[]⟩, .slice none 0 0]), (w.heap.size + 1 + 1, [.slice OA' on' oc', .int .i64 q, .int .i64 u, .bool c, .bool d, .slice none 0 0]), (w.heap.size + 1, [.int .i64 3, .int .i64 gn, .string ⟨#[111, 112]⟩, .slice AA 3 ac]), (w.heap.size, [.slice OA on oc, .int .i64 q, .int .i64 u, .bool c, .bool d, .slice none 0 0])] := hk3.set4 0 rfl (.int .i64 0) (.int .i64 0) (.string ⟨#[]⟩) (.slice none 0 0)
        have hBLz : Below w.heap.size w (((((((((((((((((((((w8.setCell ⟨w.heap.size + 1 + 1, 0, none⟩ (.slice OA' on' oc')).setCell ⟨w.heap.size + 1 + 1, 1, none⟩ (.int .i64 q)).setCell ⟨w.heap.size + 1 + 1, 2, none⟩ (.int .i64 u)).setCell ⟨w.heap.size + 1 + 1, 3, none⟩ (.bool c)).setCell ⟨w.heap.size + 1 + 1, 4, none⟩ (.bool d)).setCell ⟨w.heap.size + 1 + 1, 5, none⟩ (.slice none 0 0)).setCell ⟨w.heap.size + 1 + 1 + 1, 0, none⟩ (.int .i64 0)).setCell ⟨w.heap.size + 1 + 1 + 1, 1, none⟩ (.int .i64 0)).setCell ⟨w.heap.size + 1 + 1 + 1, 2, none⟩ (.string ⟨#[]⟩)).setCell ⟨w.heap.size + 1 + 1 + 1, 3, none⟩ (.slice none 0 0)).setCell ⟨w.heap.size + 1 + 1, 0, none⟩ (.slice OA' on' oc')).setCell ⟨w.heap.size + 1 + 1, 1, none⟩ (.int .i64 q)).setCell ⟨w.heap.size + 1 + 1, 2, none⟩ (.int .i64 u)).setCell ⟨w.heap.size + 1 + 1, 3, none⟩ (.bool c)).setCell ⟨w.heap.size + 1 + 1, 4, none⟩ (.bool d)).setCell ⟨w.heap.size + 1 + 1, 5, none⟩ (.slice none 0 0)).setCell ⟨w.heap.size + 1 + 1 + 1, 0, none⟩ (.int .i64 0)).setCell ⟨w.heap.size + 1 + 1 + 1, 1, none⟩ (.int .i64 0)).setCell ⟨w.heap.size + 1 + 1 + 1, 2, none⟩ (.string ⟨#[]⟩)).setCell ⟨w.heap.size + 1 + 1 + 1, 3, none⟩ (.slice none 0 0))) := ((((((((((((((((((((HBL8.out.setCell (p := ⟨w.heap.size + 1 + 1, _, none⟩) (show w.heap.size ≤ w.heap.size + 1 + 1 by omega) _).setCell (p := ⟨w.heap.size + 1 + 1, _, none⟩) (show w.heap.size ≤ w.heap.size + 1 + 1 by omega) _).setCell (p := ⟨w.heap.size + 1 + 1, _, none⟩) (show w.heap.size ≤ w.heap.size + 1 + 1 by omega) _).setCell (p := ⟨w.heap.size + 1 + 1, _, none⟩) (show w.heap.size ≤ w.heap.size + 1 + 1 by omega) _).setCell (p := ⟨w.heap.size + 1 + 1, _, none⟩) (show w.heap.size ≤ w.heap.size + 1 + 1 by omega) _).setCell (p := ⟨w.heap.size + 1 + 1, _, none⟩) (show w.heap.size ≤ w.heap.size + 1 + 1 by omega) _).setCell (p := ⟨w.heap.size + 1 + 1 + 1, _, none⟩) (show w.heap.size ≤ w.heap.size + 1 + 1 + 1 by omega) _).setCell (p := ⟨w.heap.size + 1 + 1 + 1, _, none⟩) (show w.heap.size ≤ w.heap.size + 1 + 1 + 1 by omega) _).setCell (p := ⟨w.heap.size + 1 + 1 + 1, _, none⟩) (show w.heap.size ≤ w.heap.size + 1 + 1 + 1 by omega) _).setCell (p := ⟨w.heap.size + 1 + 1 + 1, _, none⟩) (show w.heap.size ≤ w.heap.size + 1 + 1 + 1 by omega) _).setCell (p := ⟨w.heap.size + 1 + 1, _, none⟩) (show w.heap.size ≤ w.heap.size + 1 + 1 by omega) _).setCell (p := ⟨w.heap.size + 1 + 1, _, none⟩) (show w.heap.size ≤ w.heap.size + 1 + 1 by omega) _).setCell (p := ⟨w.heap.size + 1 + 1, _, none⟩) (show w.heap.size ≤ w.heap.size + 1 + 1 by omega) _).setCell (p := ⟨w.heap.size + 1 + 1, _, none⟩) (show w.heap.size ≤ w.heap.size + 1 + 1 by omega) _).setCell (p := ⟨w.heap.size + 1 + 1, _, none⟩) (show w.heap.size ≤ w.heap.size + 1 + 1 by omega) _).setCell (p := ⟨w.heap.size + 1 + 1, _, none⟩) (show w.heap.size ≤ w.heap.size + 1 + 1 by omega) _).setCell (p := ⟨w.heap.size + 1 + 1 + 1, _, none⟩) (show w.heap.size ≤ w.heap.size + 1 + 1 + 1 by omega) _).setCell (p := ⟨w.heap.size + 1 + 1 + 1, _, none⟩) (show w.heap.size ≤ w.heap.size + 1 + 1 + 1 by omega) _).setCell (p := ⟨w.heap.size + 1 + 1 + 1, _, none⟩) (show w.heap.size ≤ w.heap.size + 1 + 1 + 1 by omega) _).setCell (p := ⟨w.heap.size + 1 + 1 + 1, _, none⟩) (show w.heap.size ≤ w.heap.size + 1 + 1 + 1 by omega) _)
        have hszz : (((((((((((((((((((((w8.setCell ⟨w.heap.size + 1 + 1, 0, none⟩ (.slice OA' on' oc')).setCell ⟨w.heap.size + 1 + 1, 1, none⟩ (.int .i64 q)).setCell ⟨w.heap.size + 1 + 1, 2, none⟩ (.int .i64 u)).setCell ⟨w.heap.size + 1 + 1, 3, none⟩ (.bool c)).setCell ⟨w.heap.size + 1 + 1, 4, none⟩ (.bool d)).setCell ⟨w.heap.size + 1 + 1, 5, none⟩ (.slice none 0 0)).setCell ⟨w.heap.size + 1 + 1 + 1, 0, none⟩ (.int .i64 0)).setCell ⟨w.heap.size + 1 + 1 + 1, 1, none⟩ (.int .i64 0)).setCell ⟨w.heap.size + 1 + 1 + 1, 2, none⟩ (.string ⟨#[]⟩)).setCell ⟨w.heap.size + 1 + 1 + 1, 3, none⟩ (.slice none 0 0)).setCell ⟨w.heap.size + 1 + 1, 0, none⟩ (.slice OA' on' oc')).setCell ⟨w.heap.size + 1 + 1, 1, none⟩ (.int .i64 q)).setCell ⟨w.heap.size + 1 + 1, 2, none⟩ (.int .i64 u)).setCell ⟨w.heap.size + 1 + 1, 3, none⟩ (.bool c)).setCell ⟨w.heap.size + 1 + 1, 4, none⟩ (.bool d)).setCell ⟨w.heap.size + 1 + 1, 5, none⟩ (.slice none 0 0)).setCell ⟨w.heap.size + 1 + 1 + 1, 0, none⟩ (.int .i64 0)).setCell ⟨w.heap.size + 1 + 1 + 1, 1, none⟩ (.int .i64 0)).setCell ⟨w.heap.size + 1 + 1 + 1, 2, none⟩ (.string ⟨#[]⟩)).setCell ⟨w.heap.size + 1 + 1 + 1, 3, none⟩ (.slice none 0 0))).heap.size = w8.heap.size := by simp
        have hg2 := HL3.out (w.heap.size + 1 + 1, _) (List.mem_of_getElem? (i := 1) rfl)
        have hg3 := HL3.out (w.heap.size + 1 + 1 + 1, _) (List.mem_of_getElem? (i := 0) rfl)
        dsimp only at hg2 hg3
        have hTz : Tab (((((((((((((((((((((w8.setCell ⟨w.heap.size + 1 + 1, 0, none⟩ (.slice OA' on' oc')).setCell ⟨w.heap.size + 1 + 1, 1, none⟩ (.int .i64 q)).setCell ⟨w.heap.size + 1 + 1, 2, none⟩ (.int .i64 u)).setCell ⟨w.heap.size + 1 + 1, 3, none⟩ (.bool c)).setCell ⟨w.heap.size + 1 + 1, 4, none⟩ (.bool d)).setCell ⟨w.heap.size + 1 + 1, 5, none⟩ (.slice none 0 0)).setCell ⟨w.heap.size + 1 + 1 + 1, 0, none⟩ (.int .i64 0)).setCell ⟨w.heap.size + 1 + 1 + 1, 1, none⟩ (.int .i64 0)).setCell ⟨w.heap.size + 1 + 1 + 1, 2, none⟩ (.string ⟨#[]⟩)).setCell ⟨w.heap.size + 1 + 1 + 1, 3, none⟩ (.slice none 0 0)).setCell ⟨w.heap.size + 1 + 1, 0, none⟩ (.slice OA' on' oc')).setCell ⟨w.heap.size + 1 + 1, 1, none⟩ (.int .i64 q)).setCell ⟨w.heap.size + 1 + 1, 2, none⟩ (.int .i64 u)).setCell ⟨w.heap.size + 1 + 1, 3, none⟩ (.bool c)).setCell ⟨w.heap.size + 1 + 1, 4, none⟩ (.bool d)).setCell ⟨w.heap.size + 1 + 1, 5, none⟩ (.slice none 0 0)).setCell ⟨w.heap.size + 1 + 1 + 1, 0, none⟩ (.int .i64 0)).setCell ⟨w.heap.size + 1 + 1 + 1, 1, none⟩ (.int .i64 0)).setCell ⟨w.heap.size + 1 + 1 + 1, 2, none⟩ (.string ⟨#[]⟩)).setCell ⟨w.heap.size + 1 + 1 + 1, 3, none⟩ (.slice none 0 0))) OA' on' oc' (setAll (tyOf t.name) p.num l (nmL n)) := tab_boxes HT8.out (HBK8.out.tk 2) (fun x hx => by
          simp only [List.take_succ_cons, List.take_zero, List.mem_cons, List.mem_nil_iff, or_false] at hx
          rcases hx with rfl | rfl
          · intro i s x; rcases i with _ | _ | _ | _ | i <;> simp
          · intro i s x; rcases i with _ | _ | _ | _ | _ | _ | i <;> simp) (by rw [hszz]; exact Nat.le_refl _) (fun k hk => hzk k (hk _ (List.mem_of_getElem? (i := 1) rfl)) (hk _ (List.mem_of_getElem? (i := 0) rfl)))
        have hw3 : w.heap.size ≤ W3.heap.size := by omega
        have hRz : TmsK (fun k => w.heap.size ≤ k ∧ k < (((((((((((((((((((((w8.setCell ⟨w.heap.size + 1 + 1, 0, none⟩ (.slice OA' on' oc')).setCell ⟨w.heap.size + 1 + 1, 1, none⟩ (.int .i64 q)).setCell ⟨w.heap.size + 1 + 1, 2, none⟩ (.int .i64 u)).setCell ⟨w.heap.size + 1 + 1, 3, none⟩ (.bool c)).setCell ⟨w.heap.size + 1 + 1, 4, none⟩ (.bool d)).setCell ⟨w.heap.size + 1 + 1, 5, none⟩ (.slice none 0 0)).setCell ⟨w.heap.size + 1 + 1 + 1, 0, none⟩ (.int .i64 0)).setCell ⟨w.heap.size + 1 + 1 + 1, 1, none⟩ (.int .i64 0)).setCell ⟨w.heap.size + 1 + 1 + 1, 2, none⟩ (.string ⟨#[]⟩)).setCell ⟨w.heap.size + 1 + 1 + 1, 3, none⟩ (.slice none 0 0)).setCell ⟨w.heap.size + 1 + 1, 0, none⟩ (.slice OA' on' oc')).setCell ⟨w.heap.size + 1 + 1, 1, none⟩ (.int .i64 q)).setCell ⟨w.heap.size + 1 + 1, 2, none⟩ (.int .i64 u)).setCell ⟨w.heap.size + 1 + 1, 3, none⟩ (.bool c)).setCell ⟨w.heap.size + 1 + 1, 4, none⟩ (.bool d)).setCell ⟨w.heap.size + 1 + 1, 5, none⟩ (.slice none 0 0)).setCell ⟨w.heap.size + 1 + 1 + 1, 0, none⟩ (.int .i64 0)).setCell ⟨w.heap.size + 1 + 1 + 1, 1, none⟩ (.int .i64 0)).setCell ⟨w.heap.size + 1 + 1 + 1, 2, none⟩ (.string ⟨#[]⟩)).setCell ⟨w.heap.size + 1 + 1 + 1, 3, none⟩ (.slice none 0 0))).heap.size) (((((((((((((((((((((w8.setCell ⟨w.heap.size + 1 + 1, 0, none⟩ (.slice OA' on' oc')).setCell ⟨w.heap.size + 1 + 1, 1, none⟩ (.int .i64 q)).setCell ⟨w.heap.size + 1 + 1, 2, none⟩ (.int .i64 u)).setCell ⟨w.heap.size + 1 + 1, 3, none⟩ (.bool c)).setCell ⟨w.heap.size + 1 + 1, 4, none⟩ (.bool d)).setCell ⟨w.heap.size + 1 + 1, 5, none⟩ (.slice none 0 0)).setCell ⟨w.heap.size + 1 + 1 + 1, 0, none⟩ (.int .i64 0)).setCell ⟨w.heap.size + 1 + 1 + 1, 1, none⟩ (.int .i64 0)).setCell ⟨w.heap.size + 1 + 1 + 1, 2, none⟩ (.string ⟨#[]⟩)).setCell ⟨w.heap.size + 1 + 1 + 1, 3, none⟩ (.slice none 0 0)).setCell ⟨w.heap.size + 1 + 1, 0, none⟩ (.slice OA' on' oc')).setCell ⟨w.heap.size + 1 + 1, 1, none⟩ (.int .i64 q)).setCell ⟨w.heap.size + 1 + 1, 2, none⟩ (.int .i64 u)).setCell ⟨w.heap.size + 1 + 1, 3, none⟩ (.bool c)).setCell ⟨w.heap.size + 1 + 1, 4, none⟩ (.bool d)).setCell ⟨w.heap.size + 1 + 1, 5, none⟩ (.slice none 0 0)).setCell ⟨w.heap.size + 1 + 1 + 1, 0, none⟩ (.int .i64 0)).setCell ⟨w.heap.size + 1 + 1 + 1, 1, none⟩ (.int .i64 0)).setCell ⟨w.heap.size + 1 + 1 + 1, 2, none⟩ (.string ⟨#[]⟩)).setCell ⟨w.heap.size + 1 + 1 + 1, 3, none⟩ (.slice none 0 0))) (some ⟨rb, 0, none⟩) [(.mk 3 gn ⟨#[111, 112]⟩ [p, t, n])] := HR8.out.keep (fun k hk => hzk k (by omega) (by omega)) (fun k hk => ⟨by omega, by rw [hszz]; exact hk.2⟩)
        obtain ⟨wz, HWZ⟩ : ∃ wz, Hid (wz = ((((((((((((((((((((w8.setCell ⟨w.heap.size + 1 + 1, 0, none⟩ (.slice OA' on' oc')).setCell ⟨w.heap.size + 1 + 1, 1, none⟩ (.int .i64 q)).setCell ⟨w.heap.size + 1 + 1, 2, none⟩ (.int .i64 u)).setCell ⟨w.heap.size + 1 + 1, 3, none⟩ (.bool c)).setCell ⟨w.heap.size + 1 + 1, 4, none⟩ (.bool d)).setCell ⟨w.heap.size + 1 + 1, 5, none⟩ (.slice none 0 0)).setCell ⟨w.heap.size + 1 + 1 + 1, 0, none⟩ (.int .i64 0)).setCell ⟨w.heap.size + 1 + 1 + 1, 1, none⟩ (.int .i64 0)).setCell ⟨w.heap.size + 1 + 1 + 1, 2, none⟩ (.string ⟨#[]⟩)).setCell ⟨w.heap.size + 1 + 1 + 1, 3, none⟩ (.slice none 0 0)).setCell ⟨w.heap.size + 1 + 1, 0, none⟩ (.slice OA' on' oc')).setCell ⟨w.heap.size + 1 + 1, 1, none⟩ (.int .i64 q)).setCell ⟨w.heap.size + 1 + 1, 2, none⟩ (.int .i64 u)).setCell ⟨w.heap.size + 1 + 1, 3, none⟩ (.bool c)).setCell ⟨w.heap.size + 1 + 1, 4, none⟩ (.bool d)).setCell ⟨w.heap.size + 1 + 1, 5, none⟩ (.slice none 0 0)).setCell ⟨w.heap.size + 1 + 1 + 1, 0, none⟩ (.int .i64 0)).setCell ⟨w.heap.size + 1 + 1 + 1, 1, none⟩ (.int .i64 0)).setCell ⟨w.heap.size + 1 + 1 + 1, 2, none⟩ (.string ⟨#[]⟩)).setCell ⟨w.heap.size + 1 + 1 + 1, 3, none⟩ (.slice none 0 0))) := ⟨_, Lib.hid rfl⟩
        rw [← HWZ.out] at hBKz hBLz hTz hRz
        have HFC := Lib.hid (And.intro hBLz (And.intro hTz hRz))
        have HBKY := Lib.hid hBKz
        clear hk1 hk2 hk3 hzk hBKz hBLz hTz hRz hg2 hg3 hszz hw3
        go_wp2_with fail
        rw [← HWZ.out]
        have ma_0 : wz.cell? ⟨w.heap.size + 1 + 1, 0, none⟩ = some (.slice OA' on' oc') := HBKY.out.cell 1 0 rfl rfl
        have ma_1 : wz.cell? ⟨w.heap.size + 1 + 1, 1, none⟩ = some (.int .i64 q) := HBKY.out.cell 1 1 rfl rfl
        have ma_2 : wz.cell? ⟨w.heap.size + 1 + 1, 2, none⟩ = some (.int .i64 u) := HBKY.out.cell 1 2 rfl rfl
        have ma_3 : wz.cell? ⟨w.heap.size + 1 + 1, 3, none⟩ = some (.bool c) := HBKY.out.cell 1 3 rfl rfl
        have ma_4 : wz.cell? ⟨w.heap.size + 1 + 1, 4, none⟩ = some (.bool d) := HBKY.out.cell 1 4 rfl rfl
        have ma_5 : wz.cell? ⟨w.heap.size + 1 + 1, 5, none⟩ = some (.slice none 0 0) := HBKY.out.cell 1 5 rfl rfl
        have mc_0 : wz.cell? ⟨w.heap.size + 1 + 1 + 1, 0, none⟩ = some (.int .i64 0) := HBKY.out.cell 0 0 rfl rfl
        have mc_1 : wz.cell? ⟨w.heap.size + 1 + 1 + 1, 1, none⟩ = some (.int .i64 0) := HBKY.out.cell 0 1 rfl rfl
        have mc_2 : wz.cell? ⟨w.heap.size + 1 + 1 + 1, 2, none⟩ = some (.string ⟨#[]⟩) := HBKY.out.cell 0 2 rfl rfl
        have mc_3 : wz.cell? ⟨w.heap.size + 1 + 1 + 1, 3, none⟩ = some (.slice none 0 0) := HBKY.out.cell 0 3 rfl rfl
        exact bodyPost_ret (v := .tuple #[.agg #[.slice OA' on' oc', .int .i64 q, .int .i64 u, .bool c, .bool d, .slice none 0 0], .slice (some ⟨rb, 0, none⟩) 1 1, .agg #[.int .i64 0, .int .i64 0, .string ⟨#[]⟩, .slice none 0 0], .int .i64 0]) (by simp [results, Tryz.results30, go_sem, ma_0, ma_1, ma_2, ma_3, ma_4, ma_5, mc_0, mc_1, mc_2, mc_3]) rfl ⟨OA', on', oc', rb, rfl, HFC.out.1, HFC.out.2.1, HFC.out.2.2⟩
end Go.Proofs.YtfkhcpeahdkafaaGreat
