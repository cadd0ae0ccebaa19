/- Flags: Call at op/3, where nothing is wrong. Flags: the laws' helpers. Flags: the laws' example, in plain words. Flags: what Set keeps, in plain words. -/
import Derived.Test.YtfkhcpeahdkafaaGreatH15
import Derived.Test.YtfkhcpeahdkafaaGreatH05
import Derived.Test.YtfkhcpeahdkafaaGreatH06
import Derived.Test.YtfkhcpeahdkafaaGreatH14
import Derived.Test.YtfkhcpeahdkafaaGreatH16
namespace Hb
open Go Go.RowKit
def caT1 (sv gv cv : Value) (g : Nat) (S : Nat → Bool) : Act := ⟨#[sv, gv, .pointer (some ⟨g, 0, none⟩), .pointer (some ⟨g + 1, 0, none⟩), .pointer (some ⟨g + 1 + 1, 0, none⟩), .slice none 0 0, .pointer (some ⟨g + 1 + 1 + 1, 0, none⟩), .int .i64 0, undef, undef, undef, if S 0 = true then sv else undef, if S 1 = true then .bool true else undef, if S 2 = true then .bool false else undef, if S 3 = true then .bool false else undef, if S 4 = true then gv else undef, if S 5 = true then .bool true else undef, if S 6 = true then .bool false else undef, if S 7 = true then .bool false else undef, if S 8 = true then .bool false else undef, if S 9 = true then gv else undef, if S 10 = true then gv else undef, if S 11 = true then cv else undef, if S 12 = true then .bool true else undef, if S 13 = true then .bool false else undef, if S 14 = true then .bool false else undef, undef, undef, undef, undef, undef, undef, undef, undef, undef, undef, undef, undef, undef, undef, undef, undef, undef, undef, undef, undef, undef, undef, undef, undef, undef, undef, undef, undef, undef, undef, undef, undef, undef, undef, undef, undef, undef, undef, undef, undef, undef, undef, undef, undef, undef, undef, undef, undef, undef, undef, undef], []⟩
theorem Bks.set6 {X : World} {l : List (Nat × List Value)} (h : Bks X l) (j : Nat) {g : Nat} {u0 u1 u2 u3 u4 u5 : Value} (hx : l[j]? = some (g, [u0, u1, u2, u3, u4, u5])) (v0 v1 v2 v3 v4 v5 : Value) :
  Bks ((((((X.setCell ⟨g, 0, none⟩ v0).setCell ⟨g, 1, none⟩ v1).setCell ⟨g, 2, none⟩ v2).setCell ⟨g, 3, none⟩ v3).setCell ⟨g, 4, none⟩ v4).setCell ⟨g, 5, none⟩ v5) (l.set j (g, [v0, v1, v2, v3, v4, v5])) := by
 have hj : j < l.length := (List.getElem?_eq_some_iff.1 hx).1
 have h1 := h.set j 0 hx v0
 have h2 := h1.set j 1 (g := g) (vs := [v0, u1, u2, u3, u4, u5]) (by rw [List.getElem?_set]; simp [hj]) v1
 have h3 := h2.set j 2 (g := g) (vs := [v0, v1, u2, u3, u4, u5]) (by rw [List.getElem?_set]; simp [hj]) v2
 have h4 := h3.set j 3 (g := g) (vs := [v0, v1, v2, u3, u4, u5]) (by rw [List.getElem?_set]; simp [hj]) v3
 have h5 := h4.set j 4 (g := g) (vs := [v0, v1, v2, v3, u4, u5]) (by rw [List.getElem?_set]; simp [hj]) v4
 have h6 := h5.set j 5 (g := g) (vs := [v0, v1, v2, v3, v4, u5]) (by rw [List.getElem?_set]; simp [hj]) v5
 simpa using h6
theorem wp_cal {P : Program} {o : Oper} {a : Act} {X : World} {f : FuncId} {args : Array Value} {R : Value → World → Prop} {K : Act → World → Prop} {Q : Exit → Act → World → Prop} (hr : (execOp a.eval o).run P X = .ok (.enter f args) X) (hc : Calls P f args X fun e w' => ∃ v, e = .returned v ∧ R v w') (hK : ∀ v w', R v w' → K (a.put o.dst v) w') : o.wp P a X K Q := by
 unfold Oper.wp
 rw [hr, Oper.upon_enter]
 exact hc.mono fun e w' h => by
  obtain ⟨v, he, hR⟩ := h
  subst he
  exact hK v w' hR
end Hb
namespace Go.Proofs.YtfkhcpeahdkafaaGreat
open Go.RowKit Hb Go.Shelf
set_option maxRecDepth 100000
theorem pred_keep {X Y : World} {mb : Nat} (h : PredIs X mb) (hk : Y.heap[mb]? = X.heap[mb]?) : PredIs Y mb := by
 obtain ⟨n, D, hown, hhas, hat⟩ := h
 obtain ⟨es, clock, hb, rest⟩ := hown
 exact ⟨n, D, ⟨es, clock, hk.trans hb, rest⟩, hhas, hat⟩
theorem pred_map {X : World} {mb : Nat} (h : PredIs X mb) : mb < X.heap.size ∧ ∃ es clock, X.heap[mb]? = some (.map es clock) := by
 obtain ⟨n, D, hown, _⟩ := h
 obtain ⟨es, clock, hb, _⟩ := hown
 exact ⟨(Array.getElem?_eq_some_iff.1 hb).1, es, clock, hb⟩
end Go.Proofs.YtfkhcpeahdkafaaGreat
namespace Hb
open Go Go.RowKit
end Hb
namespace Go.Proofs.YtfkhcpeahdkafaaGreat
open Go.RowKit Hb
set_option maxRecDepth 100000
theorem law_atom (s : ByteArray) (w : World) : Calls Tryz.prog 34 #[.string s] w fun e w' => e = .returned (.agg #[.int .i64 2, .int .i64 0, .string s, .slice none 0 0]) ∧ Below w.heap.size w w' := by
 have hB := (Below.refl w.heap.size w).alloc (Nat.le_refl _) (.cells #[.int .i64 2, .int .i64 0, .string s, .slice none 0 0] 26)
 go_enter Tryz.func34, Tryz.ntmps34
 go_wp2_with fail
 exact bodyPost_ret (v := .agg #[.int .i64 2, .int .i64 0, .string s, .slice none 0 0]) (by simp [results, Tryz.results34, go_sem]) rfl ⟨rfl, hB⟩
theorem law_number (n : Int) (w : World) : Calls Tryz.prog 36 #[.int .i64 n] w fun e w' => e = .returned (.agg #[.int .i64 1, .int .i64 n, .string ⟨#[]⟩, .slice none 0 0]) ∧ Below w.heap.size w w' := by
 have hB := (Below.refl w.heap.size w).alloc (Nat.le_refl _) (.cells #[.int .i64 1, .int .i64 n, .string ⟨#[]⟩, .slice none 0 0] 26)
 go_enter Tryz.func36, Tryz.ntmps36
 go_wp2_with fail
 exact bodyPost_ret (v := .agg #[.int .i64 1, .int .i64 n, .string ⟨#[]⟩, .slice none 0 0]) (by simp [results, Tryz.results36, go_sem]) rfl ⟨rfl, hB⟩
theorem law_goal (s : ByteArray) (A : Option Addr) (n c : Nat) (w : World) : Calls Tryz.prog 35 #[.string s, .slice A n c] w fun e w' => e = .returned (.agg #[.int .i64 3, .int .i64 0, .string s, .slice A n c]) ∧ Below w.heap.size w w' := by
 have hB := (Below.refl w.heap.size w).alloc (Nat.le_refl _) (.cells #[.int .i64 3, .int .i64 0, .string s, .slice A n c] 26)
 go_enter Tryz.func35, Tryz.ntmps35
 go_wp2_with fail
 exact bodyPost_ret (v := .agg #[.int .i64 3, .int .i64 0, .string s, .slice A n c]) (by simp [results, Tryz.results35, go_sem]) rfl ⟨rfl, hB⟩
theorem law_same (t u : Tm) (A B : Option Addr) (c d : Nat) (w : World) (hT : TmsAt w.heap.size w A t.args) (hU : TmsAt w.heap.size w B u.args) :
  Calls Tryz.prog 18 #[tmV t A c, tmV u B d] w fun e w' => e = .returned (.bool (sameT t u)) ∧ Below w.heap.size w w' := by
 have HB := Lib.hid (((Below.refl w.heap.size w).alloc (Nat.le_refl _) (.cells #[.int .i64 t.kind, .int .i64 t.num, .string t.name, .slice A t.args.length c] 26)).alloc (by simp) (.cells #[.int .i64 u.kind, .int .i64 u.num, .string u.name, .slice B u.args.length d] 26))
 have HC := Lib.hid (r3_same t u A B c d _ ((hT.keep HB.out).mono HB.out.size) ((hU.keep HB.out).mono HB.out.size))
 unfold tmV at *
 go_enter Tryz.func18, Tryz.ntmps18
 go_wp2_with fail
 refine HC.out.mono ?_; rintro e w1 ⟨rfl, hB1⟩
 go_wp2_with fail
 go_ret
 exact ⟨rfl, HB.out.trans (hB1.mono HB.out.size)⟩
end Go.Proofs.YtfkhcpeahdkafaaGreat
namespace Hb
open Go Go.RowKit
theorem ex_get : getT flDef ⟨#[100, 111, 117, 98, 108, 101, 95, 113, 117, 111, 116, 101, 115]⟩ = atomT ⟨#[99, 111, 100, 101, 115]⟩ := by kernel_rfl
theorem ex_getE : getE flDef ⟨#[100, 111, 117, 98, 108, 101, 95, 113, 117, 111, 116, 101, 115]⟩ = 0 := by kernel_rfl
theorem ex_setE : setE flDef ⟨#[100, 101, 98, 117, 103]⟩ (atomT ⟨#[111, 110]⟩) = 0 := by
 have hv : validT (atomT ⟨#[111, 110]⟩) = true := by
  unfold validT
  rw [Tm.nodes_eq, Tm.allOk_eq]
  decide
 unfold setE
 rw [if_pos ⟨by decide, hv⟩, show fIx ⟨#[100, 101, 98, 117, 103]⟩ = 2 by kernel_rfl, if_pos (by omega), if_neg (by decide), if_pos ⟨rfl, by decide +kernel⟩]
theorem ex_setF : setF flDef ⟨#[100, 101, 98, 117, 103]⟩ (atomT ⟨#[111, 110]⟩) = ⟨1, 1, false, true⟩ := by
 unfold setF
 rw [if_pos ex_setE]
 kernel_rfl
theorem ex_opsV : opsValid defL = true := by kernel_rfl
theorem ex_set : (setR defL ⟨⟨#[105, 110]⟩, 1, 700⟩).2 = 0 := by kernel_rfl
theorem ex_setL : (setR defL ⟨⟨#[105, 110]⟩, 1, 700⟩).1.length = 42 := by kernel_rfl
theorem ex_find : findR (setR defL ⟨⟨#[105, 110]⟩, 1, 700⟩).1 ⟨#[105, 110]⟩ 2 = some ⟨⟨#[105, 110]⟩, 1, 700⟩ := by kernel_rfl
theorem ex_ty : tyOf ⟨#[120, 102, 120]⟩ = 1 := by kernel_rfl
theorem ex_one (t : Tm) (h : t.args = []) : t.nodes = 1 := by rw [Tm.nodes_eq, h]; rfl
theorem ex_leaf (k n : Int) (s : ByteArray) : (Tm.mk k n s []).allOk = nodeOk (.mk k n s []) := by
 rw [Tm.allOk_eq]
 exact Bool.and_true _
theorem ex_vn : validT (.mk 2 0 ⟨#[105, 110]⟩ []) = true := by
 unfold validT
 rw [ex_one _ rfl, ex_leaf]
 decide
theorem ex_vg : validT (.mk 3 0 ⟨#[111, 112]⟩ [(.mk 1 700 ⟨#[]⟩ []), (.mk 2 0 ⟨#[120, 102, 120]⟩ []), (.mk 2 0 ⟨#[105, 110]⟩ [])]) = true := by
 unfold validT
 rw [Tm.nodes_eq, Tm.allOk_eq]
 show (decide (1 + (((.mk 1 700 ⟨#[]⟩ []) : Tm).nodes + (((.mk 2 0 ⟨#[120, 102, 120]⟩ []) : Tm).nodes + (((.mk 2 0 ⟨#[105, 110]⟩ []) : Tm).nodes + 0))) ≤ 2000) && (nodeOk (.mk 3 0 ⟨#[111, 112]⟩ [(.mk 1 700 ⟨#[]⟩ []), (.mk 2 0 ⟨#[120, 102, 120]⟩ []), (.mk 2 0 ⟨#[105, 110]⟩ [])]) && (((.mk 1 700 ⟨#[]⟩ []) : Tm).allOk && (((.mk 2 0 ⟨#[120, 102, 120]⟩ []) : Tm).allOk && (((.mk 2 0 ⟨#[105, 110]⟩ []) : Tm).allOk && true))))) = true
 rw [ex_one _ rfl, ex_one _ rfl, ex_one _ rfl, ex_leaf, ex_leaf, ex_leaf]
 decide +kernel
theorem ex_el : elemsT (.mk 2 0 ⟨#[105, 110]⟩ []) = [] ∧ tailT (.mk 2 0 ⟨#[105, 110]⟩ []) = (.mk 2 0 ⟨#[105, 110]⟩ []) := by
 have h : Tm.cons (.mk 2 0 ⟨#[105, 110]⟩ []) = false := by decide +kernel
 exact ⟨elemsT_end h, tailT_end h⟩
theorem ex_names : nmL (.mk 2 0 ⟨#[105, 110]⟩ []) = [(.mk 2 0 ⟨#[105, 110]⟩ [])] := by
 unfold nmL
 rw [if_pos (by decide +kernel)]
theorem ex_chk : ChkOk (.mk 1 700 ⟨#[]⟩ []) (.mk 2 0 ⟨#[120, 102, 120]⟩ []) (.mk 2 0 ⟨#[105, 110]⟩ []) where
 v1 := by rw [ex_el.2]; rfl
 v2 := by rw [ex_el.1]; exact Bool.and_false _
 ta := rfl
 na := rfl
 all := by rw [ex_names]; intro x hx; rw [List.mem_singleton.1 hx]; rfl
 pr := by decide
 ty := by unfold isTypeT; rw [show tyOf (Tm.mk 2 0 ⟨#[120, 102, 120]⟩ []).name = 1 from ex_ty]; rfl
theorem ex_sets : SetsOk (tyOf ⟨#[120, 102, 120]⟩) 700 defL (nmL (.mk 2 0 ⟨#[105, 110]⟩ [])) := by
 rw [ex_names, ex_ty]
 intro pre x h
 have hl : pre = [] ∧ x = (.mk 2 0 ⟨#[105, 110]⟩ []) := by
  obtain ⟨r, hr⟩ := h
  cases pre with
  | nil => simp at hr; exact ⟨rfl, hr.1⟩
  | cons y ys => simp at hr
 rw [hl.1, hl.2]
 exact ex_set
theorem ren_leaf (f : Int → Int) (k n : Int) (s : ByteArray) (h : ¬ k = 0) : ren f (.mk k n s []) = .mk k n s [] := by
 rw [ren_eq]
 simp [Tm.kind, Tm.num, Tm.name, Tm.args, h]
theorem ex_can : canT (.mk 3 0 ⟨#[111, 112]⟩ [(.mk 1 700 ⟨#[]⟩ []), (.mk 2 0 ⟨#[120, 102, 120]⟩ []), (.mk 2 0 ⟨#[105, 110]⟩ [])]) = (.mk 3 0 ⟨#[111, 112]⟩ [(.mk 1 700 ⟨#[]⟩ []), (.mk 2 0 ⟨#[120, 102, 120]⟩ []), (.mk 2 0 ⟨#[105, 110]⟩ [])]) := by
 unfold canT
 rw [if_pos ex_vg, ren_eq]
 show Tm.mk 3 (if (3 : Int) = 0 then _ else 0) _ [ren _ (.mk 1 700 ⟨#[]⟩ []), ren _ (.mk 2 0 ⟨#[120, 102, 120]⟩ []), ren _ (.mk 2 0 ⟨#[105, 110]⟩ [])] = _
 rw [ren_leaf _ _ _ _ (by decide), ren_leaf _ _ _ _ (by decide), ren_leaf _ _ _ _ (by decide), if_neg (by decide)]
 rfl
theorem ex_same : sameT (.mk 3 0 ⟨#[111, 112]⟩ [(.mk 1 700 ⟨#[]⟩ []), (.mk 2 0 ⟨#[120, 102, 120]⟩ []), (.mk 2 0 ⟨#[105, 110]⟩ [])]) (canT (.mk 3 0 ⟨#[111, 112]⟩ [(.mk 1 700 ⟨#[]⟩ []), (.mk 2 0 ⟨#[120, 102, 120]⟩ []), (.mk 2 0 ⟨#[105, 110]⟩ [])])) = true := by
 rw [ex_can]
 unfold sameT
 rw [ex_vg, eqT_yes rfl]
 rfl
def exT (w2 w5 w9 w11 w12 : World) (rb : Option Addr) (rx : Nat) (A1 : Option Addr) (c1 : Nat) (sg sc : Nat) (OA' : Option Addr) (on' oc' : Nat) (CA' : Option Addr) (cc' : Nat) (S : Nat → Bool) (nv : Value) : Act := ⟨#[if S 37 = true then .bool true else .bool false, .pointer (some ⟨w2.heap.size, 0, none⟩), .int .i64 0, .pointer (some ⟨w5.heap.size, 0, none⟩), .int .i64 0, .pointer (some ⟨w11.heap.size, 0, none⟩), .slice rb 1 rx, .pointer (some ⟨w11.heap.size + 1, 0, none⟩), .int .i64 0, .pointer (some ⟨w12.heap.size, 0, none⟩), .bool true, .tuple #[.agg #[.int .i64 2, .int .i64 0, .string ⟨#[99, 111, 100, 101, 115]⟩, .slice A1 0 c1], .int .i64 0], .agg #[.int .i64 1, .int .i64 1, .bool false, .bool false], .tuple #[.agg #[.int .i64 2, .int .i64 0, .string ⟨#[99, 111, 100, 101, 115]⟩, .slice A1 0 c1], .int .i64 0], .agg #[.int .i64 2, .int .i64 0, .string ⟨#[99, 111, 100, 101, 115]⟩, .slice A1 0 c1], .int .i64 0, .tuple #[.agg #[.int .i64 1, .int .i64 1, .bool false, .bool true], .int .i64 0], .agg #[.int .i64 1, .int .i64 1, .bool false, .bool false], .agg #[.int .i64 2, .int .i64 0, .string ⟨#[111, 110]⟩, .slice none 0 0], .tuple #[.agg #[.int .i64 1, .int .i64 1, .bool false, .bool true], .int .i64 0], .agg #[.int .i64 1, .int .i64 1, .bool false, .bool true], .int .i64 0, .tuple #[.agg #[.slice OA' on' oc', .int .i64 1, .int .i64 1, .bool false, .bool false, .slice CA' 0 cc'], .slice rb 1 rx, .agg #[.int .i64 0, .int .i64 0, .string ⟨#[]⟩, .slice none 0 0], .int .i64 0], .agg #[.slice (some ⟨sg, 0, none⟩) 41 sc, .int .i64 1, .int .i64 1, .bool false, .bool false, .slice none 0 0], .agg #[.int .i64 1, .int .i64 700, .string ⟨#[]⟩, .slice none 0 0], .agg #[.int .i64 2, .int .i64 0, .string ⟨#[120, 102, 120]⟩, .slice none 0 0], .agg #[.int .i64 2, .int .i64 0, .string ⟨#[105, 110]⟩, .slice none 0 0], .slice (some ⟨w9.heap.size, 0, none⟩) 3 3, .agg #[.int .i64 3, .int .i64 0, .string ⟨#[111, 112]⟩, .slice (some ⟨w9.heap.size, 0, none⟩) 3 3], .tuple #[.agg #[.slice OA' on' oc', .int .i64 1, .int .i64 1, .bool false, .bool false, .slice CA' 0 cc'], .slice rb 1 rx, .agg #[.int .i64 0, .int .i64 0, .string ⟨#[]⟩, .slice none 0 0], .int .i64 0], .agg #[.slice OA' on' oc', .int .i64 1, .int .i64 1, .bool false, .bool false, .slice CA' 0 cc'], .slice rb 1 rx, .agg #[.int .i64 0, .int .i64 0, .string ⟨#[]⟩, .slice none 0 0], .int .i64 0, .tuple #[.agg #[.string ⟨#[105, 110]⟩, .int .i64 1, .int .i64 700], .bool true], .pointer (some ⟨w11.heap.size, 0, none⟩), .slice OA' on' oc', .tuple #[.agg #[.string ⟨#[105, 110]⟩, .int .i64 1, .int .i64 700], .bool true], .agg #[.string ⟨#[105, 110]⟩, .int .i64 1, .int .i64 700], .bool true, if S 0 = true then .int .i64 0 else undef, if S 1 = true then .bool true else undef, if S 2 = true then .bool true else undef, if S 3 = true then .agg #[.int .i64 2, .int .i64 0, .string ⟨#[99, 111, 100, 101, 115]⟩, .slice A1 0 c1] else undef, if S 4 = true then .agg #[.int .i64 2, .int .i64 0, .string ⟨#[99, 111, 100, 101, 115]⟩, .slice none 0 0] else undef, if S 5 = true then .bool true else undef, if S 6 = true then .bool true else undef, if S 7 = true then .bool true else undef, if S 8 = true then .int .i64 0 else undef, if S 9 = true then .bool true else undef, if S 10 = true then .bool true else undef, if S 11 = true then .bool true else undef, if S 12 = true then .pointer (some ⟨w5.heap.size, 3, none⟩) else undef, if S 13 = true then .bool true else undef, if S 14 = true then .bool true else undef, if S 15 = true then .bool true else undef, if S 16 = true then .int .i64 0 else undef, if S 17 = true then .bool true else undef, if S 18 = true then .bool true else undef, if S 19 = true then .bool true else undef, if S 20 = true then .slice rb 1 rx else undef, if S 21 = true then .int .i64 1 else undef, if S 22 = true then .bool true else undef, if S 23 = true then .bool true else undef, if S 24 = true then .bool true else undef, if S 25 = true then .bool true else undef, if S 26 = true then .bool true else undef, if S 27 = true then .bool true else undef, if S 28 = true then .pointer (some ⟨w12.heap.size, 2, none⟩) else undef, if S 29 = true then .int .i64 700 else undef, if S 30 = true then .bool true else undef, if S 31 = true then .bool true else undef, if S 32 = true then .bool true else undef, if S 33 = true then nv else undef, if S 34 = true then .int .i64 9 else undef, if S 35 = true then .bool true else undef, if S 36 = true then .bool true else undef], []⟩
end Hb
namespace Hb
open Go Go.RowKit
theorem leaf_valid {t : Tm} (h : t.args = []) : validT t = nodeOk t := by
 obtain ⟨k, n, s, l⟩ := t
 have hl : l = [] := h
 subst hl
 unfold validT
 rw [ex_one _ rfl, ex_leaf]
 simp
theorem sameT_refl {t : Tm} (h : validT t = true) : sameT t t = true := by
 unfold sameT
 rw [h, eqT_yes rfl]
 rfl
theorem setg_other (X : World) (g : Nat) (a b c d : Value) {k : Nat} (h : k ≠ g) : ((((X.setCell ⟨g, 0, none⟩ a).setCell ⟨g, 1, none⟩ b).setCell ⟨g, 2, none⟩ c).setCell ⟨g, 3, none⟩ d).heap[k]? = X.heap[k]? := by
 rw [heap_setCell_other _ _ _ _ h, heap_setCell_other _ _ _ _ h, heap_setCell_other _ _ _ _ h, heap_setCell_other _ _ _ _ h]
end Hb
