/- Flags: Call in plain words; goals of two leaves. Flags: what a call that went well has handed back, while the laws lay it down. -/
import Derived.Test.YtfkhcpeahdkafaaGreatH32
import Derived.Test.YtfkhcpeahdkafaaGreatH27
import Derived.Test.YtfkhcpeahdkafaaGreatH26
namespace Hb
open Go Go.RowKit
theorem RIs.turn {w W w8 w' : World} {r : RV} {sp : CR} (h : Turn w W w8 w') (hr : RIs (w.heap.size + 1 + 1 + 1 + 1) W w8 r sp) : RIs (w.heap.size + 1 + 1 + 1 + 1) w w' (if r.er = 0 then rvS r.oa r.on r.oc r.q r.u r.c r.d r.ca r.cn r.cc r.ra r.rn r.rc else rvB r.bk r.bn r.bs r.ba r.bz r.bc r.er) sp := by
 cases sp with
 | ok s l =>
  obtain ⟨h0, h1, h2, h3, h4, h5⟩ := hr
  rw [if_pos h0]
  exact ⟨rfl, h.tab h1, h2, h.prs h3, h4, h.tms h5⟩
 | ball b =>
  obtain ⟨h0, h1, h2, h3, h4, h5⟩ := hr
  rw [if_neg (by omega)]
  exact ⟨h0, h1, h2, h3, h4, h.tms h5⟩
 | err n =>
  obtain ⟨h0, h1, h2, h3, h4, h5, h6⟩ := hr
  rw [if_neg (by omega)]
  exact ⟨h0, h1, h2, h3, h4, h5, h6⟩
theorem pair_valid {s : ByteArray} {a b : Tm} (hs : s.size ≤ 100) (ha : a.args = []) (hb : b.args = []) (na : nodeOk a = true) (nb : nodeOk b = true) : validT (.mk 3 0 s [a, b]) = true := by
 unfold validT
 rw [Bool.and_eq_true, decide_eq_true_iff]
 constructor
 ·rw [Tm.nodes_eq]
  show 1 + (a.nodes + (b.nodes + 0)) ≤ 2000
  rw [ex_one _ ha, ex_one _ hb]
  omega
 ·rw [Tm.allOk_eq, Bool.and_eq_true]
  constructor
  ·have e : nodeOk (.mk 3 0 s [a, b]) = (((0 : Int) == 0) && decide (s.size ≤ 100) && decide (0 < [a, b].length) && decide ([a, b].length ≤ 8)) := rfl
   rw [e, decide_eq_true hs]
   rfl
  ·show (a.allOk && (b.allOk && true)) = true
   rw [Tm.allOk_eq a, Tm.allOk_eq b, ha, hb, na, nb]
   rfl
theorem char_node (c : Int) : nodeOk (atomT (chS c)) = true := by
 have e : nodeOk (atomT (chS c)) = (((0 : Int) == 0) && decide ((chS c).size ≤ 100) && (([] : List Tm).length == 0)) := rfl
 rw [e, decide_eq_true (show (chS c).size ≤ 100 from (show 1 ≤ 100 by decide))]
 rfl
theorem var_node (i : Int) (h0 : 0 ≤ i) (h1 : i ≤ 8) : nodeOk (.mk 0 i ⟨#[]⟩ []) = true := by
 have h : (⟨#[]⟩ : ByteArray).toList = [] := by kernel_rfl
 have e : nodeOk (.mk 0 i ⟨#[]⟩ []) = (decide ((0 : Int) ≤ i) && decide (i ≤ 1099511627776) && ((⟨#[]⟩ : ByteArray).toList == []) && (([] : List Tm).length == 0)) := rfl
 rw [e, h, decide_eq_true h0, decide_eq_true (show i ≤ 1099511627776 by omega)]
 rfl
theorem chOf_chS {c : Int} (h0 : 0 ≤ c) (h1 : c ≤ 255) : chOf (chS c) = c := by
 show ((c.toNat.toUInt8).toNat : Int) = c
 simp
 omega
theorem char_is (c : Int) : isCharT (atomT (chS c)) = true := rfl
theorem cc_can (s : ByteArray) (a b : Int) (hs : s.size ≤ 100) : canT (.mk 3 0 s [atomT (chS a), atomT (chS b)]) = .mk 3 0 s [atomT (chS a), atomT (chS b)] := by
 unfold canT
 rw [if_pos (pair_valid hs rfl rfl (char_node a) (char_node b)), ren_eq]
 show Tm.mk 3 (if (3 : Int) = 0 then _ else 0) s [ren _ (.mk 2 0 (chS a) []), ren _ (.mk 2 0 (chS b) [])] = _
 rw [ren_leaf _ _ _ _ (by decide), ren_leaf _ _ _ _ (by decide), if_neg (by decide)]
 rfl
theorem cv_can (s : ByteArray) (a : Int) (hs : s.size ≤ 100) : canT (.mk 3 0 s [atomT (chS a), .mk 0 0 ⟨#[]⟩ []]) = .mk 3 0 s [atomT (chS a), .mk 0 0 ⟨#[]⟩ []] := by
 unfold canT
 rw [if_pos (pair_valid hs rfl rfl (char_node a) (var_node 0 (by omega) (by omega))), ren_eq]
 have hv : varsT (.mk 3 0 s [atomT (chS a), .mk 0 0 ⟨#[]⟩ []]) [] = [0] := by
  rw [varsT_eq]
  have e0 : varH (.mk 3 0 s [atomT (chS a), .mk 0 0 ⟨#[]⟩ []]) [] = [] := by unfold varH; rw [if_neg]; intro h; exact absurd (show (3 : Int) = 0 from h.1) (by decide)
  rw [e0]
  show varsT (.mk 0 0 ⟨#[]⟩ []) (varsT (atomT (chS a)) []) = [0]
  have e1 : varsT (atomT (chS a)) [] = [] := by
   rw [varsT_eq]
   show varH (atomT (chS a)) [] = []
   unfold varH; rw [if_neg]; intro h; exact absurd (show (2 : Int) = 0 from h.1) (by decide)
  rw [e1, varsT_eq]
  show varH (.mk 0 0 ⟨#[]⟩ []) [] = [0]
  unfold varH
  rw [if_pos ⟨rfl, by simp⟩]
  rfl
 rw [hv]
 show Tm.mk 3 (if (3 : Int) = 0 then _ else 0) s [ren _ (.mk 2 0 (chS a) []), ren _ (.mk 0 0 ⟨#[]⟩ [])] = _
 rw [ren_leaf _ _ _ _ (by decide), ren_eq]
 rfl
theorem same_can {t : Tm} (hv : validT t = true) (hc : canT t = t) : sameT t (canT t) = true := by rw [hc]; exact sameT_refl hv
end Hb
namespace Go.Proofs.YtfkhcpeahdkafaaGreat
open Go.RowKit Hb Go.Shelf
set_option maxRecDepth 100000
theorem f_callR (sp : CR) (OA : Option Addr) (on oc : Nat) (q u : Int) (c d : Bool) (CA : Option Addr) (cn cc : Nat) (gn : Int) (gs : ByteArray) (AA : Option Addr) (na ac : Nat) (gl : List Tm) (l : List OpR) (cl : List (Int × Int)) (w : World)
  (hTab : Tab w OA on oc l) (hon : on ≤ 400) (hov : opsValid l = true) (hfv : flOk ⟨q, u, c, d⟩ = true) (hcv : pvalid cl = true) (hcl : cn = cl.length) (hcp : Pairs w CA cl) (hc0 : cn = 0 → (Value.slice CA cn cc = .slice none 0 0 ∨ ∃ ad, CA = some ad)) (hna : na = gl.length) (hna8 : na ≤ 8) (hgs : gs.size ≤ maxLen) (hA : TmsAt w.heap.size w AA gl) (hg : validT (.mk 3 gn gs gl) = true) (hsm : sameT (.mk 3 gn gs gl) (canT (.mk 3 gn gs gl)) = true) (hix : pIx gs na < 6)
  (hrun : ∀ W OB oB CB cB, Below w.heap.size w W → Tab W OB on oB l → PrI (w.heap.size + 1 + 1 + 1 + 1) W CB cn cB cl → (w.heap.size + 1 + 1 + 1 + 1) ≤ W.heap.size → Calls Tryz.prog (pFn (pIx gs na)) #[.agg #[.slice OB on oB, .int .i64 q, .int .i64 u, .bool c, .bool d, .slice CB cn cB], .slice AA na ac, .agg #[.int .i64 3, .int .i64 gn, .string gs, .slice AA na ac]] W fun e w' => ∃ r : RV, e = .returned r.val ∧ Below W.heap.size W w' ∧ RIs (w.heap.size + 1 + 1 + 1 + 1) W w' r sp) :
  Calls Tryz.prog 30 #[.agg #[.slice OA on oc, .int .i64 q, .int .i64 u, .bool c, .bool d, .slice CA cn cc], .agg #[.int .i64 3, .int .i64 gn, .string gs, .slice AA na ac]] w fun e w' => ∃ r : RV, e = .returned r.val ∧ Below w.heap.size w w' ∧ RIs (w.heap.size + 1 + 1 + 1 + 1) w w' r sp := by
 have hcn : cn ≤ 400 := by
  have := cv_len ((cvOk_iff cl).1 hcv)
  omega
 refine (f_call_run (fun W w' r => RIs (w.heap.size + 1 + 1 + 1 + 1) W w' r sp) OA on oc q u c d CA cn cc gn gs AA na ac gl l cl w hTab hon hov hfv hcv hcl hcp hc0 hcn hna hna8 hgs hA hg hsm hix fun W OB oB CB cB hB hT hP hlt => ?_).mono fun e w' h => ?_
 ·exact hrun W OB oB CB cB hB hT hP (by omega)
 ·obtain ⟨r, W, w8, he, hB, hT, hr⟩ := h
  exact ⟨_, he, hB, hr.turn hT⟩
theorem opsValid_len {l : List OpR} (h : opsValid l = true) : l.length ≤ 100 := by
 unfold opsValid at h
 rw [Bool.and_eq_true, decide_eq_true_iff] at h
 exact h.1
theorem call_setConv (OA : Option Addr) (on oc : Nat) (q u : Int) (c d : Bool) (CA : Option Addr) (cn cc : Nat) (AA : Option Addr) (ac : Nat) (a b : Int) (a0 : 0 ≤ a) (a1 : a ≤ 255) (b0 : 0 ≤ b) (b1 : b ≤ 255) (l : List OpR) (cl : List (Int × Int)) (w : World) (hTab : Tab w OA on oc l) (hov : opsValid l = true) (hfv : flOk ⟨q, u, c, d⟩ = true) (hcv : pvalid cl = true) (hcl : cn = cl.length) (hcp : Pairs w CA cl) (hc0 : cn = 0 → (Value.slice CA cn cc = .slice none 0 0 ∨ ∃ ad, CA = some ad)) (hA : TmsAt w.heap.size w AA [atomT (chS a), atomT (chS b)]) :
  Calls Tryz.prog 30 #[.agg #[.slice OA on oc, .int .i64 q, .int .i64 u, .bool c, .bool d, .slice CA cn cc], .agg #[.int .i64 3, .int .i64 0, .string ⟨#[99, 104, 97, 114, 95, 99, 111, 110, 118, 101, 114, 115, 105, 111, 110]⟩, .slice AA 2 ac]] w fun e w' => ∃ r : RV, e = .returned r.val ∧ Below w.heap.size w w' ∧ RIs (w.heap.size + 1 + 1 + 1 + 1) w w' r (.ok ⟨l, ⟨q, u, c, d⟩, cset cl a b⟩ [.mk 3 0 ⟨#[99, 104, 97, 114, 95, 99, 111, 110, 118, 101, 114, 115, 105, 111, 110]⟩ [atomT (chS a), atomT (chS b)]]) := by
 have hv : validT (.mk 3 0 ⟨#[99, 104, 97, 114, 95, 99, 111, 110, 118, 101, 114, 115, 105, 111, 110]⟩ [atomT (chS a), atomT (chS b)]) = true := pair_valid (by decide) rfl rfl (char_node a) (char_node b)
 have hs : sameT (.mk 3 0 ⟨#[99, 104, 97, 114, 95, 99, 111, 110, 118, 101, 114, 115, 105, 111, 110]⟩ [atomT (chS a), atomT (chS b)]) (canT (.mk 3 0 ⟨#[99, 104, 97, 114, 95, 99, 111, 110, 118, 101, 114, 115, 105, 111, 110]⟩ [atomT (chS a), atomT (chS b)])) = true := same_can hv (cc_can _ a b (by decide))
 have hix : pIx ⟨#[99, 104, 97, 114, 95, 99, 111, 110, 118, 101, 114, 115, 105, 111, 110]⟩ ((2 : Nat) : Int) = 2 := by kernel_rfl
 refine f_callR _ OA on oc q u c d CA cn cc 0 ⟨#[99, 104, 97, 114, 95, 99, 111, 110, 118, 101, 114, 115, 105, 111, 110]⟩ AA 2 ac [atomT (chS a), atomT (chS b)] l cl w hTab (by have := hTab.len; have := opsValid_len hov; omega) hov hfv hcv hcl hcp hc0 rfl (by decide) (by unfold maxLen; decide) hA hv hs (by rw [hix]; decide) fun W OB oB CB cB hB hT hP hlt => ?_
 rw [hix]
 have hAW : TmsAt W.heap.size W AA [atomT (chS a), atomT (chS b)] := (hA.keep hB).mono hB.size
 have h := f_setConv_n (w.heap.size + 1 + 1 + 1 + 1) OB on oB q u c d CB cn cB 3 0 ⟨#[99, 104, 97, 114, 95, 99, 111, 110, 118, 101, 114, 115, 105, 111, 110]⟩ AA ac (atomT (chS a)) (atomT (chS b)) l cl W hlt hT hP hcv hAW hv rfl
 have e : setConvC ⟨l, ⟨q, u, c, d⟩, cl⟩ (atomT (chS a)) (atomT (chS b)) (.mk 3 0 ⟨#[99, 104, 97, 114, 95, 99, 111, 110, 118, 101, 114, 115, 105, 111, 110]⟩ [atomT (chS a), atomT (chS b)]) = .ok ⟨l, ⟨q, u, c, d⟩, cset cl a b⟩ [.mk 3 0 ⟨#[99, 104, 97, 114, 95, 99, 111, 110, 118, 101, 114, 115, 105, 111, 110]⟩ [atomT (chS a), atomT (chS b)]] := by
  unfold setConvC
  rw [if_neg (by intro h; exact absurd (show false = true from h) (by decide)), if_neg (by rw [char_is]; decide), if_neg (by rw [char_is]; decide)]
  show CR.ok ⟨l, _, cset cl (chOf (chS a)) (chOf (chS b))⟩ _ = _
  rw [chOf_chS a0 a1, chOf_chS b0 b1]
 rw [e] at h
 exact h
theorem call_conv1 (OA : Option Addr) (on oc : Nat) (q u : Int) (c d : Bool) (CA : Option Addr) (cn cc : Nat) (AA : Option Addr) (ac : Nat) (a : Int) (a0 : 0 ≤ a) (a1 : a ≤ 255) (l : List OpR) (cl : List (Int × Int)) (w : World) (hTab : Tab w OA on oc l) (hov : opsValid l = true) (hfv : flOk ⟨q, u, c, d⟩ = true) (hcv : pvalid cl = true) (hcl : cn = cl.length) (hcp : Pairs w CA cl) (hc0 : cn = 0 → (Value.slice CA cn cc = .slice none 0 0 ∨ ∃ ad, CA = some ad)) (hA : TmsAt w.heap.size w AA [atomT (chS a), .mk 0 0 ⟨#[]⟩ []]) :
  Calls Tryz.prog 30 #[.agg #[.slice OA on oc, .int .i64 q, .int .i64 u, .bool c, .bool d, .slice CA cn cc], .agg #[.int .i64 3, .int .i64 0, .string ⟨#[99, 117, 114, 114, 101, 110, 116, 95, 99, 104, 97, 114, 95, 99, 111, 110, 118, 101, 114, 115, 105, 111, 110]⟩, .slice AA 2 ac]] w fun e w' => ∃ r : RV, e = .returned r.val ∧ Below w.heap.size w w' ∧ RIs (w.heap.size + 1 + 1 + 1 + 1) w w' r (.ok ⟨l, ⟨q, u, c, d⟩, cl⟩ [structT ⟨#[99, 117, 114, 114, 101, 110, 116, 95, 99, 104, 97, 114, 95, 99, 111, 110, 118, 101, 114, 115, 105, 111, 110]⟩ [atomT (chS a), atomT (chS (convT cl a))]]) := by
 have hv : validT (.mk 3 0 ⟨#[99, 117, 114, 114, 101, 110, 116, 95, 99, 104, 97, 114, 95, 99, 111, 110, 118, 101, 114, 115, 105, 111, 110]⟩ [atomT (chS a), .mk 0 0 ⟨#[]⟩ []]) = true := pair_valid (by decide) rfl rfl (char_node a) (var_node 0 (by omega) (by omega))
 have hs : sameT (.mk 3 0 ⟨#[99, 117, 114, 114, 101, 110, 116, 95, 99, 104, 97, 114, 95, 99, 111, 110, 118, 101, 114, 115, 105, 111, 110]⟩ [atomT (chS a), .mk 0 0 ⟨#[]⟩ []]) (canT (.mk 3 0 ⟨#[99, 117, 114, 114, 101, 110, 116, 95, 99, 104, 97, 114, 95, 99, 111, 110, 118, 101, 114, 115, 105, 111, 110]⟩ [atomT (chS a), .mk 0 0 ⟨#[]⟩ []])) = true := same_can hv (cv_can _ a (by decide))
 have hix : pIx ⟨#[99, 117, 114, 114, 101, 110, 116, 95, 99, 104, 97, 114, 95, 99, 111, 110, 118, 101, 114, 115, 105, 111, 110]⟩ ((2 : Nat) : Int) = 3 := by kernel_rfl
 refine f_callR _ OA on oc q u c d CA cn cc 0 ⟨#[99, 117, 114, 114, 101, 110, 116, 95, 99, 104, 97, 114, 95, 99, 111, 110, 118, 101, 114, 115, 105, 111, 110]⟩ AA 2 ac [atomT (chS a), .mk 0 0 ⟨#[]⟩ []] l cl w hTab (by have := hTab.len; have := opsValid_len hov; omega) hov hfv hcv hcl hcp hc0 rfl (by decide) (by unfold maxLen; decide) hA hv hs (by rw [hix]; decide) fun W OB oB CB cB hB hT hP hlt => ?_
 rw [hix]
 have hAW : TmsAt W.heap.size W AA [atomT (chS a), .mk 0 0 ⟨#[]⟩ []] := (hA.keep hB).mono hB.size
 have h := f_listConv (w.heap.size + 1 + 1 + 1 + 1) OB on oB q u c d CB cn cB 3 0 ⟨#[99, 117, 114, 114, 101, 110, 116, 95, 99, 104, 97, 114, 95, 99, 111, 110, 118, 101, 114, 115, 105, 111, 110]⟩ AA ac (atomT (chS a)) (.mk 0 0 ⟨#[]⟩ []) l cl W hT hP hcv hAW
 have e : listConvC ⟨l, ⟨q, u, c, d⟩, cl⟩ (atomT (chS a)) (.mk 0 0 ⟨#[]⟩ []) = .ok ⟨l, ⟨q, u, c, d⟩, cl⟩ [structT ⟨#[99, 117, 114, 114, 101, 110, 116, 95, 99, 104, 97, 114, 95, 99, 111, 110, 118, 101, 114, 115, 105, 111, 110]⟩ [atomT (chS a), atomT (chS (convT cl a))]] := by
  unfold listConvC
  rw [if_neg (by rw [char_is]; simp), if_neg (by intro h; exact absurd h.1 (by decide)), if_pos (by rfl)]
  show CR.ok _ [structT _ [_, atomT (chS (convT cl (chOf (chS a))))]] = _
  rw [chOf_chS a0 a1]
 rw [e] at h
 exact h
theorem call_convs (OA : Option Addr) (on oc : Nat) (q u : Int) (c d : Bool) (CA : Option Addr) (cn cc : Nat) (AA : Option Addr) (ac : Nat)  (l : List OpR) (cl : List (Int × Int)) (w : World) (hTab : Tab w OA on oc l) (hov : opsValid l = true) (hfv : flOk ⟨q, u, c, d⟩ = true) (hcv : pvalid cl = true) (hcl : cn = cl.length) (hcp : Pairs w CA cl) (hc0 : cn = 0 → (Value.slice CA cn cc = .slice none 0 0 ∨ ∃ ad, CA = some ad)) (hA : TmsAt w.heap.size w AA [.mk 0 0 ⟨#[]⟩ [], .mk 0 1 ⟨#[]⟩ []]) :
  Calls Tryz.prog 30 #[.agg #[.slice OA on oc, .int .i64 q, .int .i64 u, .bool c, .bool d, .slice CA cn cc], .agg #[.int .i64 3, .int .i64 0, .string ⟨#[99, 117, 114, 114, 101, 110, 116, 95, 99, 104, 97, 114, 95, 99, 111, 110, 118, 101, 114, 115, 105, 111, 110]⟩, .slice AA 2 ac]] w fun e w' => ∃ r : RV, e = .returned r.val ∧ Below w.heap.size w w' ∧ RIs (w.heap.size + 1 + 1 + 1 + 1) w w' r (.ok ⟨l, ⟨q, u, c, d⟩, cl⟩ (cl.map cvAns)) := by
 have hv : validT (.mk 3 0 ⟨#[99, 117, 114, 114, 101, 110, 116, 95, 99, 104, 97, 114, 95, 99, 111, 110, 118, 101, 114, 115, 105, 111, 110]⟩ [.mk 0 0 ⟨#[]⟩ [], .mk 0 1 ⟨#[]⟩ []]) = true := goalV_valid (n := 2) (by decide) (by decide) (by decide)
 have hs : sameT (.mk 3 0 ⟨#[99, 117, 114, 114, 101, 110, 116, 95, 99, 104, 97, 114, 95, 99, 111, 110, 118, 101, 114, 115, 105, 111, 110]⟩ [.mk 0 0 ⟨#[]⟩ [], .mk 0 1 ⟨#[]⟩ []]) (canT (.mk 3 0 ⟨#[99, 117, 114, 114, 101, 110, 116, 95, 99, 104, 97, 114, 95, 99, 111, 110, 118, 101, 114, 115, 105, 111, 110]⟩ [.mk 0 0 ⟨#[]⟩ [], .mk 0 1 ⟨#[]⟩ []])) = true := same_can hv (goalV_can (n := 2) (by decide) (by decide) (by decide))
 have hix : pIx ⟨#[99, 117, 114, 114, 101, 110, 116, 95, 99, 104, 97, 114, 95, 99, 111, 110, 118, 101, 114, 115, 105, 111, 110]⟩ ((2 : Nat) : Int) = 3 := by kernel_rfl
 refine f_callR _ OA on oc q u c d CA cn cc 0 ⟨#[99, 117, 114, 114, 101, 110, 116, 95, 99, 104, 97, 114, 95, 99, 111, 110, 118, 101, 114, 115, 105, 111, 110]⟩ AA 2 ac [.mk 0 0 ⟨#[]⟩ [], .mk 0 1 ⟨#[]⟩ []] l cl w hTab (by have := hTab.len; have := opsValid_len hov; omega) hov hfv hcv hcl hcp hc0 rfl (by decide) (by unfold maxLen; decide) hA hv hs (by rw [hix]; decide) fun W OB oB CB cB hB hT hP hlt => ?_
 rw [hix]
 have hAW : TmsAt W.heap.size W AA [.mk 0 0 ⟨#[]⟩ [], .mk 0 1 ⟨#[]⟩ []] := (hA.keep hB).mono hB.size
 have h := f_listConv (w.heap.size + 1 + 1 + 1 + 1) OB on oB q u c d CB cn cB 3 0 ⟨#[99, 117, 114, 114, 101, 110, 116, 95, 99, 104, 97, 114, 95, 99, 111, 110, 118, 101, 114, 115, 105, 111, 110]⟩ AA ac (.mk 0 0 ⟨#[]⟩ []) (.mk 0 1 ⟨#[]⟩ []) l cl W hT hP hcv hAW
 have e : listConvC ⟨l, ⟨q, u, c, d⟩, cl⟩ (.mk 0 0 ⟨#[]⟩ []) (.mk 0 1 ⟨#[]⟩ []) = .ok ⟨l, ⟨q, u, c, d⟩, cl⟩ (cl.map cvAns) := by
  unfold listConvC
  rw [if_neg (by intro h; exact absurd h.1 (by decide)), if_neg (by intro h; exact absurd h.1 (by decide)), if_neg (by decide)]
 rw [e] at h
 exact h
end Go.Proofs.YtfkhcpeahdkafaaGreat
namespace Hb
open Go Go.RowKit
structure ResOk (P Q : Nat) (X : World) (r : RV) (s : SyP) (l : List Tm) : Prop where
 er : r.er = 0
 tab : Tab X r.oa r.on r.oc s.ops
 fl : (⟨r.q, r.u, r.c, r.d⟩ : FlR) = s.fl
 cv : PrI P X r.ca r.cn r.cc s.cv
 cvq : ∀ b o, r.ca = some ⟨b, o, none⟩ → b < Q
 rn : r.rn = l.length
 ra : TmsK (fun b => P ≤ b ∧ b < Q) X r.ra l
 qx : Q ≤ X.heap.size
theorem ResOk.of {w w' : World} {r : RV} {s : SyP} {l : List Tm} (h : RIs (w.heap.size + 1 + 1 + 1 + 1) w w' r (.ok s l)) : ResOk w.heap.size w'.heap.size w' r s l :=
 ⟨h.1, h.2.1, h.2.2.1, h.2.2.2.1.mono (by omega), fun b o e => (h.2.2.2.1.blk b o e).2, h.2.2.2.2.1, h.2.2.2.2.2, Nat.le_refl _⟩
theorem ResOk.call {P Q : Nat} {X X' : World} {r : RV} {s : SyP} {l : List Tm} (h : ResOk P Q X r s l) (hB : Below X.heap.size X X') : ResOk P Q X' r s l :=
 ⟨h.er, h.tab.below hB, h.fl, h.cv.below hB, h.cvq, h.rn, h.ra.keep (fun b hb => hB.block b (Nat.lt_of_lt_of_le hb.2 h.qx)) (fun _ hb => hb), Nat.le_trans h.qx hB.size⟩
theorem ResOk.put {P Q : Nat} {X X' : World} {r : RV} {s : SyP} {l : List Tm} (h : ResOk P Q X r s l) (e : Nat) (vs : List Value) (he : e < P ∨ Q ≤ e) (hb : Bk X e vs) (hv : ∀ i s x, vs[i]? = some (.string s) → ¬ vs[i + 1]? = some (.int .i64 x)) (hs : X'.heap.size = X.heap.size) (hk : ∀ b, b ≠ e → X'.heap[b]? = X.heap[b]?) : ResOk P Q X' r s l :=
 ⟨h.er, tab_boxes (L := [(e, vs)]) h.tab ⟨fun x hx => by rw [List.mem_singleton.1 hx]; exact hb, by simp⟩ (fun x hx => by rw [List.mem_singleton.1 hx]; exact hv) (by rw [hs]; exact Nat.le_refl _) (fun k hk' => hk k (hk' _ (List.mem_singleton.2 rfl))), h.fl, h.cv.keep (by rw [hs]; exact Nat.le_refl _) (fun b o e' => hk b (by have := (h.cv.blk b o e').1; have := h.cvq b o e'; omega)), h.cvq, h.rn, h.ra.keep (fun b hb => hk b (by have := hb.1; have := hb.2; omega)) (fun _ hb => hb), by rw [hs]; exact h.qx⟩
def ResAny (P Q : Nat) (X : World) (r : RV) : CR → Prop
 | .ok s l => ResOk P Q X r s l
 | _ => r.er ≠ 0 ∧ r.rn = 0 ∧ Q ≤ X.heap.size
theorem ResAny.qx {P Q : Nat} {X : World} {r : RV} {sp : CR} (h : ResAny P Q X r sp) : Q ≤ X.heap.size := by
 cases sp with
 | ok s l => exact ResOk.qx h
 | ball b => exact h.2.2
 | err n => exact h.2.2
theorem ResAny.call {P Q : Nat} {X X' : World} {r : RV} {sp : CR} (h : ResAny P Q X r sp) (hB : Below X.heap.size X X') : ResAny P Q X' r sp := by
 cases sp with
 | ok s l => exact ResOk.call h hB
 | ball b => exact ⟨h.1, h.2.1, Nat.le_trans h.2.2 hB.size⟩
 | err n => exact ⟨h.1, h.2.1, Nat.le_trans h.2.2 hB.size⟩
theorem ResAny.put {P Q : Nat} {X X' : World} {r : RV} {sp : CR} (h : ResAny P Q X r sp) (e : Nat) (vs : List Value) (he : e < P ∨ Q ≤ e) (hb : Bk X e vs) (hv : ∀ i s x, vs[i]? = some (.string s) → ¬ vs[i + 1]? = some (.int .i64 x)) (hs : X'.heap.size = X.heap.size) (hk : ∀ b, b ≠ e → X'.heap[b]? = X.heap[b]?) : ResAny P Q X' r sp := by
 cases sp with
 | ok s l => exact ResOk.put h e vs he hb hv hs hk
 | ball b => exact ⟨h.1, h.2.1, by rw [hs]; exact h.2.2⟩
 | err n => exact ⟨h.1, h.2.1, by rw [hs]; exact h.2.2⟩
end Hb
