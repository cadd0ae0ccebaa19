/- Flags: Call at op/3 with leaves and at current_op/3 with variables, whatever is wrong. Flags: equal syntaxes. -/
import Derived.Test.YtfkhcpeahdkafaaGreatH29
import Derived.Test.YtfkhcpeahdkafaaGreatH36
namespace Hb
open Go Go.RowKit
structure SyAt (w : World) (OA : Option Addr) (on oc : Nat) (CA : Option Addr) (cn cc : Nat) (l : List OpR) (cl : List (Int × Int)) : Prop where
 tab : Tab w OA on oc l
 cle : cn = cl.length
 cp : Pairs w CA cl
 c0 : cn = 0 → (Value.slice CA cn cc = .slice none 0 0 ∨ ∃ ad, CA = some ad)
theorem SyAt.below {w w' : World} {OA : Option Addr} {on oc : Nat} {CA : Option Addr} {cn cc : Nat} {l : List OpR} {cl : List (Int × Int)} (h : SyAt w OA on oc CA cn cc l cl) (hB : Below w.heap.size w w') : SyAt w' OA on oc CA cn cc l cl := ⟨h.tab.below hB, h.cle, h.cp.below hB, h.c0⟩
def sokB (l : List OpR) (f : FlR) (cl : List (Int × Int)) : Bool := opsValid l && (flOk f && pvalid cl)
theorem leaf3_valid {s : ByteArray} {a b c : Tm} (hs : s.size ≤ 100) (ha : a.args = []) (hb : b.args = []) (hc : c.args = []) : validT (.mk 3 0 s [a, b, c]) = (nodeOk a && (nodeOk b && nodeOk c)) := by
 unfold validT
 have h1 : (Tm.mk 3 0 s [a, b, c]).nodes = 4 := by
  rw [Tm.nodes_eq]
  show 1 + (a.nodes + (b.nodes + (c.nodes + 0))) = 4
  rw [ex_one _ ha, ex_one _ hb, ex_one _ hc]
 rw [h1, Tm.allOk_eq]
 have e : nodeOk (.mk 3 0 s [a, b, c]) = (((0 : Int) == 0) && decide (s.size ≤ 100) && decide (0 < [a, b, c].length) && decide ([a, b, c].length ≤ 8)) := rfl
 rw [e, decide_eq_true hs]
 show (true && (true && (a.allOk && (b.allOk && (c.allOk && true))))) = _
 rw [Tm.allOk_eq a, Tm.allOk_eq b, Tm.allOk_eq c, ha, hb, hc]
 simp
theorem int_node (n : Int) : nodeOk (.mk 1 n ⟨#[]⟩ []) = true := by
 have h : (⟨#[]⟩ : ByteArray).toList = [] := by kernel_rfl
 have e : nodeOk (.mk 1 n ⟨#[]⟩ []) = ((⟨#[]⟩ : ByteArray).toList == [] && (([] : List Tm).length == 0)) := rfl
 rw [e, h]; rfl
theorem atom_node (s : ByteArray) : nodeOk (atomT s) = decide (s.size ≤ 100) := by
 have e : nodeOk (atomT s) = (((0 : Int) == 0) && decide (s.size ≤ 100) && (([] : List Tm).length == 0)) := rfl
 rw [e]; simp
theorem leaf3_can {s : ByteArray} {ka na kb nb kc nc : Int} {sa sb sc : ByteArray} (hv : validT (.mk 3 0 s [.mk ka na sa [], .mk kb nb sb [], .mk kc nc sc []]) = true) (ha : ka ≠ 0) (hb : kb ≠ 0) (hc : kc ≠ 0) : canT (.mk 3 0 s [.mk ka na sa [], .mk kb nb sb [], .mk kc nc sc []]) = .mk 3 0 s [.mk ka na sa [], .mk kb nb sb [], .mk kc nc sc []] := by
 unfold canT
 rw [if_pos hv, ren_eq]
 show Tm.mk 3 (if (3 : Int) = 0 then _ else 0) s [ren _ (.mk ka na sa []), ren _ (.mk kb nb sb []), ren _ (.mk kc nc sc [])] = _
 rw [ren_leaf _ _ _ _ ha, ren_leaf _ _ _ _ hb, ren_leaf _ _ _ _ hc, if_neg (by decide)]
def opG (pr : Int) (wd nm : ByteArray) : Tm := .mk 3 0 ⟨#[111, 112]⟩ [.mk 1 pr ⟨#[]⟩ [], atomT wd, atomT nm]
theorem opG_valid (pr : Int) {wd : ByteArray} (hw : wd.size ≤ 100) (nm : ByteArray) : validT (opG pr wd nm) = decide (nm.size ≤ 100) := by
 unfold opG
 rw [leaf3_valid (by decide) rfl rfl rfl, int_node, atom_node, atom_node, decide_eq_true hw]
 rfl
def opC (s : SyP) (pr : Int) (wd nm : ByteArray) : CR := if (sokB s.ops s.fl s.cv && decide (nm.size ≤ 100)) = true then setOpsC s (.mk 1 pr ⟨#[]⟩ []) (atomT wd) (atomT nm) (opG pr wd nm) else .err 1
theorem rvS_er (OA : Option Addr) (on oc : Nat) (q u : Int) (c d : Bool) (CA : Option Addr) (cn cc : Nat) (ra : Option Addr) (rn rc : Nat) : (rvS OA on oc q u c d CA cn cc ra rn rc).er = 0 := rfl
def Bare (r : RV) : Prop := r.er ≠ 0 → r = rvB r.bk r.bn r.bs r.ba r.bz r.bc r.er
theorem Bare.turn (r : RV) : Bare (if r.er = 0 then rvS r.oa r.on r.oc r.q r.u r.c r.d r.ca r.cn r.cc r.ra r.rn r.rc else rvB r.bk r.bn r.bs r.ba r.bz r.bc r.er) := by
 unfold Bare
 split
 ·intro h; exact absurd (rvS_er _ _ _ _ _ _ _ _ _ _ _ _ _) h
 ·intro _; rfl
theorem Bare.rn {r : RV} (h : Bare r) : r.er ≠ 0 → r.rn = 0 := fun he => by rw [h he]; rfl
end Hb
namespace Go.Proofs.YtfkhcpeahdkafaaGreat
open Go.RowKit Hb Go.Shelf
set_option maxRecDepth 100000
theorem f_callN (sp : CR) (OA : Option Addr) (on oc : Nat) (q u : Int) (c d : Bool) (CA : Option Addr) (cn cc : Nat) (gn : Int) (gs : ByteArray) (AA : Option Addr) (na ac : Nat) (gl : List Tm) (l : List OpR) (cl : List (Int × Int)) (w : World)
  (hS : SyAt w OA on oc CA cn cc l cl) (hok : sokB l ⟨q, u, c, d⟩ cl = true) (hna : na = gl.length) (hna8 : na ≤ 8) (hgs : gs.size ≤ maxLen) (hA : TmsAt w.heap.size w AA gl) (hg : validT (.mk 3 gn gs gl) = true) (hsm : sameT (.mk 3 gn gs gl) (canT (.mk 3 gn gs gl)) = true) (hix : pIx gs na < 6)
  (hrun : ∀ W OB oB CB cB, Below w.heap.size w W → Tab W OB on oB l → PrI (w.heap.size + 1 + 1 + 1 + 1) W CB cn cB cl → (w.heap.size + 1 + 1 + 1 + 1) ≤ W.heap.size → Calls Tryz.prog (pFn (pIx gs na)) #[.agg #[.slice OB on oB, .int .i64 q, .int .i64 u, .bool c, .bool d, .slice CB cn cB], .slice AA na ac, .agg #[.int .i64 3, .int .i64 gn, .string gs, .slice AA na ac]] W fun e w' => ∃ r : RV, e = .returned r.val ∧ Below W.heap.size W w' ∧ RIs (w.heap.size + 1 + 1 + 1 + 1) W w' r sp) :
  Calls Tryz.prog 30 #[.agg #[.slice OA on oc, .int .i64 q, .int .i64 u, .bool c, .bool d, .slice CA cn cc], .agg #[.int .i64 3, .int .i64 gn, .string gs, .slice AA na ac]] w fun e w' => ∃ r : RV, e = .returned r.val ∧ Below w.heap.size w w' ∧ RIs (w.heap.size + 1 + 1 + 1 + 1) w w' r sp ∧ Bare r := by
 unfold sokB at hok
 rw [Bool.and_eq_true, Bool.and_eq_true] at hok
 obtain ⟨hov, hfv, hcv⟩ := hok
 have hcn : cn ≤ 400 := by
  have := cv_len ((cvOk_iff cl).1 hcv)
  have := hS.cle
  omega
 have hon : on ≤ 400 := by have := hS.tab.len; have := opsValid_len hov; omega
 refine (f_call_run (fun W w' r => RIs (w.heap.size + 1 + 1 + 1 + 1) W w' r sp) OA on oc q u c d CA cn cc gn gs AA na ac gl l cl w hS.tab hon hov hfv hcv hS.cle hS.cp hS.c0 hcn hna hna8 hgs hA hg hsm hix fun W OB oB CB cB hB hT hP hlt => ?_).mono fun e w' h => ?_
 ·exact hrun W OB oB CB cB hB hT hP (by omega)
 ·obtain ⟨r, W, w8, he, hB, hT, hr⟩ := h
  exact ⟨_, he, hB, hr.turn hT, Bare.turn r⟩
theorem call_op (OA : Option Addr) (on oc : Nat) (q u : Int) (c d : Bool) (CA : Option Addr) (cn cc : Nat) (AA : Option Addr) (ac : Nat) (pr : Int) (wd nm : ByteArray) (l : List OpR) (cl : List (Int × Int)) (w : World) (hS : SyAt w OA on oc CA cn cc l cl) (hcn : cn ≤ maxLen) (hwd : wd.size ≤ 100) (hA : TmsAt w.heap.size w AA [.mk 1 pr ⟨#[]⟩ [], atomT wd, atomT nm]) :
  Calls Tryz.prog 30 #[.agg #[.slice OA on oc, .int .i64 q, .int .i64 u, .bool c, .bool d, .slice CA cn cc], .agg #[.int .i64 3, .int .i64 0, .string ⟨#[111, 112]⟩, .slice AA 3 ac]] w fun e w' => ∃ r : RV, e = .returned r.val ∧ Below w.heap.size w w' ∧ RIs (w.heap.size + 1 + 1 + 1 + 1) w w' r (opC ⟨l, ⟨q, u, c, d⟩, cl⟩ pr wd nm) ∧ Bare r := by
 have hgv := opG_valid pr hwd nm
 unfold opG at hgv
 unfold opC
 cases hok : (sokB l ⟨q, u, c, d⟩ cl && decide (nm.size ≤ 100)) with
 | false =>
  refine (f_call_arg OA on oc q u c d CA cn cc 3 0 ⟨#[111, 112]⟩ AA 3 ac [.mk 1 pr ⟨#[]⟩ [], atomT wd, atomT nm] l cl w hS.tab hS.cle hcn hS.cp rfl hA ?_).mono fun e w' h => ⟨rvB 0 0 ⟨#[]⟩ none 0 0 1, h.1, h.2, by rw [if_neg (by simp)]; exact ⟨rfl, by decide, by decide, rfl, rfl, rfl, rfl⟩, fun _ => rfl⟩
  unfold sokB at hok
  rw [hgv, hok]
  rfl
 | true =>
  rw [Bool.and_eq_true, decide_eq_true_iff] at hok
  rw [if_pos rfl]
  have hv : validT (.mk 3 0 ⟨#[111, 112]⟩ [.mk 1 pr ⟨#[]⟩ [], atomT wd, atomT nm]) = true := by rw [hgv]; exact decide_eq_true hok.2
  have hs : sameT (.mk 3 0 ⟨#[111, 112]⟩ [.mk 1 pr ⟨#[]⟩ [], atomT wd, atomT nm]) (canT (.mk 3 0 ⟨#[111, 112]⟩ [.mk 1 pr ⟨#[]⟩ [], atomT wd, atomT nm])) = true := same_can hv (leaf3_can hv (by decide) (by decide) (by decide))
  have hix : pIx ⟨#[111, 112]⟩ ((3 : Nat) : Int) = 0 := by kernel_rfl
  refine f_callN _ OA on oc q u c d CA cn cc 0 ⟨#[111, 112]⟩ AA 3 ac [.mk 1 pr ⟨#[]⟩ [], atomT wd, atomT nm] l cl w hS hok.1 rfl (by decide) (by unfold maxLen; decide) hA hv hs (by rw [hix]; decide) fun W OB oB CB cB hB hT hP hlt => ?_
  rw [hix]
  have hvn : validT (atomT nm) = true := by rw [leaf_valid rfl, atom_node]; exact decide_eq_true hok.2
  have hon : on ≤ 400 := by
   have h1 := hok.1
   unfold sokB at h1
   rw [Bool.and_eq_true] at h1
   have := hS.tab.len; have := opsValid_len h1.1; omega
  exact f_setOps_n (w.heap.size + 1 + 1 + 1 + 1) OB on oB q u c d CB cn cB 3 0 ⟨#[111, 112]⟩ AA ac (.mk 1 pr ⟨#[]⟩ []) (atomT wd) (atomT nm) l cl W hT hon hP ((hA.keep hB).mono hB.size) hv hvn
theorem call_ops (OA : Option Addr) (on oc : Nat) (q u : Int) (c d : Bool) (CA : Option Addr) (cn cc : Nat) (AA : Option Addr) (ac : Nat) (l : List OpR) (cl : List (Int × Int)) (w : World) (hS : SyAt w OA on oc CA cn cc l cl) (hok : sokB l ⟨q, u, c, d⟩ cl = true) (hA : TmsAt w.heap.size w AA [.mk 0 0 ⟨#[]⟩ [], .mk 0 1 ⟨#[]⟩ [], .mk 0 2 ⟨#[]⟩ []]) :
  Calls Tryz.prog 30 #[.agg #[.slice OA on oc, .int .i64 q, .int .i64 u, .bool c, .bool d, .slice CA cn cc], .agg #[.int .i64 3, .int .i64 0, .string ⟨#[99, 117, 114, 114, 101, 110, 116, 95, 111, 112]⟩, .slice AA 3 ac]] w fun e w' => ∃ r : RV, e = .returned r.val ∧ Below w.heap.size w w' ∧ RIs (w.heap.size + 1 + 1 + 1 + 1) w w' r (.ok ⟨l, ⟨q, u, c, d⟩, cl⟩ (l.map opT)) ∧ Bare r := by
 have hv : validT (.mk 3 0 ⟨#[99, 117, 114, 114, 101, 110, 116, 95, 111, 112]⟩ [.mk 0 0 ⟨#[]⟩ [], .mk 0 1 ⟨#[]⟩ [], .mk 0 2 ⟨#[]⟩ []]) = true := goalV_valid (n := 3) (by decide) (by decide) (by decide)
 have hs : sameT (.mk 3 0 ⟨#[99, 117, 114, 114, 101, 110, 116, 95, 111, 112]⟩ [.mk 0 0 ⟨#[]⟩ [], .mk 0 1 ⟨#[]⟩ [], .mk 0 2 ⟨#[]⟩ []]) (canT (.mk 3 0 ⟨#[99, 117, 114, 114, 101, 110, 116, 95, 111, 112]⟩ [.mk 0 0 ⟨#[]⟩ [], .mk 0 1 ⟨#[]⟩ [], .mk 0 2 ⟨#[]⟩ []])) = true := same_can hv (goalV_can (n := 3) (by decide) (by decide) (by decide))
 have hix : pIx ⟨#[99, 117, 114, 114, 101, 110, 116, 95, 111, 112]⟩ ((3 : Nat) : Int) = 1 := by kernel_rfl
 have hov : opsValid l = true := by unfold sokB at hok; rw [Bool.and_eq_true] at hok; exact hok.1
 refine f_callN _ OA on oc q u c d CA cn cc 0 ⟨#[99, 117, 114, 114, 101, 110, 116, 95, 111, 112]⟩ AA 3 ac [.mk 0 0 ⟨#[]⟩ [], .mk 0 1 ⟨#[]⟩ [], .mk 0 2 ⟨#[]⟩ []] l cl w hS hok rfl (by decide) (by unfold maxLen; decide) hA hv hs (by rw [hix]; decide) fun W OB oB CB cB hB hT hP hlt => ?_
 rw [hix]
 have hon : on ≤ 400 := by have := hS.tab.len; have := opsValid_len hov; omega
 have hnm : ∀ o ∈ l, o.name.size ≤ 100 := fun o ho => by
  have h := valid_all hov o ho
  unfold opOk at h
  split at h
  ·cases h
  ·rename_i h1
   simp only [Bool.or_eq_true, decide_eq_true_eq, not_or] at h1
   omega
 refine (f_listOps_v OB on oB q u c d CB cn cB 3 0 ⟨#[99, 117, 114, 114, 101, 110, 116, 95, 111, 112]⟩ AA ac (.mk 0 0 ⟨#[]⟩ []) (.mk 0 1 ⟨#[]⟩ []) (.mk 0 2 ⟨#[]⟩ []) l W hT hon hnm ((hA.keep hB).mono hB.size) rfl rfl rfl).mono fun e w' h => ?_
 obtain ⟨RA, rc, he, hB', hN⟩ := h
 exact ⟨_, he, hB', rfl, hT.below hB', rfl, hP.below hB', by rw [List.length_map]; exact hT.len, hN⟩
end Go.Proofs.YtfkhcpeahdkafaaGreat
namespace Go.Proofs.YtfkhcpeahdkafaaGreat
open Go.RowKit Hb Go.Shelf
set_option maxRecDepth 100000
set_option maxHeartbeats 800000 in
theorem ref_same_ops (A B : Option Addr) (n c1 c2 : Nat) (l : List OpR) (w : World) (hm : n ≤ maxLen) (h1 : Tab w A n c1 l) (h2 : Tab w B n c2 l) :
  Calls Tryz.prog 106 #[.slice A n c1, .slice B n c2] w fun e w' => e = .returned (.bool true) ∧ Below w.heap.size w w' := by
 unfold maxLen at hm
 have HN := Lib.hid h1.len
 have H1 := Lib.hid h1.ops
 have H2 := Lib.hid h2.ops
 clear h1 h2
 go_enter Tryz.func106, Tryz.ntmps106
 go_wp2_with fail
 go_loopw [5] (fun i wr => ∃ k : Nat, k ≤ n ∧ i = .int .i64 k ∧ Below w.heap.size w wr) (fun i _ => n - (intOf i).toNat)
 case atStart => exact ⟨0, Nat.zero_le _, rfl, Below.refl _ _⟩
 case round =>
  obtain ⟨k, hk, rfl, hB⟩ := hrel
  by_cases hlt : k < n
  ·have hs := hB.size
   have hkl : k < l.length := by have := HN.out; omega
   obtain ⟨b, off, rfl, hb, a0, a1, a2⟩ := (H1.out.below hB) k hkl
   obtain ⟨b', off', rfl, hb', d0, d1, d2⟩ := (H2.out.below hB) k hkl
   generalize l[k] = r at *
   go_wp2_with fail
   go_quiet (fail)
   go_wp2_with fail
   go_roundw
   case rel => exact ⟨k + 1, by omega, by go_num, bl_drewN hB _⟩
   case measure => simp [intOf]; omega
  ·obtain rfl : k = n := by omega
   go_wp2_with fail
   go_ret
   exact ⟨rfl, hB⟩
set_option maxHeartbeats 1600000 in
theorem r8_sameSyn (OA OB CA CB : Option Addr) (on oc ob cn cc cb : Nat) (q u : Int) (c d : Bool) (l : List OpR) (cl : List (Int × Int)) (w : World) (hA : SyAt w OA on oc CA cn cc l cl) (hB : SyAt w OB on ob CB cn cb l cl) (hon : on ≤ maxLen) (hcn : cn ≤ maxLen) :
  Calls Tryz.prog 60 #[.agg #[.slice OA on oc, .int .i64 q, .int .i64 u, .bool c, .bool d, .slice CA cn cc], .agg #[.slice OB on ob, .int .i64 q, .int .i64 u, .bool c, .bool d, .slice CB cn cb]] w fun e w' => e = .returned (.bool true) ∧ Below w.heap.size w w' := by
 have HSO : Hid (∀ X, Below w.heap.size w X → Calls Tryz.prog 106 #[.slice OA on oc, .slice OB on ob] X fun e w' => e = .returned (.bool true) ∧ Below X.heap.size X w') := Lib.hid fun X hX => ref_same_ops OA OB on oc ob l X hon (hA.tab.below hX) (hB.tab.below hX)
 have HSP : Hid (∀ X, Below w.heap.size w X → Calls Tryz.prog 107 #[.slice CA cn cc, .slice CB cn cb] X fun e w' => e = .returned (.bool true) ∧ Below X.heap.size X w') := Lib.hid fun X hX => ref_same_pairs CA CB cn cc cb cl X hA.cle hcn (hA.cp.below hX) (hB.cp.below hX)
 have HBL0 : Hid (Below w.heap.size w ((w.alloc (.cells #[.slice OA on oc, .int .i64 q, .int .i64 u, .bool c, .bool d, .slice CA cn cc] 43)).alloc (.cells #[.slice OB on ob, .int .i64 q, .int .i64 u, .bool c, .bool d, .slice CB cn cb] 43))) := Lib.hid (((Below.refl _ w).alloc (Nat.le_refl _) _).alloc (by simp) _)
 have HBK0 : Hid (Bks ((w.alloc (.cells #[.slice OA on oc, .int .i64 q, .int .i64 u, .bool c, .bool d, .slice CA cn cc] 43)).alloc (.cells #[.slice OB on ob, .int .i64 q, .int .i64 u, .bool c, .bool d, .slice CB cn cb] 43)) [(w.heap.size + 1, [.slice OB on ob, .int .i64 q, .int .i64 u, .bool c, .bool d, .slice CB cn cb]), (w.heap.size, [.slice OA on oc, .int .i64 q, .int .i64 u, .bool c, .bool d, .slice CA cn cc])]) := Lib.hid (((Bks.nil w).new [.slice OA on oc, .int .i64 q, .int .i64 u, .bool c, .bool d, .slice CA cn cc] 43 rfl).new [.slice OB on ob, .int .i64 q, .int .i64 u, .bool c, .bool d, .slice CB cn cb] 43 (by simp))
 clear hA hB hon hcn
 go_enter Tryz.func60, Tryz.ntmps60
 go_wp2_with fail
 refine (HSO.out _ HBL0.out).mono ?_; rintro e w1 ⟨rfl, hB1⟩
 have HB_2 := Lib.hid (HBL0.out.trans (hB1.mono HBL0.out.size))
 have HK_2 := Lib.hid (HBK0.out.call hB1)
 clear hB1 HBL0 HBK0  
 have cc3 := HK_2.out.all
 simp only [bksAll, bkAll, Nat.zero_add, Nat.reduceAdd, and_true] at cc3
 go_wp2_with fail
 refine (HSP.out _ HB_2.out).mono ?_; rintro e w4 ⟨rfl, hB4⟩
 have HB_5 := Lib.hid (HB_2.out.trans (hB4.mono HB_2.out.size))
 have HK_5 := Lib.hid (HK_2.out.call hB4)
 clear hB4 HB_2 HK_2  cc3 
 go_wp2_with fail
 go_ret
 exact ⟨rfl, HB_5.out⟩
set_option maxHeartbeats 800000 in
theorem law_sameSyn (OA OB CA CB : Option Addr) (on oc ob cn cc cb : Nat) (q u : Int) (c d : Bool) (l : List OpR) (cl : List (Int × Int)) (w : World) (hA : SyAt w OA on oc CA cn cc l cl) (hB : SyAt w OB on ob CB cn cb l cl) (hon : on ≤ maxLen) (hcn : cn ≤ maxLen) :
  Calls Tryz.prog 25 #[.agg #[.slice OA on oc, .int .i64 q, .int .i64 u, .bool c, .bool d, .slice CA cn cc], .agg #[.slice OB on ob, .int .i64 q, .int .i64 u, .bool c, .bool d, .slice CB cn cb]] w fun e w' => e = .returned (.bool true) ∧ Below w.heap.size w w' := by
 have HS : Hid (∀ X, Below w.heap.size w X → Calls Tryz.prog 60 #[.agg #[.slice OA on oc, .int .i64 q, .int .i64 u, .bool c, .bool d, .slice CA cn cc], .agg #[.slice OB on ob, .int .i64 q, .int .i64 u, .bool c, .bool d, .slice CB cn cb]] X fun e w' => e = .returned (.bool true) ∧ Below X.heap.size X w') := Lib.hid fun X hX => r8_sameSyn OA OB CA CB on oc ob cn cc cb q u c d l cl X (hA.below hX) (hB.below hX) hon hcn
 have HBL0 : Hid (Below w.heap.size w ((w.alloc (.cells #[.slice OA on oc, .int .i64 q, .int .i64 u, .bool c, .bool d, .slice CA cn cc] 43)).alloc (.cells #[.slice OB on ob, .int .i64 q, .int .i64 u, .bool c, .bool d, .slice CB cn cb] 43))) := Lib.hid (((Below.refl _ w).alloc (Nat.le_refl _) _).alloc (by simp) _)
 clear hA hB hon hcn
 go_enter Tryz.func25, Tryz.ntmps25
 go_wp2_with fail
 refine (HS.out _ HBL0.out).mono ?_; rintro e w1 ⟨rfl, hB1⟩
 have HB1 := Lib.hid (HBL0.out.trans (hB1.mono HBL0.out.size))
 clear hB1
 go_wp2_with fail
 go_ret
 exact ⟨rfl, HB1.out⟩
end Go.Proofs.YtfkhcpeahdkafaaGreat
