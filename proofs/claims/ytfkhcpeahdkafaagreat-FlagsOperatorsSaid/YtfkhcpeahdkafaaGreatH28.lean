/- Flags: the check of op's arguments, whatever is wrong. -/
import Derived.Test.YtfkhcpeahdkafaaGreatH27
import Derived.Test.YtfkhcpeahdkafaaGreatH10
namespace Hb
open Go Go.RowKit
def zT : Tm := .mk 0 0 ⟨#[]⟩ []
def chkC (p t n : Tm) : Option Tm :=
 if anyVar [p, t, tailT n] = true ∨ (isNilT (tailT n) && anyVar (elemsT n)) = true then some instT
 else if ¬ p.kind = 1 then some (typeT ⟨#[105, 110, 116, 101, 103, 101, 114]⟩ p)
 else if isAtomT t = false then some (typeT ⟨#[97, 116, 111, 109]⟩ t)
 else if isAtomT n = false ∧ isNilT (tailT n) = false then some (typeT ⟨#[108, 105, 115, 116]⟩ n)
 else match (nmL n).find? (fun x => !isAtomT x) with
  | some x => some (typeT ⟨#[97, 116, 111, 109]⟩ x)
  | none => if isPrioT p = false then some (domT ⟨#[111, 112, 101, 114, 97, 116, 111, 114, 95, 112, 114, 105, 111, 114, 105, 116, 121]⟩ p) else if isTypeT t = false then some (domT ⟨#[111, 112, 101, 114, 97, 116, 111, 114, 95, 115, 112, 101, 99, 105, 102, 105, 101, 114]⟩ t) else none
theorem keeps_setL (g : Nat) : ∀ (us : List Value) (X : World) (i : Nat), KeepsOthers X (setL X g i us) := by
 intro us
 induction us with
 | nil => intro X i; exact KeepsOthers.refl X
 | cons u us ih => intro X i; unfold setL; exact (KeepsOthers.setCell _ _ _).trans (ih _ _)
theorem newT_own {B : Nat} {β : Type} (w0 : World) (A : Option Addr) (l : List Tm) : OwnFrom B (fun (_ : β) W => NewT w0 W A l) := fun s X Y row hs hg hr =>
 (TmsK.cells hs).keep (fun b hb => hg.block b hb.1.2 (fun e => by
  obtain ⟨_, o, ho, hc⟩ := hr b e.symm
  obtain ⟨o', ho', hc'⟩ := hb.2
  rw [ho] at ho'; injection ho' with ho'; subst ho'; rw [hc] at hc'; cases hc')) (fun b hb => ⟨hb.1.1, Nat.lt_of_lt_of_le hb.1.2 hg.size⟩)
theorem kp_bx {l : Nat} {W W' : World} (h : Bx l W.heap.size W W') {o : Obj} (ho : W.heap[l]? = some o) (hc : o.isCells = false) : KpC 0 W W' := ⟨h.size, fun k x _ hk hx => by
 by_cases e : k = l
 ·subst e; rw [ho] at hk; injection hk with hk; subst hk; rw [hc] at hx; cases hx
 ·exact (h.block k (Array.getElem?_eq_some_iff.1 hk).1 e).trans hk⟩
theorem find_pre {l : List Tm} {pre : List Tm} {x : Tm} (h : pre ++ [x] <+: l) (hp : ∀ y ∈ pre, isAtomT y = true) (hx : isAtomT x = false) : l.find? (fun y => !isAtomT y) = some x := by
 obtain ⟨r, rfl⟩ := h
 rw [List.append_assoc, List.find?_append, List.find?_eq_none.2 (fun y hy => by simp [hp y hy])]
 simp [hx]
theorem find_all {l : List Tm} (hp : ∀ y ∈ l, isAtomT y = true) : l.find? (fun y => !isAtomT y) = none := List.find?_eq_none.2 fun y hy => by simp [hp y hy]
structure ChkX (w W : World) (L : List Value → List (Nat × List Value)) (R : Option Tm) (c : Code) : Prop where
 ret : c = .ret
 bel : Below w.heap.size w W
 res : ∃ (bb : Tm) (IA : Option Addr) (ic : Nat), Bks W (L [.int .i64 bb.kind, .int .i64 bb.num, .string bb.name, .slice IA bb.args.length ic]) ∧ NewT w W IA bb.args ∧ R = some bb
def ckX (g x : Nat) (pv tv nv xv : List Value) : List (Nat × List Value) := [(x, xv), (g + 1 + 1 + 1 + 1, [.bool false]), (g + 1 + 1 + 1, [.int .i64 0, .int .i64 0, .string ⟨#[]⟩, .slice none 0 0]), (g + 1 + 1, nv), (g + 1, tv), (g, pv)]
end Hb
namespace Go.Proofs.YtfkhcpeahdkafaaGreat
open Go.RowKit Hb Go.Shelf
attribute [local go_sem] Oper.semAt_some
set_option maxRecDepth 100000
set_option maxHeartbeats 6400000 in
theorem f_checkOps_n (p t n : Tm) (PA TA NA : Option Addr) (pc tc nc : Nat) (w : World) (hv : validT n = true) (hP : TmsAt w.heap.size w PA p.args) (hT : TmsAt w.heap.size w TA t.args) (hN : TmsAt w.heap.size w NA n.args) :
  Calls Tryz.prog 145 #[tmV p PA pc, tmV t TA tc, tmV n NA nc] w fun e w' => ∃ (b : Tm) (A : Option Addr) (c : Nat) (ok : Bool), e = .returned (.tuple #[tmV b A c, .bool ok]) ∧ Below w.heap.size w w' ∧ NewT w w' A b.args ∧ (if ok = true then chkC p t n = none ∧ b = zT else chkC p t n = some b) := by
 obtain ⟨R, HR⟩ : ∃ R, Hid (R = chkC p t n) := ⟨_, Lib.hid rfl⟩
 obtain ⟨ta, HTE⟩ : ∃ ta, Hid (ta = tailT n) := ⟨_, Lib.hid rfl⟩
 obtain ⟨EL, HEE⟩ : ∃ l, Hid (l = elemsT n) := ⟨_, Lib.hid rfl⟩
 obtain ⟨u1, HU1⟩ : ∃ b, Hid (b = anyVar [p, t, ta]) := ⟨_, Lib.hid rfl⟩
 obtain ⟨nl, HNL⟩ : ∃ b, Hid (b = isNilT ta) := ⟨_, Lib.hid rfl⟩
 obtain ⟨u2, HU2⟩ : ∃ b, Hid (b = anyVar EL) := ⟨_, Lib.hid rfl⟩
 obtain ⟨ia, HIA⟩ : ∃ b, Hid (b = isAtomT t) := ⟨_, Lib.hid rfl⟩
 obtain ⟨na, HNA⟩ : ∃ b, Hid (b = isAtomT n) := ⟨_, Lib.hid rfl⟩
 obtain ⟨pr, HPR⟩ : ∃ b, Hid (b = isPrioT p) := ⟨_, Lib.hid rfl⟩
 obtain ⟨ty, HTY⟩ : ∃ b, Hid (b = isTypeT t) := ⟨_, Lib.hid rfl⟩
 have HRR : Hid (R = if u1 = true ∨ (nl && u2) = true then some instT
   else if ¬ p.kind = 1 then some (typeT ⟨#[105, 110, 116, 101, 103, 101, 114]⟩ p)
   else if ia = false then some (typeT ⟨#[97, 116, 111, 109]⟩ t)
   else if na = false ∧ nl = false then some (typeT ⟨#[108, 105, 115, 116]⟩ n)
   else match (nmL n).find? (fun x => !isAtomT x) with
    | some x => some (typeT ⟨#[97, 116, 111, 109]⟩ x)
    | none => if pr = false then some (domT ⟨#[111, 112, 101, 114, 97, 116, 111, 114, 95, 112, 114, 105, 111, 114, 105, 116, 121]⟩ p) else if ty = false then some (domT ⟨#[111, 112, 101, 114, 97, 116, 111, 114, 95, 115, 112, 101, 99, 105, 102, 105, 101, 114]⟩ t) else none) := Lib.hid (by
  rw [HR.out, HU1.out, HNL.out, HU2.out, HIA.out, HNA.out, HPR.out, HTY.out, HTE.out, HEE.out]; rfl)
 rw [← HR.out]
 have HVN := Lib.hid hv
 have HPA := Lib.hid hP
 have HTA := Lib.hid hT
 have HNN := Lib.hid hN
 have HEL : Hid (∀ W, Below w.heap.size w W → Calls Tryz.prog 184 #[.agg #[.int .i64 n.kind, .int .i64 n.num, .string n.name, .slice NA n.args.length nc]] W fun e w' => ∃ A1 c1 A2 c2, e = .returned (.tuple #[.slice A1 EL.length c1, tmV ta A2 c2]) ∧ Below W.heap.size W w' ∧ NewT W w' A1 EL ∧ NewT W w' A2 ta.args) := Lib.hid fun W hW => by rw [HTE.out, HEE.out]; exact t_elems n NA nc W ((HNN.out.keep hW).mono hW.size) HVN.out
 have HIAT : Hid (∀ W, Calls Tryz.prog 156 #[.agg #[.int .i64 t.kind, .int .i64 t.num, .string t.name, .slice TA t.args.length tc]] W fun e w' => e = .returned (.bool ia) ∧ Below W.heap.size W w') := Lib.hid fun W => by rw [HIA.out]; exact f_isAtom t TA tc W
 have HIAN : Hid (∀ W, Calls Tryz.prog 156 #[.agg #[.int .i64 n.kind, .int .i64 n.num, .string n.name, .slice NA n.args.length nc]] W fun e w' => e = .returned (.bool na) ∧ Below W.heap.size W w') := Lib.hid fun W => by rw [HNA.out]; exact f_isAtom n NA nc W
 have HPRI : Hid (∀ W, Calls Tryz.prog 153 #[.agg #[.int .i64 p.kind, .int .i64 p.num, .string p.name, .slice PA p.args.length pc]] W fun e w' => e = .returned (.bool pr) ∧ Below W.heap.size W w') := Lib.hid fun W => by rw [HPR.out]; exact f_isPriority p PA pc W
 have HTYP : Hid (∀ W, Calls Tryz.prog 155 #[.agg #[.int .i64 t.kind, .int .i64 t.num, .string t.name, .slice TA t.args.length tc]] W fun e w' => e = .returned (.bool ty) ∧ Below W.heap.size W w') := Lib.hid fun W => by rw [HTY.out]; exact f_isType t TA tc W
 have HSEQ : Hid (∀ W, Calls Tryz.prog 148 #[.agg #[.int .i64 n.kind, .int .i64 n.num, .string n.name, .slice NA n.args.length nc]] W fun e w' => e = .returned (.func (.func 186) #[] #[.pointer (some ⟨W.heap.size, 0, none⟩)]) ∧ TBx w' W.heap.size n NA nc ∧ w' = W.alloc (.cells #[.int .i64 n.kind, .int .i64 n.num, .string n.name, .slice NA n.args.length nc] 26)) := Lib.hid fun W => f_nameSeq n NA nc W
 have HBINS : Hid (∀ W, Calls Tryz.prog 160 #[] W fun e w' => ∃ A' c', e = .returned (tmV instT A' c') ∧ Below W.heap.size W w' ∧ NewT W w' A' instT.args) := Lib.hid fun W => b_inst W
 have HBI : Hid (∀ W, Below w.heap.size w W → Calls Tryz.prog 157 #[.string ⟨#[105, 110, 116, 101, 103, 101, 114]⟩, .agg #[.int .i64 p.kind, .int .i64 p.num, .string p.name, .slice PA p.args.length pc]] W fun e w' => ∃ A' c', e = .returned (tmV (typeT ⟨#[105, 110, 116, 101, 103, 101, 114]⟩ p) A' c') ∧ Below W.heap.size W w' ∧ NewT W w' A' (typeT ⟨#[105, 110, 116, 101, 103, 101, 114]⟩ p).args) := Lib.hid fun W hW => b_type ⟨#[105, 110, 116, 101, 103, 101, 114]⟩ p PA pc W (by decide) ((HPA.out.keep hW).mono hW.size)
 have HBA : Hid (∀ W, Below w.heap.size w W → Calls Tryz.prog 157 #[.string ⟨#[97, 116, 111, 109]⟩, .agg #[.int .i64 t.kind, .int .i64 t.num, .string t.name, .slice TA t.args.length tc]] W fun e w' => ∃ A' c', e = .returned (tmV (typeT ⟨#[97, 116, 111, 109]⟩ t) A' c') ∧ Below W.heap.size W w' ∧ NewT W w' A' (typeT ⟨#[97, 116, 111, 109]⟩ t).args) := Lib.hid fun W hW => b_type ⟨#[97, 116, 111, 109]⟩ t TA tc W (by decide) ((HTA.out.keep hW).mono hW.size)
 have HBLI : Hid (∀ W, Below w.heap.size w W → Calls Tryz.prog 157 #[.string ⟨#[108, 105, 115, 116]⟩, .agg #[.int .i64 n.kind, .int .i64 n.num, .string n.name, .slice NA n.args.length nc]] W fun e w' => ∃ A' c', e = .returned (tmV (typeT ⟨#[108, 105, 115, 116]⟩ n) A' c') ∧ Below W.heap.size W w' ∧ NewT W w' A' (typeT ⟨#[108, 105, 115, 116]⟩ n).args) := Lib.hid fun W hW => b_type ⟨#[108, 105, 115, 116]⟩ n NA nc W (by decide) ((HNN.out.keep hW).mono hW.size)
 have HBP : Hid (∀ W, Below w.heap.size w W → Calls Tryz.prog 154 #[.string ⟨#[111, 112, 101, 114, 97, 116, 111, 114, 95, 112, 114, 105, 111, 114, 105, 116, 121]⟩, .agg #[.int .i64 p.kind, .int .i64 p.num, .string p.name, .slice PA p.args.length pc]] W fun e w' => ∃ A' c', e = .returned (tmV (domT ⟨#[111, 112, 101, 114, 97, 116, 111, 114, 95, 112, 114, 105, 111, 114, 105, 116, 121]⟩ p) A' c') ∧ Below W.heap.size W w' ∧ NewT W w' A' (domT ⟨#[111, 112, 101, 114, 97, 116, 111, 114, 95, 112, 114, 105, 111, 114, 105, 116, 121]⟩ p).args) := Lib.hid fun W hW => b_domain ⟨#[111, 112, 101, 114, 97, 116, 111, 114, 95, 112, 114, 105, 111, 114, 105, 116, 121]⟩ p PA pc W (by decide) ((HPA.out.keep hW).mono hW.size)
 have HBS : Hid (∀ W, Below w.heap.size w W → Calls Tryz.prog 154 #[.string ⟨#[111, 112, 101, 114, 97, 116, 111, 114, 95, 115, 112, 101, 99, 105, 102, 105, 101, 114]⟩, .agg #[.int .i64 t.kind, .int .i64 t.num, .string t.name, .slice TA t.args.length tc]] W fun e w' => ∃ A' c', e = .returned (tmV (domT ⟨#[111, 112, 101, 114, 97, 116, 111, 114, 95, 115, 112, 101, 99, 105, 102, 105, 101, 114]⟩ t) A' c') ∧ Below W.heap.size W w' ∧ NewT W w' A' (domT ⟨#[111, 112, 101, 114, 97, 116, 111, 114, 95, 115, 112, 101, 99, 105, 102, 105, 101, 114]⟩ t).args) := Lib.hid fun W hW => b_domain ⟨#[111, 112, 101, 114, 97, 116, 111, 114, 95, 115, 112, 101, 99, 105, 102, 105, 101, 114]⟩ t TA tc W (by decide) ((HTA.out.keep hW).mono hW.size)
 have HBL0 : Hid (Below w.heap.size w (((((w.alloc (.cells #[.int .i64 p.kind, .int .i64 p.num, .string p.name, .slice PA p.args.length pc] 26)).alloc (.cells #[.int .i64 t.kind, .int .i64 t.num, .string t.name, .slice TA t.args.length tc] 26)).alloc (.cells #[.int .i64 n.kind, .int .i64 n.num, .string n.name, .slice NA n.args.length nc] 26)).alloc (.cells #[.int .i64 0, .int .i64 0, .string ⟨#[]⟩, .slice none 0 0] 26)).alloc (.cells #[.bool false] 4))) := Lib.hid ((((((Below.refl _ w).alloc (Nat.le_refl _) _).alloc (by simp) _).alloc (by simp; omega) _).alloc (by simp; omega) _).alloc (by simp; omega) _)
 have HBK0 : Hid (Bks (((((w.alloc (.cells #[.int .i64 p.kind, .int .i64 p.num, .string p.name, .slice PA p.args.length pc] 26)).alloc (.cells #[.int .i64 t.kind, .int .i64 t.num, .string t.name, .slice TA t.args.length tc] 26)).alloc (.cells #[.int .i64 n.kind, .int .i64 n.num, .string n.name, .slice NA n.args.length nc] 26)).alloc (.cells #[.int .i64 0, .int .i64 0, .string ⟨#[]⟩, .slice none 0 0] 26)).alloc (.cells #[.bool false] 4)) [(w.heap.size + 1 + 1 + 1 + 1, [.bool false]), (w.heap.size + 1 + 1 + 1, [.int .i64 0, .int .i64 0, .string ⟨#[]⟩, .slice none 0 0]), (w.heap.size + 1 + 1, [.int .i64 n.kind, .int .i64 n.num, .string n.name, .slice NA n.args.length nc]), (w.heap.size + 1, [.int .i64 t.kind, .int .i64 t.num, .string t.name, .slice TA t.args.length tc]), (w.heap.size, [.int .i64 p.kind, .int .i64 p.num, .string p.name, .slice PA p.args.length pc])]) := Lib.hid ((((((Bks.nil w).new [.int .i64 p.kind, .int .i64 p.num, .string p.name, .slice PA p.args.length pc] 26 rfl).new [.int .i64 t.kind, .int .i64 t.num, .string t.name, .slice TA t.args.length tc] 26 (by simp)).new [.int .i64 n.kind, .int .i64 n.num, .string n.name, .slice NA n.args.length nc] 26 (by simp)).new [.int .i64 0, .int .i64 0, .string ⟨#[]⟩, .slice none 0 0] 26 (by simp)).new [.bool false] 4 (by simp))
 clear hv hP hT hN HR
 refine (callsIn_wide (n := 8)).1 ?_
 refine callsIn_of_wp_marks Tryz.func145 rfl trivial ?_ rfl
 unfold tmV at *
 simp only [Tryz.ntmps145, List.size_toArray, List.length_cons, List.length_nil, Nat.reduceAdd, Nat.reduceSub, Array.replicate_succ, Array.replicate_zero, List.push_toArray, List.append_toArray, List.nil_append, List.cons_append]
 refine wpIn_wide.2 ?_
 go_wp2_with fail
 refine (HEL.out _ HBL0.out).mono ?_; rintro e w1 ⟨A1, k1, EA, ec, rfl, hB1, hN1, hN2⟩
 have HB_1 := Lib.hid (HBL0.out.trans (hB1.mono HBL0.out.size))
 have HK_1 := Lib.hid (HBK0.out.call hB1)
 have HR1_1 := Lib.hid (TmsK.at' hN1)
 have HR2_1 := Lib.hid (TmsK.at' hN2)
 clear hB1 hN1 hN2 HBL0 HBK0 HEL
 have cc2 := HK_1.out.all
 simp only [bksAll, bkAll, Nat.zero_add, Nat.reduceAdd, and_true] at cc2
 obtain ⟨NL, HLL⟩ : ∃ NL, Hid (NL = EL.length) := ⟨_, Lib.hid rfl⟩
 rw [← HLL.out]
 have HIN : Hid (∀ W, Calls Tryz.prog 185 #[.agg #[.int .i64 ta.kind, .int .i64 ta.num, .string ta.name, .slice EA ta.args.length ec]] W fun e w' => e = .returned (.bool nl) ∧ Below W.heap.size W w') := Lib.hid fun W => by rw [HNL.out]; exact f_isNil ta EA ec W
 go_wp2_with fail
 refine (HIN.out _).mono ?_; rintro e w2 ⟨rfl, hB2⟩
 have hB12 : Below w1.heap.size w1 w2 := ((Below.refl w1.heap.size w1).alloc (Nat.le_refl _) _).trans (hB2.mono (by simp))
 have HB_2 := Lib.hid (HB_1.out.trans (hB12.mono HB_1.out.size))
 have HK_2 := Lib.hid ((HK_1.out.new [.int .i64 ta.kind, .int .i64 ta.num, .string ta.name, .slice EA ta.args.length ec] 26 rfl).call hB2)
 have HR1_2 := Lib.hid ((HR1_1.out.keep hB12).mono hB12.size)
 have HR2_2 := Lib.hid ((HR2_1.out.keep hB12).mono hB12.size)
 clear hB2 hB12 HB_1 HK_1 HR1_1 HR2_1 HIN cc2
 have cc3 := HK_2.out.all
 simp only [bksAll, bkAll, Nat.zero_add, Nat.reduceAdd, and_true] at cc3
 have HUB : Hid (Calls Tryz.prog 152 #[.slice (some ⟨w2.heap.size, 0, none⟩) 3 3] (w2.alloc (.cells #[.int .i64 p.kind, .int .i64 p.num, .string p.name, .slice PA p.args.length pc, .int .i64 t.kind, .int .i64 t.num, .string t.name, .slice TA t.args.length tc, .int .i64 ta.kind, .int .i64 ta.num, .string ta.name, .slice EA ta.args.length ec] 26)) fun e w' => e = .returned (.bool u1) ∧ Below (w2.alloc (.cells #[.int .i64 p.kind, .int .i64 p.num, .string p.name, .slice PA p.args.length pc, .int .i64 t.kind, .int .i64 t.num, .string t.name, .slice TA t.args.length tc, .int .i64 ta.kind, .int .i64 ta.num, .string ta.name, .slice EA ta.args.length ec] 26)).heap.size (w2.alloc (.cells #[.int .i64 p.kind, .int .i64 p.num, .string p.name, .slice PA p.args.length pc, .int .i64 t.kind, .int .i64 t.num, .string t.name, .slice TA t.args.length tc, .int .i64 ta.kind, .int .i64 ta.num, .string ta.name, .slice EA ta.args.length ec] 26)) w') := Lib.hid (by
  have hr := TmsK.rows (K := fun b => b < w2.heap.size + 1) (w := w2) (rs := [(p, PA, pc), (t, TA, tc), (ta, EA, ec)]) (e := 26) (by omega) (by simp [maxLen]) (fun x hx => by
   have hal := Below.alloc (Below.refl w2.heap.size w2) (Nat.le_refl _) (.cells (rowsC [(p, PA, pc), (t, TA, tc), (ta, EA, ec)]).toArray 26)
   simp only [List.mem_cons, List.mem_nil_iff, or_false] at hx
   rcases hx with rfl | rfl | rfl
   ·exact ((HPA.out.keep HB_2.out).mono HB_2.out.size |>.keep hal).mono (by omega)
   ·exact ((HTA.out.keep HB_2.out).mono HB_2.out.size |>.keep hal).mono (by omega)
   ·exact (HR2_2.out.keep hal).mono (by omega))
  have := f_unbound _ _ 3 _ (TmsK.at' hr)
  rw [show ([(p, PA, pc), (t, TA, tc), (ta, EA, ec)] : List TR).map (fun x : TR => x.1) = [p, t, ta] from rfl, ← HU1.out] at this
  exact this)
 go_wp2_with fail
 refine HUB.out.mono ?_; rintro e w3 ⟨rfl, hB3⟩
 have hB23 : Below w2.heap.size w2 w3 := ((Below.refl w2.heap.size w2).alloc (Nat.le_refl _) _).trans (hB3.mono (by simp))
 have HB_3 := Lib.hid (HB_2.out.trans (hB23.mono HB_2.out.size))
 have HK_3 := Lib.hid (HK_2.out.call hB23)
 have HR1_3 := Lib.hid ((HR1_2.out.keep hB23).mono hB23.size)
 clear hB3 hB23 HUB HB_2 HK_2 HR1_2 HR2_2 cc3
 have HL1 : Hid (w.heap.size + 1 + 1 + 1 + 1 < w1.heap.size) := Lib.hid (by
  have h := HK_3.out.ord
  simp only [List.map_cons, List.pairwise_cons] at h
  exact h.1 _ (by simp))
 obtain ⟨x0, HX0⟩ : ∃ x0, Hid (x0 = w1.heap.size) := ⟨_, Lib.hid rfl⟩
 rw [← HX0.out] at HK_3 HL1 ⊢
 have HK_3 : Hid (Bks w3 (ckX w.heap.size x0 [.int .i64 p.kind, .int .i64 p.num, .string p.name, .slice PA p.args.length pc] [.int .i64 t.kind, .int .i64 t.num, .string t.name, .slice TA t.args.length tc] [.int .i64 n.kind, .int .i64 n.num, .string n.name, .slice NA n.args.length nc] [.int .i64 ta.kind, .int .i64 ta.num, .string ta.name, .slice EA ta.args.length ec])) := HK_3
 go_upto_if 19 with fail
 go_cut [19] from 25 to 29 (fun v wc => v = .bool (u1 || (nl && u2)) ∧ Hid (Below w.heap.size w wc) ∧ Hid (Bks wc (ckX w.heap.size x0 [.int .i64 p.kind, .int .i64 p.num, .string p.name, .slice PA p.args.length pc] [.int .i64 t.kind, .int .i64 t.num, .string t.name, .slice TA t.args.length tc] [.int .i64 n.kind, .int .i64 n.num, .string n.name, .slice NA n.args.length nc] [.int .i64 ta.kind, .int .i64 ta.num, .string ta.name, .slice EA ta.args.length ec])))
 case first =>
  cases u1
  ·cases nl
   ·go_wp2_with fail
    go_meet
    exact ⟨rfl, HB_3, HK_3⟩
   ·have HU3 := Lib.hid (f_unbound EL A1 k1 w3 HR1_3.out)
    rw [← HLL.out, ← HU2.out] at HU3
    go_wp2_with fail
    refine HU3.out.mono ?_; rintro e w4 ⟨rfl, hB4⟩
    have HB_4 := Lib.hid (HB_3.out.trans (hB4.mono HB_3.out.size))
    have HK_4 := Lib.hid (HK_3.out.call hB4)
    go_wp2_with fail
    go_meet
    exact ⟨rfl, HB_4, HK_4⟩
  ·go_wp2_with fail
   go_meet
   exact ⟨rfl, HB_3, HK_3⟩
 case rest =>
  obtain ⟨rfl, HB_5, HK_5⟩ := hcut
  clear HB_3 HK_3 HR1_3 HLL
  obtain ⟨uu, HUU⟩ : ∃ b, Hid (b = (u1 || (nl && u2))) := ⟨_, Lib.hid rfl⟩
  rw [← HUU.out]
  cases uu
  rotate_left
  ·have h1 : u1 = true ∨ (nl && u2) = true := by have := HUU.out.symm; rwa [Bool.or_eq_true] at this
   have HR1 := Lib.hid (HRR.out.trans (if_pos h1))
   clear h1
   have cc6 := HK_5.out.all
   unfold ckX at cc6
   simp only [bksAll, bkAll, Nat.zero_add, Nat.reduceAdd, and_true] at cc6
   have HL2 : Hid (w.heap.size + 1 + 1 + 1 + 1 < wc.heap.size ∧ w.heap.size ≤ wc.heap.size) := Lib.hid ⟨HK_5.out.lt 1 rfl, HB_5.out.size⟩
   go_wp2_with fail
   refine (HBINS.out _).mono ?_; rintro e wA ⟨IA, ic, rfl, hBx, hNx⟩
   have HB_A := Lib.hid (HB_5.out.trans (hBx.mono HB_5.out.size))
   have HK_A := Lib.hid (HK_5.out.call hBx)
   have HN_A := Lib.hid hNx
   clear hBx hNx HB_5 HK_5 cc6
   obtain ⟨bb, HBB⟩ : ∃ b, Hid (b = instT) := ⟨_, Lib.hid rfl⟩
   rw [← HBB.out] at HN_A ⊢
   have HRE : Hid (R = some bb) := Lib.hid (by rw [HBB.out]; exact HR1.out)
   have ca := HK_A.out.all
   unfold ckX at ca
   simp only [bksAll, bkAll, Nat.zero_add, Nat.reduceAdd, and_true] at ca
   obtain ⟨wz, HWZ⟩ : ∃ wz, Hid (wz = setL (setL wA (w.heap.size + 1 + 1 + 1) 0 [.int .i64 bb.kind, .int .i64 bb.num, .string bb.name, .slice IA bb.args.length ic]) (w.heap.size + 1 + 1 + 1 + 1) 0 [.bool false]) := ⟨_, Lib.hid rfl⟩
   have hk := (HK_A.out.put 2 rfl [.int .i64 bb.kind, .int .i64 bb.num, .string bb.name, .slice IA bb.args.length ic] rfl).put 1 (g := w.heap.size + 1 + 1 + 1 + 1) (vs := [.bool false]) rfl [.bool false] rfl
   have hb := setL_below (B := w.heap.size) (g := w.heap.size + 1 + 1 + 1 + 1) (by omega) [.bool false] _ 0 (setL_below (B := w.heap.size) (g := w.heap.size + 1 + 1 + 1) (by omega) [.int .i64 bb.kind, .int .i64 bb.num, .string bb.name, .slice IA bb.args.length ic] _ 0 HB_A.out)
   rw [← HWZ.out] at hk hb
   have hn : NewT w wz IA bb.args := HN_A.out.keep (fun b hb => by have := HL2.out.1; rw [HWZ.out, setL_other (by have := hb.1; omega), setL_other (by have := hb.1; omega)]) (fun b hb => ⟨Nat.le_trans HL2.out.2 hb.1, by rw [HWZ.out, setL_size, setL_size]; exact hb.2⟩)
   have hz := HWZ.out
   simp only [setL, Nat.zero_add, Nat.reduceAdd] at hz
   have HWY := Lib.hid hz
   have HK_Z := Lib.hid hk
   have HB_Z := Lib.hid hb
   have HN_Z := Lib.hid hn
   clear hz hk hb hn HWZ HK_A HB_A HN_A HL2
   go_wp2_with fail
   rw [← HWY.out]
   have cz := HK_Z.out.all
   unfold ckX at cz
   simp only [bksAll, bkAll, Nat.zero_add, Nat.reduceAdd, and_true, List.set_cons_zero, List.set_cons_succ] at cz
   exact ⟨.tuple #[.agg #[.int .i64 bb.kind, .int .i64 bb.num, .string bb.name, .slice IA bb.args.length ic], .bool false], by simp [results, Tryz.results145, go_sem, cz], bb, IA, ic, false, rfl, HB_Z.out, HN_Z.out, by rw [if_neg (by simp)]; exact HRE.out⟩
  have h1 : ¬ (u1 = true ∨ (nl && u2) = true) := by have := HUU.out.symm; rwa [← Bool.or_eq_true, Bool.not_eq_true]
  have HR1 := Lib.hid (HRR.out.trans (if_neg h1))
  clear h1 HUU HRR
  by_cases hpk : p.kind = 1
  rotate_left
  ·have HR2 := Lib.hid (HR1.out.trans (if_pos hpk))
   have t1 : (p.kind != 1) = true := by simp [hpk]
   clear hpk
   have cc6 := HK_5.out.all
   unfold ckX at cc6
   simp only [bksAll, bkAll, Nat.zero_add, Nat.reduceAdd, and_true] at cc6
   have HL2 : Hid (w.heap.size + 1 + 1 + 1 + 1 < wc.heap.size ∧ w.heap.size ≤ wc.heap.size) := Lib.hid ⟨HK_5.out.lt 1 rfl, HB_5.out.size⟩
   go_wp2_with fail
   refine (HBI.out _ HB_5.out).mono ?_; rintro e wA ⟨IA, ic, rfl, hBx, hNx⟩
   have HB_A := Lib.hid (HB_5.out.trans (hBx.mono HB_5.out.size))
   have HK_A := Lib.hid (HK_5.out.call hBx)
   have HN_A := Lib.hid hNx
   clear hBx hNx HB_5 HK_5 cc6
   obtain ⟨bb, HBB⟩ : ∃ b, Hid (b = typeT ⟨#[105, 110, 116, 101, 103, 101, 114]⟩ p) := ⟨_, Lib.hid rfl⟩
   rw [← HBB.out] at HN_A ⊢
   have HRE : Hid (R = some bb) := Lib.hid (by rw [HBB.out]; exact HR2.out)
   have ca := HK_A.out.all
   unfold ckX at ca
   simp only [bksAll, bkAll, Nat.zero_add, Nat.reduceAdd, and_true] at ca
   obtain ⟨wz, HWZ⟩ : ∃ wz, Hid (wz = setL (setL wA (w.heap.size + 1 + 1 + 1) 0 [.int .i64 bb.kind, .int .i64 bb.num, .string bb.name, .slice IA bb.args.length ic]) (w.heap.size + 1 + 1 + 1 + 1) 0 [.bool false]) := ⟨_, Lib.hid rfl⟩
   have hk := (HK_A.out.put 2 rfl [.int .i64 bb.kind, .int .i64 bb.num, .string bb.name, .slice IA bb.args.length ic] rfl).put 1 (g := w.heap.size + 1 + 1 + 1 + 1) (vs := [.bool false]) rfl [.bool false] rfl
   have hb := setL_below (B := w.heap.size) (g := w.heap.size + 1 + 1 + 1 + 1) (by omega) [.bool false] _ 0 (setL_below (B := w.heap.size) (g := w.heap.size + 1 + 1 + 1) (by omega) [.int .i64 bb.kind, .int .i64 bb.num, .string bb.name, .slice IA bb.args.length ic] _ 0 HB_A.out)
   rw [← HWZ.out] at hk hb
   have hn : NewT w wz IA bb.args := HN_A.out.keep (fun b hb => by have := HL2.out.1; rw [HWZ.out, setL_other (by have := hb.1; omega), setL_other (by have := hb.1; omega)]) (fun b hb => ⟨Nat.le_trans HL2.out.2 hb.1, by rw [HWZ.out, setL_size, setL_size]; exact hb.2⟩)
   have hz := HWZ.out
   simp only [setL, Nat.zero_add, Nat.reduceAdd] at hz
   have HWY := Lib.hid hz
   have HK_Z := Lib.hid hk
   have HB_Z := Lib.hid hb
   have HN_Z := Lib.hid hn
   clear hz hk hb hn HWZ HK_A HB_A HN_A HL2
   go_wp2_with fail
   rw [← HWY.out]
   have cz := HK_Z.out.all
   unfold ckX at cz
   simp only [bksAll, bkAll, Nat.zero_add, Nat.reduceAdd, and_true, List.set_cons_zero, List.set_cons_succ] at cz
   exact ⟨.tuple #[.agg #[.int .i64 bb.kind, .int .i64 bb.num, .string bb.name, .slice IA bb.args.length ic], .bool false], by simp [results, Tryz.results145, go_sem, cz], bb, IA, ic, false, rfl, HB_Z.out, HN_Z.out, by rw [if_neg (by simp)]; exact HRE.out⟩
  have HR2 := Lib.hid (HR1.out.trans (if_neg (by rw [hpk]; decide)))
  have t1 : (p.kind != 1) = false := by simp [hpk]
  clear hpk HR1
  have cc6 := HK_5.out.all
  unfold ckX at cc6
  simp only [bksAll, bkAll, Nat.zero_add, Nat.reduceAdd, and_true] at cc6
  go_wp2_with fail
  refine (HIAT.out _).mono ?_; rintro e w7 ⟨rfl, hB7⟩
  have HB_8 := Lib.hid (HB_5.out.trans (hB7.mono HB_5.out.size))
  have HK_8 := Lib.hid (HK_5.out.call hB7)
  clear hB7 HB_5 HK_5  cc6 t1
  cases ia
  ·have HR3 := Lib.hid (HR2.out.trans (if_pos rfl))
   have cc9 := HK_8.out.all
   unfold ckX at cc9
   simp only [bksAll, bkAll, Nat.zero_add, Nat.reduceAdd, and_true] at cc9
   have HL2 : Hid (w.heap.size + 1 + 1 + 1 + 1 < w7.heap.size ∧ w.heap.size ≤ w7.heap.size) := Lib.hid ⟨HK_8.out.lt 1 rfl, HB_8.out.size⟩
   go_wp2_with fail
   refine (HBA.out _ HB_8.out).mono ?_; rintro e wA ⟨IA, ic, rfl, hBx, hNx⟩
   have HB_A := Lib.hid (HB_8.out.trans (hBx.mono HB_8.out.size))
   have HK_A := Lib.hid (HK_8.out.call hBx)
   have HN_A := Lib.hid hNx
   clear hBx hNx HB_8 HK_8 cc9
   obtain ⟨bb, HBB⟩ : ∃ b, Hid (b = typeT ⟨#[97, 116, 111, 109]⟩ t) := ⟨_, Lib.hid rfl⟩
   rw [← HBB.out] at HN_A ⊢
   have HRE : Hid (R = some bb) := Lib.hid (by rw [HBB.out]; exact HR3.out)
   have ca := HK_A.out.all
   unfold ckX at ca
   simp only [bksAll, bkAll, Nat.zero_add, Nat.reduceAdd, and_true] at ca
   obtain ⟨wz, HWZ⟩ : ∃ wz, Hid (wz = setL (setL wA (w.heap.size + 1 + 1 + 1) 0 [.int .i64 bb.kind, .int .i64 bb.num, .string bb.name, .slice IA bb.args.length ic]) (w.heap.size + 1 + 1 + 1 + 1) 0 [.bool false]) := ⟨_, Lib.hid rfl⟩
   have hk := (HK_A.out.put 2 rfl [.int .i64 bb.kind, .int .i64 bb.num, .string bb.name, .slice IA bb.args.length ic] rfl).put 1 (g := w.heap.size + 1 + 1 + 1 + 1) (vs := [.bool false]) rfl [.bool false] rfl
   have hb := setL_below (B := w.heap.size) (g := w.heap.size + 1 + 1 + 1 + 1) (by omega) [.bool false] _ 0 (setL_below (B := w.heap.size) (g := w.heap.size + 1 + 1 + 1) (by omega) [.int .i64 bb.kind, .int .i64 bb.num, .string bb.name, .slice IA bb.args.length ic] _ 0 HB_A.out)
   rw [← HWZ.out] at hk hb
   have hn : NewT w wz IA bb.args := HN_A.out.keep (fun b hb => by have := HL2.out.1; rw [HWZ.out, setL_other (by have := hb.1; omega), setL_other (by have := hb.1; omega)]) (fun b hb => ⟨Nat.le_trans HL2.out.2 hb.1, by rw [HWZ.out, setL_size, setL_size]; exact hb.2⟩)
   have hz := HWZ.out
   simp only [setL, Nat.zero_add, Nat.reduceAdd] at hz
   have HWY := Lib.hid hz
   have HK_Z := Lib.hid hk
   have HB_Z := Lib.hid hb
   have HN_Z := Lib.hid hn
   clear hz hk hb hn HWZ HK_A HB_A HN_A HL2
   go_wp2_with fail
   rw [← HWY.out]
   have cz := HK_Z.out.all
   unfold ckX at cz
   simp only [bksAll, bkAll, Nat.zero_add, Nat.reduceAdd, and_true, List.set_cons_zero, List.set_cons_succ] at cz
   exact ⟨.tuple #[.agg #[.int .i64 bb.kind, .int .i64 bb.num, .string bb.name, .slice IA bb.args.length ic], .bool false], by simp [results, Tryz.results145, go_sem, cz], bb, IA, ic, false, rfl, HB_Z.out, HN_Z.out, by rw [if_neg (by simp)]; exact HRE.out⟩
  have HR3 := Lib.hid (HR2.out.trans (if_neg (by simp)))
  clear HR2
  go_upto_region 10 with fail
  go_cut [43] from 44 to 50 (fun v wc => v = .bool (!na && !nl) ∧ Hid (Below w.heap.size w wc) ∧ Hid (Bks wc (ckX w.heap.size x0 [.int .i64 p.kind, .int .i64 p.num, .string p.name, .slice PA p.args.length pc] [.int .i64 t.kind, .int .i64 t.num, .string t.name, .slice TA t.args.length tc] [.int .i64 n.kind, .int .i64 n.num, .string n.name, .slice NA n.args.length nc] [.int .i64 ta.kind, .int .i64 ta.num, .string ta.name, .slice EA ta.args.length ec])))
  case first =>
   have cc9 := HK_8.out.all
   unfold ckX at cc9
   simp only [bksAll, bkAll, Nat.zero_add, Nat.reduceAdd, and_true] at cc9
   go_wp2_with fail
   refine (HIAN.out _).mono ?_; rintro e w10 ⟨rfl, hB10⟩
   have HB_11 := Lib.hid (HB_8.out.trans (hB10.mono HB_8.out.size))
   have HK_11 := Lib.hid (HK_8.out.call hB10)
   clear hB10 HB_8 HK_8  cc9 
   cases na <;> cases nl <;> (go_wp2_with fail; go_meet; exact ⟨rfl, HB_11, HK_11⟩)
  case rest =>
   obtain ⟨rfl, HB_20, HK_20⟩ := hcut
   clear HB_8 HK_8
   obtain ⟨ll, HLLL⟩ : ∃ b, Hid (b = (!na && !nl)) := ⟨_, Lib.hid rfl⟩
   rw [← HLLL.out]
   cases ll
   rotate_left
   ·have HR4 := Lib.hid (HR3.out.trans (if_pos (by have := HLLL.out.symm; simpa using this)))
    have cc21 := HK_20.out.all
    unfold ckX at cc21
    simp only [bksAll, bkAll, Nat.zero_add, Nat.reduceAdd, and_true] at cc21
    have HL2 : Hid (w.heap.size + 1 + 1 + 1 + 1 < wc.heap.size ∧ w.heap.size ≤ wc.heap.size) := Lib.hid ⟨HK_20.out.lt 1 rfl, HB_20.out.size⟩
    go_wp2_with fail
    refine (HBLI.out _ HB_20.out).mono ?_; rintro e wA ⟨IA, ic, rfl, hBx, hNx⟩
    have HB_A := Lib.hid (HB_20.out.trans (hBx.mono HB_20.out.size))
    have HK_A := Lib.hid (HK_20.out.call hBx)
    have HN_A := Lib.hid hNx
    clear hBx hNx HB_20 HK_20 cc21
    obtain ⟨bb, HBB⟩ : ∃ b, Hid (b = typeT ⟨#[108, 105, 115, 116]⟩ n) := ⟨_, Lib.hid rfl⟩
    rw [← HBB.out] at HN_A ⊢
    have HRE : Hid (R = some bb) := Lib.hid (by rw [HBB.out]; exact HR4.out)
    have ca := HK_A.out.all
    unfold ckX at ca
    simp only [bksAll, bkAll, Nat.zero_add, Nat.reduceAdd, and_true] at ca
    obtain ⟨wz, HWZ⟩ : ∃ wz, Hid (wz = setL (setL wA (w.heap.size + 1 + 1 + 1) 0 [.int .i64 bb.kind, .int .i64 bb.num, .string bb.name, .slice IA bb.args.length ic]) (w.heap.size + 1 + 1 + 1 + 1) 0 [.bool false]) := ⟨_, Lib.hid rfl⟩
    have hk := (HK_A.out.put 2 rfl [.int .i64 bb.kind, .int .i64 bb.num, .string bb.name, .slice IA bb.args.length ic] rfl).put 1 (g := w.heap.size + 1 + 1 + 1 + 1) (vs := [.bool false]) rfl [.bool false] rfl
    have hb := setL_below (B := w.heap.size) (g := w.heap.size + 1 + 1 + 1 + 1) (by omega) [.bool false] _ 0 (setL_below (B := w.heap.size) (g := w.heap.size + 1 + 1 + 1) (by omega) [.int .i64 bb.kind, .int .i64 bb.num, .string bb.name, .slice IA bb.args.length ic] _ 0 HB_A.out)
    rw [← HWZ.out] at hk hb
    have hn : NewT w wz IA bb.args := HN_A.out.keep (fun b hb => by have := HL2.out.1; rw [HWZ.out, setL_other (by have := hb.1; omega), setL_other (by have := hb.1; omega)]) (fun b hb => ⟨Nat.le_trans HL2.out.2 hb.1, by rw [HWZ.out, setL_size, setL_size]; exact hb.2⟩)
    have hz := HWZ.out
    simp only [setL, Nat.zero_add, Nat.reduceAdd] at hz
    have HWY := Lib.hid hz
    have HK_Z := Lib.hid hk
    have HB_Z := Lib.hid hb
    have HN_Z := Lib.hid hn
    clear hz hk hb hn HWZ HK_A HB_A HN_A HL2
    go_wp2_with fail
    rw [← HWY.out]
    have cz := HK_Z.out.all
    unfold ckX at cz
    simp only [bksAll, bkAll, Nat.zero_add, Nat.reduceAdd, and_true, List.set_cons_zero, List.set_cons_succ] at cz
    exact ⟨.tuple #[.agg #[.int .i64 bb.kind, .int .i64 bb.num, .string bb.name, .slice IA bb.args.length ic], .bool false], by simp [results, Tryz.results145, go_sem, cz], bb, IA, ic, false, rfl, HB_Z.out, HN_Z.out, by rw [if_neg (by simp)]; exact HRE.out⟩
   have HR4 := Lib.hid (HR3.out.trans (if_neg (by have := HLLL.out.symm; simpa using this)))
   clear HR3 HLLL
   have cc21 := HK_20.out.all
   unfold ckX at cc21
   simp only [bksAll, bkAll, Nat.zero_add, Nat.reduceAdd, and_true] at cc21
   go_wp2_with fail
   refine (HSEQ.out _).mono ?_; rintro e w6 ⟨rfl, hX6, hw6⟩
   have hs56 : wc.heap.size < w6.heap.size := by rw [hw6]; simp
   have HB_6 : Hid (Below w.heap.size w w6) := Lib.hid (by rw [hw6]; exact HB_20.out.alloc HB_20.out.size _)
   have HK_6 : Hid (Bks w6 (ckX w.heap.size x0 [.int .i64 p.kind, .int .i64 p.num, .string p.name, .slice PA p.args.length pc] [.int .i64 t.kind, .int .i64 t.num, .string t.name, .slice TA t.args.length tc] [.int .i64 n.kind, .int .i64 n.num, .string n.name, .slice NA n.args.length nc] [.int .i64 ta.kind, .int .i64 ta.num, .string ta.name, .slice EA ta.args.length ec])) := Lib.hid (by rw [hw6]; exact HK_20.out.al _)
   have HSQ := Lib.hid (names_stops 7 n NA nc wc.heap.size w6 HVN.out hX6 hs56 ((HNN.out.keep HB_6.out).mono HB_6.out.size))
   clear hw6 hX6 hs56 HB_20 HK_20 cc21
   go_wp2_with fail
   refine (wpIn_wide (n := 8)).1 ?_
   refine wpIn_rangeX rfl (by omega) (gf := 186) (lb := #[.pointer (some ⟨wc.heap.size, 0, none⟩)]) rfl trivial (enters_of Tryz.func186 (by kernel_rfl) rfl) HSQ.out (fun h k => h.trans k) (fun W l o o' _ h hc => KpC.put W l o o' h hc) (fun _ => rfl)
    (fun pre W => Below w.heap.size w W ∧ Bks W (ckX w.heap.size x0 [.int .i64 p.kind, .int .i64 p.num, .string p.name, .slice PA p.args.length pc] [.int .i64 t.kind, .int .i64 t.num, .string t.name, .slice TA t.args.length tc] [.int .i64 n.kind, .int .i64 n.num, .string n.name, .slice NA n.args.length nc] [.int .i64 ta.kind, .int .i64 ta.num, .string ta.name, .slice EA ta.args.length ec]) ∧ ∀ y ∈ pre.map (fun x : TR => x.1), isAtomT y = true) (fun c _ W => ChkX w W (fun r => [(x0, [.int .i64 ta.kind, .int .i64 ta.num, .string ta.name, .slice EA ta.args.length ec]), (w.heap.size + 1 + 1 + 1 + 1, [.bool false]), (w.heap.size + 1 + 1 + 1, r), (w.heap.size + 1 + 1, [.int .i64 n.kind, .int .i64 n.num, .string n.name, .slice NA n.args.length nc]), (w.heap.size + 1, [.int .i64 t.kind, .int .i64 t.num, .string t.name, .slice TA t.args.length tc]), (w.heap.size, [.int .i64 p.kind, .int .i64 p.num, .string p.name, .slice PA p.args.length pc])]) R c)
    (OwnFrom.and (ownFrom_below (Nat.le_refl _) HB_6.out.size) (OwnFrom.and (Bks.own _ (fun _ => (ckX w.heap.size x0 [.int .i64 p.kind, .int .i64 p.num, .string p.name, .slice PA p.args.length pc] [.int .i64 t.kind, .int .i64 t.num, .string t.name, .slice TA t.args.length tc] [.int .i64 n.kind, .int .i64 n.num, .string n.name, .slice NA n.args.length nc] [.int .i64 ta.kind, .int .i64 ta.num, .string ta.name, .slice EA ta.args.length ec]))) (fun _ _ _ _ h _ _ => h))) (fun c => ?ownx) ⟨HB_6.out, HK_6.out, fun y hy => by cases hy⟩ ?round ?done ?stop
   case ownx =>
    intro s X Y row h hg hr
    obtain ⟨h1, h2, bb, IA, ic, hk, hn, hR⟩ := h
    exact ⟨h1, (show OwnFrom w6.heap.size (fun (_ : List TR) W => Below w.heap.size w W) from ownFrom_below (Nat.le_refl _) HB_6.out.size) s X Y row h2 hg hr, bb, IA, ic, Bks.own _ (fun _ => _) s X Y row hk hg hr, newT_own w IA bb.args s X Y row hn hg hr, hR⟩
   case round =>
    rintro l pre ⟨a, XA, xc⟩ W hl hlW ⟨ob, hob, hoc⟩ ⟨hb, hk, hall⟩ hx hsp
    obtain ⟨ba, HBE⟩ : ∃ b, Hid (b = isAtomT a) := ⟨_, Lib.hid rfl⟩
    have HAT : Hid (∀ W, Calls Tryz.prog 156 #[.agg #[.int .i64 a.kind, .int .i64 a.num, .string a.name, .slice XA a.args.length xc]] W fun e w' => e = .returned (.bool ba) ∧ Below W.heap.size W w') := Lib.hid fun W => by rw [HBE.out]; exact f_isAtom a XA xc W
    have hBa := (Below.refl W.heap.size W).alloc (Nat.le_refl _) (.cells #[.int .i64 a.kind, .int .i64 a.num, .string a.name, .slice XA a.args.length xc] 26)
    have HBA := Lib.hid hBa
    have HKB := Lib.hid (hk.new [.int .i64 a.kind, .int .i64 a.num, .string a.name, .slice XA a.args.length xc] 26 rfl)
    have HBB := Lib.hid (hb.trans (hBa.mono hb.size))
    have H6L : Hid (∀ x ∈ (ckX w.heap.size x0 [.int .i64 p.kind, .int .i64 p.num, .string p.name, .slice PA p.args.length pc] [.int .i64 t.kind, .int .i64 t.num, .string t.name, .slice TA t.args.length tc] [.int .i64 n.kind, .int .i64 n.num, .string n.name, .slice NA n.args.length nc] [.int .i64 ta.kind, .int .i64 ta.num, .string ta.name, .slice EA ta.args.length ec]), x.1 < w6.heap.size) := Lib.hid fun x hx => (HK_6.out.bk x hx).lt
    have h06 := HB_6.out.size
    have HXA : Hid (TmsAt W.heap.size W XA a.args) := Lib.hid hx
    have HOB : Hid ((W.alloc (.cells #[.int .i64 a.kind, .int .i64 a.num, .string a.name, .slice XA a.args.length xc] 26)).heap[l]? = some ob) := Lib.hid ((Below.heap_alloc _ _ _ hlW).trans hob)
    have HALL := Lib.hid hall
    have HSP := Lib.hid hsp
    have HOC := Lib.hid hoc
    clear hBa hk hb hx hsp hall hob hoc
    unfold tmV
    gi_wp2
    refine ⟨keeps_below HBA.out, KpC.below HBA.out, fun W2 hX2 => ?_⟩
    have HBK2 := Lib.hid (HKB.out.bx hX2 (fun x hx => by
     rcases List.mem_cons.1 hx with rfl | hx
     ·exact fun e => absurd e (by omega)
     ·have := H6L.out x hx
      omega) (fun x hx => (HKB.out.bk x hx).lt))
    have HBL2 := Lib.hid (HBB.out.trans (hX2.under (B := w.heap.size) (by omega) HBB.out.size))
    have HKP := Lib.hid ((KpC.below (B := 0) HBA.out).trans (kp_bx hX2 HOB.out HOC.out))
    clear hX2 HKB HBB HOB HOC
    have c2 := HBK2.out.all
    unfold ckX at c2
    simp only [bksAll, bkAll, Nat.zero_add, Nat.reduceAdd, and_true] at c2
    gi_wp2
    refine ⟨trivial, (CallsIn.inRound l (callsIn_wide.2 (HAT.out _))).mono ?_⟩
    rintro e W3 ⟨rfl, hB3⟩
    have HB3 := Lib.hid hB3
    clear hB3 c2
    cases ba
    ·have HBL3 := Lib.hid (HBL2.out.trans (HB3.out.mono HBL2.out.size))
     have HBK3 := Lib.hid (HBK2.out.call HB3.out)
     have HXA3 : Hid (TmsAt W3.heap.size W3 XA a.args) := Lib.hid (TmsK.at' (TmsK.kp HXA.out (fun _ _ => Nat.zero_le _) (HKP.out.trans (KpC.below HB3.out))))
     have HTY3 := Lib.hid (b_type ⟨#[97, 116, 111, 109]⟩ a XA xc W3 (by decide) HXA3.out)
     have HRE : Hid (R = some (typeT ⟨#[97, 116, 111, 109]⟩ a)) := Lib.hid (by
      have h := HSP.out
      rw [List.map_append] at h
      rw [HR4.out, find_pre h HALL.out HBE.out.symm])
     have HL3 : Hid (w.heap.size + 1 + 1 + 1 + 1 < W3.heap.size ∧ w.heap.size ≤ W3.heap.size) := Lib.hid ⟨HBK3.out.lt 2 rfl, HBL3.out.size⟩
     have c3 := HBK3.out.all
     unfold ckX at c3
     simp only [bksAll, bkAll, Nat.zero_add, Nat.reduceAdd, and_true] at c3
     unfold tmV at HTY3
     gi_wp2
     refine ⟨trivial, (CallsIn.inRound l (callsIn_wide.2 HTY3.out)).mono ?_⟩
     rintro e W4 ⟨IA, ic, rfl, hB4, hN4⟩
     obtain ⟨bb, HBB⟩ : ∃ b, Hid (b = typeT ⟨#[97, 116, 111, 109]⟩ a) := ⟨_, Lib.hid rfl⟩
     have hBe : typeT ⟨#[97, 116, 111, 109]⟩ a = bb := HBB.out.symm
     unfold typeT at hBe
     rw [hBe] at hN4 ⊢
     rw [← HBB.out] at HRE
     have HB4 := Lib.hid hB4
     have HBL4 := Lib.hid (HBL3.out.trans (hB4.mono HBL3.out.size))
     have HBK4 := Lib.hid (HBK3.out.call hB4)
     have HN4 := Lib.hid hN4
     clear hB4 hN4 hBe HBB HBL3 HBK3 c3 HTY3 HXA3 HKP HXA
     have c4 := HBK4.out.all
     unfold ckX at c4
     simp only [bksAll, bkAll, Nat.zero_add, Nat.reduceAdd, and_true] at c4
     obtain ⟨wz, HWZ⟩ : ∃ wz, Hid (wz = setL (setL W4 (w.heap.size + 1 + 1 + 1) 0 [.int .i64 bb.kind, .int .i64 bb.num, .string bb.name, .slice IA bb.args.length ic]) (w.heap.size + 1 + 1 + 1 + 1) 0 [.bool false]) := ⟨_, Lib.hid rfl⟩
     have hk := (HBK4.out.put 3 rfl [.int .i64 bb.kind, .int .i64 bb.num, .string bb.name, .slice IA bb.args.length ic] rfl).put 2 (g := w.heap.size + 1 + 1 + 1 + 1) (vs := [.bool false]) rfl [.bool false] rfl
     have hb := setL_below (B := w.heap.size) (g := w.heap.size + 1 + 1 + 1 + 1) (by omega) [.bool false] _ 0 (setL_below (B := w.heap.size) (g := w.heap.size + 1 + 1 + 1) (by omega) [.int .i64 bb.kind, .int .i64 bb.num, .string bb.name, .slice IA bb.args.length ic] _ 0 HBL4.out)
     have hq := ((keeps_below HB3.out).trans (keeps_below HB4.out)).trans ((keeps_setL (w.heap.size + 1 + 1 + 1) [.int .i64 bb.kind, .int .i64 bb.num, .string bb.name, .slice IA bb.args.length ic] W4 0).trans (keeps_setL (w.heap.size + 1 + 1 + 1 + 1) [.bool false] _ 0))
     rw [← HWZ.out] at hk hb hq
     have hn : NewT w wz IA bb.args := HN4.out.keep (fun b hb => by have := HL3.out.1; rw [HWZ.out, setL_other (by have := hb.1; omega), setL_other (by have := hb.1; omega)]) (fun b hb => ⟨Nat.le_trans HL3.out.2 hb.1, by rw [HWZ.out, setL_size, setL_size]; exact hb.2⟩)
     have hz := HWZ.out
     simp only [setL, Nat.zero_add, Nat.reduceAdd] at hz
     have HWY := Lib.hid hz
     have HKZ := Lib.hid hk
     have HBZ := Lib.hid hb
     have HNZ := Lib.hid hn
     have HQZ := Lib.hid hq
     clear hz hk hb hn hq HWZ HBK4 HBL4 HN4 HL3 HB3 HB4
     gi_wp2
     rw [← HWY.out]
     exact ⟨HQZ.out, rfl, HBZ.out, bb, IA, ic, HKZ.out.tl, HNZ.out, HRE.out⟩
    ·gi_wp2
     exact ⟨keeps_below HB3.out, KpC.below HB3.out, HBL2.out.trans (HB3.out.mono HBL2.out.size), (HBK2.out.call HB3.out).tl, fun y hy => by
      rw [List.map_append] at hy
      rcases List.mem_append.1 hy with hy | hy
      ·exact HALL.out y hy
      ·rw [List.map_singleton, List.mem_singleton] at hy
       rw [hy]; exact HBE.out.symm⟩
   case done =>
    rintro D xs W hD hS ⟨hb, hk, hall⟩ hK
    have HR5 : Hid (R = if pr = false then some (domT ⟨#[111, 112, 101, 114, 97, 116, 111, 114, 95, 112, 114, 105, 111, 114, 105, 116, 121]⟩ p) else if ty = false then some (domT ⟨#[111, 112, 101, 114, 97, 116, 111, 114, 95, 115, 112, 101, 99, 105, 102, 105, 101, 114]⟩ t) else none) := Lib.hid (by
     rw [hS] at hall
     have h := HR4.out
     rw [find_all hall] at h
     exact h)
    have HB_30 := Lib.hid hb
    have HK_30 := Lib.hid hk
    have HD_30 := Lib.hid hK
    have HDN : Hid (w6.heap.size ≤ D ∧ ∀ x ∈ (ckX w.heap.size x0 [.int .i64 p.kind, .int .i64 p.num, .string p.name, .slice PA p.args.length pc] [.int .i64 t.kind, .int .i64 t.num, .string t.name, .slice TA t.args.length tc] [.int .i64 n.kind, .int .i64 n.num, .string n.name, .slice NA n.args.length nc] [.int .i64 ta.kind, .int .i64 ta.num, .string ta.name, .slice EA ta.args.length ec]), x.1 ≠ D) := Lib.hid ⟨hD, fun x hx => by have := (HK_6.out.bk x hx).lt; omega⟩
    have h06 := HB_6.out.size
    clear hb hk hall hK hS hD HR4 HSQ HK_6
    have cc31 := HK_30.out.all
    unfold ckX at cc31
    simp only [bksAll, bkAll, Nat.zero_add, Nat.reduceAdd, and_true] at cc31
    go_wp2_with fail
    refine (HPRI.out _).mono ?_; rintro e w32 ⟨rfl, hB32⟩
    have HB_33 := Lib.hid (HB_30.out.trans (hB32.mono HB_30.out.size))
    have HK_33 := Lib.hid (HK_30.out.call hB32)
    have HD_33 := Lib.hid ((hB32.block D (Array.getElem?_eq_some_iff.1 HD_30.out).1).trans HD_30.out)
    clear hB32 HB_30 HK_30 HD_30 cc31 
    cases pr
    ·have HR6 := Lib.hid (HR5.out.trans (if_pos rfl))
     have cc34 := HK_33.out.all
     unfold ckX at cc34
     simp only [bksAll, bkAll, Nat.zero_add, Nat.reduceAdd, and_true] at cc34
     have HL2 : Hid (w.heap.size + 1 + 1 + 1 + 1 < w32.heap.size ∧ w.heap.size ≤ w32.heap.size ∧ D < w32.heap.size) := Lib.hid ⟨HK_33.out.lt 1 rfl, HB_33.out.size, (Array.getElem?_eq_some_iff.1 HD_33.out).1⟩
     go_wp2_with fail
     refine (HBP.out _ HB_33.out).mono ?_; rintro e wA ⟨IA, ic, rfl, hBx, hNx⟩
     have HB_A := Lib.hid (HB_33.out.trans (hBx.mono HB_33.out.size))
     have HK_A := Lib.hid (HK_33.out.call hBx)
     have HD_A := Lib.hid ((hBx.block D (Array.getElem?_eq_some_iff.1 HD_33.out).1).trans HD_33.out)
     have HN_A := Lib.hid hNx
     clear hBx hNx HB_33 HK_33 HD_33 cc34
     obtain ⟨bb, HBB⟩ : ∃ b, Hid (b = domT ⟨#[111, 112, 101, 114, 97, 116, 111, 114, 95, 112, 114, 105, 111, 114, 105, 116, 121]⟩ p) := ⟨_, Lib.hid rfl⟩
     rw [← HBB.out] at HN_A ⊢
     have HRE : Hid (R = some bb) := Lib.hid (by rw [HBB.out]; exact HR6.out)
     have ca := HK_A.out.all
     unfold ckX at ca
     simp only [bksAll, bkAll, Nat.zero_add, Nat.reduceAdd, and_true] at ca
     obtain ⟨wz, HWZ⟩ : ∃ wz, Hid (wz = setL (setL wA (w.heap.size + 1 + 1 + 1) 0 [.int .i64 bb.kind, .int .i64 bb.num, .string bb.name, .slice IA bb.args.length ic]) (w.heap.size + 1 + 1 + 1 + 1) 0 [.bool false]) := ⟨_, Lib.hid rfl⟩
     have hk := (HK_A.out.put 2 rfl [.int .i64 bb.kind, .int .i64 bb.num, .string bb.name, .slice IA bb.args.length ic] rfl).put 1 (g := w.heap.size + 1 + 1 + 1 + 1) (vs := [.bool false]) rfl [.bool false] rfl
     have hb := setL_below (B := w.heap.size) (g := w.heap.size + 1 + 1 + 1 + 1) (by omega) [.bool false] _ 0 (setL_below (B := w.heap.size) (g := w.heap.size + 1 + 1 + 1) (by omega) [.int .i64 bb.kind, .int .i64 bb.num, .string bb.name, .slice IA bb.args.length ic] _ 0 HB_A.out)
     rw [← HWZ.out] at hk hb
     have hDa : D ≠ w.heap.size + 1 + 1 + 1 + 1 := fun e => HDN.out.2 (w.heap.size + 1 + 1 + 1 + 1, [.bool false]) (by simp [ckX]) e.symm
     have hDb : D ≠ w.heap.size + 1 + 1 + 1 := fun e => HDN.out.2 (w.heap.size + 1 + 1 + 1, [.int .i64 0, .int .i64 0, .string ⟨#[]⟩, .slice none 0 0]) (by simp [ckX]) e.symm
     have hd : wz.heap[D]? = some (.deferred (some [])) := by rw [HWZ.out, setL_other hDa, setL_other hDb]; exact HD_A.out
     have hk2 := hk.putObj (q := D) (.deferred none) (fun x hx => by
      obtain ⟨y, hy, e⟩ := set_fst [.bool false] (show (List.set (ckX w.heap.size x0 [.int .i64 p.kind, .int .i64 p.num, .string p.name, .slice PA p.args.length pc] [.int .i64 t.kind, .int .i64 t.num, .string t.name, .slice TA t.args.length tc] [.int .i64 n.kind, .int .i64 n.num, .string n.name, .slice NA n.args.length nc] [.int .i64 ta.kind, .int .i64 ta.num, .string ta.name, .slice EA ta.args.length ec]) 2 (w.heap.size + 1 + 1 + 1, [.int .i64 bb.kind, .int .i64 bb.num, .string bb.name, .slice IA bb.args.length ic]))[1]? = some (w.heap.size + 1 + 1 + 1 + 1, [.bool false]) from rfl) x hx
      obtain ⟨y2, hy2, e2⟩ := set_fst [.int .i64 bb.kind, .int .i64 bb.num, .string bb.name, .slice IA bb.args.length ic] (show (ckX w.heap.size x0 [.int .i64 p.kind, .int .i64 p.num, .string p.name, .slice PA p.args.length pc] [.int .i64 t.kind, .int .i64 t.num, .string t.name, .slice TA t.args.length tc] [.int .i64 n.kind, .int .i64 n.num, .string n.name, .slice NA n.args.length nc] [.int .i64 ta.kind, .int .i64 ta.num, .string ta.name, .slice EA ta.args.length ec])[2]? = some (w.heap.size + 1 + 1 + 1, [.int .i64 0, .int .i64 0, .string ⟨#[]⟩, .slice none 0 0]) from rfl) y hy
      rw [← e, ← e2]; exact HDN.out.2 y2 hy2)
     have hb2 := below_putO hb (D := D) (Nat.le_trans h06 HDN.out.1) (.deferred none)
     have hn : NewT w (wz.putObj D (.deferred none)) IA bb.args := HN_A.out.keep (fun b hb => by have := HL2.out.1; rw [World.putObj_heap_other (by have := HL2.out.2.2; have := hb.1; omega), HWZ.out, setL_other (by have := hb.1; omega), setL_other (by have := hb.1; omega)]) (fun b hb => ⟨Nat.le_trans HL2.out.2.1 hb.1, by rw [World.putObj_size, HWZ.out, setL_size, setL_size]; exact hb.2⟩)
     have hz := HWZ.out
     simp only [setL, Nat.zero_add, Nat.reduceAdd] at hz
     have HWY := Lib.hid hz
     have HK_Z := Lib.hid hk2
     have HB_Z := Lib.hid hb2
     have HD_Z := Lib.hid hd
     have HN_Z := Lib.hid hn
     clear hz hk hk2 hb hb2 hd hDa hDb HWZ HK_A HB_A HD_A hn HN_A HL2
     go_wp2_with fail
     rw [← HWY.out]
     have cz := HK_Z.out.all
     unfold ckX at cz
     simp only [bksAll, bkAll, Nat.zero_add, Nat.reduceAdd, and_true, List.set_cons_zero, List.set_cons_succ] at cz
     refine ⟨by simp, .inl ⟨_, _, rfl, run_takeDeferred HD_Z.out, ?_⟩⟩
     exact ⟨.tuple #[.agg #[.int .i64 bb.kind, .int .i64 bb.num, .string bb.name, .slice IA bb.args.length ic], .bool false], by simp [results, Tryz.results145, go_sem, cz], bb, IA, ic, false, rfl, HB_Z.out, HN_Z.out, by rw [if_neg (by simp)]; exact HRE.out⟩
    have HR6 := Lib.hid (HR5.out.trans (if_neg (by simp)))
    clear HR5
    have cc34 := HK_33.out.all
    unfold ckX at cc34
    simp only [bksAll, bkAll, Nat.zero_add, Nat.reduceAdd, and_true] at cc34
    go_wp2_with fail
    refine (HTYP.out _).mono ?_; rintro e w35 ⟨rfl, hB35⟩
    have HB_36 := Lib.hid (HB_33.out.trans (hB35.mono HB_33.out.size))
    have HK_36 := Lib.hid (HK_33.out.call hB35)
    have HD_36 := Lib.hid ((hB35.block D (Array.getElem?_eq_some_iff.1 HD_33.out).1).trans HD_33.out)
    clear hB35 HB_33 HK_33 HD_33 cc34 
    cases ty
    ·have HR7 := Lib.hid (HR6.out.trans (if_pos rfl))
     have cc37 := HK_36.out.all
     unfold ckX at cc37
     simp only [bksAll, bkAll, Nat.zero_add, Nat.reduceAdd, and_true] at cc37
     have HL2 : Hid (w.heap.size + 1 + 1 + 1 + 1 < w35.heap.size ∧ w.heap.size ≤ w35.heap.size ∧ D < w35.heap.size) := Lib.hid ⟨HK_36.out.lt 1 rfl, HB_36.out.size, (Array.getElem?_eq_some_iff.1 HD_36.out).1⟩
     go_wp2_with fail
     refine (HBS.out _ HB_36.out).mono ?_; rintro e wA ⟨IA, ic, rfl, hBx, hNx⟩
     have HB_A := Lib.hid (HB_36.out.trans (hBx.mono HB_36.out.size))
     have HK_A := Lib.hid (HK_36.out.call hBx)
     have HD_A := Lib.hid ((hBx.block D (Array.getElem?_eq_some_iff.1 HD_36.out).1).trans HD_36.out)
     have HN_A := Lib.hid hNx
     clear hBx hNx HB_36 HK_36 HD_36 cc37
     obtain ⟨bb, HBB⟩ : ∃ b, Hid (b = domT ⟨#[111, 112, 101, 114, 97, 116, 111, 114, 95, 115, 112, 101, 99, 105, 102, 105, 101, 114]⟩ t) := ⟨_, Lib.hid rfl⟩
     rw [← HBB.out] at HN_A ⊢
     have HRE : Hid (R = some bb) := Lib.hid (by rw [HBB.out]; exact HR7.out)
     have ca := HK_A.out.all
     unfold ckX at ca
     simp only [bksAll, bkAll, Nat.zero_add, Nat.reduceAdd, and_true] at ca
     obtain ⟨wz, HWZ⟩ : ∃ wz, Hid (wz = setL (setL wA (w.heap.size + 1 + 1 + 1) 0 [.int .i64 bb.kind, .int .i64 bb.num, .string bb.name, .slice IA bb.args.length ic]) (w.heap.size + 1 + 1 + 1 + 1) 0 [.bool false]) := ⟨_, Lib.hid rfl⟩
     have hk := (HK_A.out.put 2 rfl [.int .i64 bb.kind, .int .i64 bb.num, .string bb.name, .slice IA bb.args.length ic] rfl).put 1 (g := w.heap.size + 1 + 1 + 1 + 1) (vs := [.bool false]) rfl [.bool false] rfl
     have hb := setL_below (B := w.heap.size) (g := w.heap.size + 1 + 1 + 1 + 1) (by omega) [.bool false] _ 0 (setL_below (B := w.heap.size) (g := w.heap.size + 1 + 1 + 1) (by omega) [.int .i64 bb.kind, .int .i64 bb.num, .string bb.name, .slice IA bb.args.length ic] _ 0 HB_A.out)
     rw [← HWZ.out] at hk hb
     have hDa : D ≠ w.heap.size + 1 + 1 + 1 + 1 := fun e => HDN.out.2 (w.heap.size + 1 + 1 + 1 + 1, [.bool false]) (by simp [ckX]) e.symm
     have hDb : D ≠ w.heap.size + 1 + 1 + 1 := fun e => HDN.out.2 (w.heap.size + 1 + 1 + 1, [.int .i64 0, .int .i64 0, .string ⟨#[]⟩, .slice none 0 0]) (by simp [ckX]) e.symm
     have hd : wz.heap[D]? = some (.deferred (some [])) := by rw [HWZ.out, setL_other hDa, setL_other hDb]; exact HD_A.out
     have hk2 := hk.putObj (q := D) (.deferred none) (fun x hx => by
      obtain ⟨y, hy, e⟩ := set_fst [.bool false] (show (List.set (ckX w.heap.size x0 [.int .i64 p.kind, .int .i64 p.num, .string p.name, .slice PA p.args.length pc] [.int .i64 t.kind, .int .i64 t.num, .string t.name, .slice TA t.args.length tc] [.int .i64 n.kind, .int .i64 n.num, .string n.name, .slice NA n.args.length nc] [.int .i64 ta.kind, .int .i64 ta.num, .string ta.name, .slice EA ta.args.length ec]) 2 (w.heap.size + 1 + 1 + 1, [.int .i64 bb.kind, .int .i64 bb.num, .string bb.name, .slice IA bb.args.length ic]))[1]? = some (w.heap.size + 1 + 1 + 1 + 1, [.bool false]) from rfl) x hx
      obtain ⟨y2, hy2, e2⟩ := set_fst [.int .i64 bb.kind, .int .i64 bb.num, .string bb.name, .slice IA bb.args.length ic] (show (ckX w.heap.size x0 [.int .i64 p.kind, .int .i64 p.num, .string p.name, .slice PA p.args.length pc] [.int .i64 t.kind, .int .i64 t.num, .string t.name, .slice TA t.args.length tc] [.int .i64 n.kind, .int .i64 n.num, .string n.name, .slice NA n.args.length nc] [.int .i64 ta.kind, .int .i64 ta.num, .string ta.name, .slice EA ta.args.length ec])[2]? = some (w.heap.size + 1 + 1 + 1, [.int .i64 0, .int .i64 0, .string ⟨#[]⟩, .slice none 0 0]) from rfl) y hy
      rw [← e, ← e2]; exact HDN.out.2 y2 hy2)
     have hb2 := below_putO hb (D := D) (Nat.le_trans h06 HDN.out.1) (.deferred none)
     have hn : NewT w (wz.putObj D (.deferred none)) IA bb.args := HN_A.out.keep (fun b hb => by have := HL2.out.1; rw [World.putObj_heap_other (by have := HL2.out.2.2; have := hb.1; omega), HWZ.out, setL_other (by have := hb.1; omega), setL_other (by have := hb.1; omega)]) (fun b hb => ⟨Nat.le_trans HL2.out.2.1 hb.1, by rw [World.putObj_size, HWZ.out, setL_size, setL_size]; exact hb.2⟩)
     have hz := HWZ.out
     simp only [setL, Nat.zero_add, Nat.reduceAdd] at hz
     have HWY := Lib.hid hz
     have HK_Z := Lib.hid hk2
     have HB_Z := Lib.hid hb2
     have HD_Z := Lib.hid hd
     have HN_Z := Lib.hid hn
     clear hz hk hk2 hb hb2 hd hDa hDb HWZ HK_A HB_A HD_A hn HN_A HL2
     go_wp2_with fail
     rw [← HWY.out]
     have cz := HK_Z.out.all
     unfold ckX at cz
     simp only [bksAll, bkAll, Nat.zero_add, Nat.reduceAdd, and_true, List.set_cons_zero, List.set_cons_succ] at cz
     refine ⟨by simp, .inl ⟨_, _, rfl, run_takeDeferred HD_Z.out, ?_⟩⟩
     exact ⟨.tuple #[.agg #[.int .i64 bb.kind, .int .i64 bb.num, .string bb.name, .slice IA bb.args.length ic], .bool false], by simp [results, Tryz.results145, go_sem, cz], bb, IA, ic, false, rfl, HB_Z.out, HN_Z.out, by rw [if_neg (by simp)]; exact HRE.out⟩
    ·have HR7 := Lib.hid (HR6.out.trans (if_neg (by simp)))
     have cc37 := HK_36.out.all
     unfold ckX at cc37
     simp only [bksAll, bkAll, Nat.zero_add, Nat.reduceAdd, and_true] at cc37
     obtain ⟨wz, HWZ⟩ : ∃ wz, Hid (wz = setL (setL w35 (w.heap.size + 1 + 1 + 1) 0 [.int .i64 0, .int .i64 0, .string ⟨#[]⟩, .slice none 0 0]) (w.heap.size + 1 + 1 + 1 + 1) 0 [.bool true]) := ⟨_, Lib.hid rfl⟩
     have hk := (HK_36.out.put 2 rfl [.int .i64 0, .int .i64 0, .string ⟨#[]⟩, .slice none 0 0] rfl).put 1 (g := w.heap.size + 1 + 1 + 1 + 1) (vs := [.bool false]) rfl [.bool true] rfl
     have hb := setL_below (B := w.heap.size) (g := w.heap.size + 1 + 1 + 1 + 1) (by omega) [.bool true] _ 0 (setL_below (B := w.heap.size) (g := w.heap.size + 1 + 1 + 1) (by omega) [.int .i64 0, .int .i64 0, .string ⟨#[]⟩, .slice none 0 0] _ 0 HB_36.out)
     rw [← HWZ.out] at hk hb
     have hDa : D ≠ w.heap.size + 1 + 1 + 1 + 1 := fun e => HDN.out.2 (w.heap.size + 1 + 1 + 1 + 1, [.bool false]) (by simp [ckX]) e.symm
     have hDb : D ≠ w.heap.size + 1 + 1 + 1 := fun e => HDN.out.2 (w.heap.size + 1 + 1 + 1, [.int .i64 0, .int .i64 0, .string ⟨#[]⟩, .slice none 0 0]) (by simp [ckX]) e.symm
     have hd : wz.heap[D]? = some (.deferred (some [])) := by rw [HWZ.out, setL_other hDa, setL_other hDb]; exact HD_36.out
     have hk2 := hk.putObj (q := D) (.deferred none) (fun x hx => by
      obtain ⟨y, hy, e⟩ := set_fst [.bool true] (show (List.set (ckX w.heap.size x0 [.int .i64 p.kind, .int .i64 p.num, .string p.name, .slice PA p.args.length pc] [.int .i64 t.kind, .int .i64 t.num, .string t.name, .slice TA t.args.length tc] [.int .i64 n.kind, .int .i64 n.num, .string n.name, .slice NA n.args.length nc] [.int .i64 ta.kind, .int .i64 ta.num, .string ta.name, .slice EA ta.args.length ec]) 2 (w.heap.size + 1 + 1 + 1, [.int .i64 0, .int .i64 0, .string ⟨#[]⟩, .slice none 0 0]))[1]? = some (w.heap.size + 1 + 1 + 1 + 1, [.bool false]) from rfl) x hx
      obtain ⟨y2, hy2, e2⟩ := set_fst [.int .i64 0, .int .i64 0, .string ⟨#[]⟩, .slice none 0 0] (show (ckX w.heap.size x0 [.int .i64 p.kind, .int .i64 p.num, .string p.name, .slice PA p.args.length pc] [.int .i64 t.kind, .int .i64 t.num, .string t.name, .slice TA t.args.length tc] [.int .i64 n.kind, .int .i64 n.num, .string n.name, .slice NA n.args.length nc] [.int .i64 ta.kind, .int .i64 ta.num, .string ta.name, .slice EA ta.args.length ec])[2]? = some (w.heap.size + 1 + 1 + 1, [.int .i64 0, .int .i64 0, .string ⟨#[]⟩, .slice none 0 0]) from rfl) y hy
      rw [← e, ← e2]; exact HDN.out.2 y2 hy2)
     have hb2 := below_putO hb (D := D) (Nat.le_trans h06 HDN.out.1) (.deferred none)
     have hz := HWZ.out
     simp only [setL, Nat.zero_add, Nat.reduceAdd] at hz
     have HWY := Lib.hid hz
     have HK_Z := Lib.hid hk2
     have HB_Z := Lib.hid hb2
     have HD_Z := Lib.hid hd
     clear hz hk hk2 hb hb2 hd hDa hDb HWZ HK_36 HB_36 HD_36
     go_wp2_with fail
     rw [← HWY.out]
     have cz := HK_Z.out.all
     unfold ckX at cz
     simp only [bksAll, bkAll, Nat.zero_add, Nat.reduceAdd, and_true, List.set_cons_zero, List.set_cons_succ] at cz
     refine ⟨by simp, .inl ⟨_, _, rfl, run_takeDeferred HD_Z.out, ?_⟩⟩
     exact ⟨.tuple #[.agg #[.int .i64 0, .int .i64 0, .string ⟨#[]⟩, .slice none 0 0], .bool true], by simp [results, Tryz.results145, go_sem, cz], zT, none, 0, true, rfl, HB_Z.out, TmsK.nil, by rw [if_pos rfl]; exact ⟨HR7.out, rfl⟩⟩
   case stop =>
    rintro D c pre W hD hS ⟨rfl, hb, bb, IA, ic, hk, hn, hR⟩ hK
    have hne : ∀ x ∈ ([(x0, [.int .i64 ta.kind, .int .i64 ta.num, .string ta.name, .slice EA ta.args.length ec]), (w.heap.size + 1 + 1 + 1 + 1, [.bool false]), (w.heap.size + 1 + 1 + 1, [.int .i64 bb.kind, .int .i64 bb.num, .string bb.name, .slice IA bb.args.length ic]), (w.heap.size + 1 + 1, [.int .i64 n.kind, .int .i64 n.num, .string n.name, .slice NA n.args.length nc]), (w.heap.size + 1, [.int .i64 t.kind, .int .i64 t.num, .string t.name, .slice TA t.args.length tc]), (w.heap.size, [.int .i64 p.kind, .int .i64 p.num, .string p.name, .slice PA p.args.length pc])] : List (Nat × List Value)), x.1 ≠ D := fun x hx => by
     have h6 : ∀ y ∈ (ckX w.heap.size x0 [.int .i64 p.kind, .int .i64 p.num, .string p.name, .slice PA p.args.length pc] [.int .i64 t.kind, .int .i64 t.num, .string t.name, .slice TA t.args.length tc] [.int .i64 n.kind, .int .i64 n.num, .string n.name, .slice NA n.args.length nc] [.int .i64 ta.kind, .int .i64 ta.num, .string ta.name, .slice EA ta.args.length ec]), y.1 ≠ D := fun y hy => by have := (HK_6.out.bk y hy).lt; omega
     simp only [List.mem_cons, List.mem_nil_iff, or_false] at hx
     rcases hx with rfl | rfl | rfl | rfl | rfl | rfl
     ·exact h6 (x0, [.int .i64 ta.kind, .int .i64 ta.num, .string ta.name, .slice EA ta.args.length ec]) (by simp [ckX])
     ·exact h6 (w.heap.size + 1 + 1 + 1 + 1, [.bool false]) (by simp [ckX])
     ·exact h6 (w.heap.size + 1 + 1 + 1, [.int .i64 0, .int .i64 0, .string ⟨#[]⟩, .slice none 0 0]) (by simp [ckX])
     ·exact h6 (w.heap.size + 1 + 1, [.int .i64 n.kind, .int .i64 n.num, .string n.name, .slice NA n.args.length nc]) (by simp [ckX])
     ·exact h6 (w.heap.size + 1, [.int .i64 t.kind, .int .i64 t.num, .string t.name, .slice TA t.args.length tc]) (by simp [ckX])
     ·exact h6 (w.heap.size, [.int .i64 p.kind, .int .i64 p.num, .string p.name, .slice PA p.args.length pc]) (by simp [ckX])
    have HK_Z := Lib.hid (hk.putObj (q := D) (.deferred none) hne)
    have HB_Z := Lib.hid (below_putO hb (D := D) (Nat.le_trans HB_6.out.size hD) (.deferred none))
    have HN_Z : Hid (NewT w (W.putObj D (.deferred none)) IA bb.args) := Lib.hid ((TmsK.cells hn).keep (fun b hb => World.putObj_heap_other (by
     obtain ⟨_, o, ho, hc⟩ := hb
     intro e; subst e; rw [hK] at ho; injection ho with ho; subst ho; cases hc)) (fun b hb => ⟨hb.1.1, by rw [World.putObj_size]; exact hb.1.2⟩))
    have HD_Z := Lib.hid hK
    have HRE := Lib.hid hR
    clear hne hb hk hn hR hK hD hS
    gi_wp2
    have cz := HK_Z.out.all
    simp only [bksAll, bkAll, Nat.zero_add, Nat.reduceAdd, and_true] at cz
    refine ⟨by simp, .inl ⟨_, _, rfl, run_takeDeferred HD_Z.out, ?_⟩⟩
    exact ⟨.tuple #[.agg #[.int .i64 bb.kind, .int .i64 bb.num, .string bb.name, .slice IA bb.args.length ic], .bool false], by simp [results, Tryz.results145, go_sem, cz], bb, IA, ic, false, rfl, HB_Z.out, HN_Z.out, by rw [if_neg (by simp)]; exact HRE.out⟩
end Go.Proofs.YtfkhcpeahdkafaaGreat
