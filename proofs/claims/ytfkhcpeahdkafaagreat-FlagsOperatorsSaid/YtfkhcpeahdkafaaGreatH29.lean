/- Flags: op/3, whatever is wrong. -/
import Derived.Test.YtfkhcpeahdkafaaGreatH28
namespace Hb
open Go Go.RowKit
def opsStep (ty pr : Int) (s : CR ⊕ List OpR) (x : Tm) : CR ⊕ List OpR :=
 match s with
 | .inl c => .inl c
 | .inr l => if (setR l ⟨x.name, ty, pr⟩).2 = 13 then .inl (.err 13) else if (setR l ⟨x.name, ty, pr⟩).2 = 0 then .inr (setR l ⟨x.name, ty, pr⟩).1 else .inl (.ball (permT (if x.name.toList = [44] then ⟨#[109, 111, 100, 105, 102, 121]⟩ else ⟨#[99, 114, 101, 97, 116, 101]⟩) ⟨#[111, 112, 101, 114, 97, 116, 111, 114]⟩ x))
def opsGo (ty pr : Int) (l : List OpR) (xs : List Tm) : CR ⊕ List OpR := xs.foldl (opsStep ty pr) (.inr l)
theorem opsGo_snoc (ty pr : Int) (l : List OpR) (xs : List Tm) (x : Tm) : opsGo ty pr l (xs ++ [x]) = opsStep ty pr (opsGo ty pr l xs) x := by unfold opsGo; rw [List.foldl_append]; rfl
theorem opsGo_stop {ty pr : Int} {l : List OpR} {pre xs : List Tm} {c : CR} (h : pre <+: xs) (hp : opsGo ty pr l pre = .inl c) : opsGo ty pr l xs = .inl c := by
 obtain ⟨r, rfl⟩ := h
 unfold opsGo at hp ⊢
 rw [List.foldl_append, hp]
 induction r with
 | nil => rfl
 | cons y ys ih => exact ih
def setOpsC (s : SyP) (p t n g : Tm) : CR :=
 match chkC p t n with
 | some b => .ball b
 | none => match opsGo (tyOf t.name) p.num s.ops (nmL n) with
  | .inl c => c
  | .inr l => .ok ⟨l, s.fl, s.cv⟩ [g]
theorem keeps_layR (X : World) (g : Nat) (r : RV) : KeepsOthers X (layR X g r) := (keeps_setL _ _ X 0).trans ((keeps_setL _ _ _ 0).trans ((keeps_setL _ _ _ 0).trans (keeps_setL _ _ _ 0)))
theorem RIs.putD {BB : Nat} {w X : World} {r : RV} {c : CR} {D : Nat} (h : RIs BB w X r c) (hd : X.heap[D]? = some (.deferred (some []))) (hc : ∀ b o, r.ca = some ⟨b, o, none⟩ → b ≠ D) : RIs BB w (X.putObj D (.deferred none)) r c := by
 have hn : ∀ {A : Option Addr} {l : List Tm}, NewT w X A l → NewT w (X.putObj D (.deferred none)) A l := fun h => (TmsK.cells h).keep (fun b hb => World.putObj_heap_other (by
  obtain ⟨_, o, ho, hc⟩ := hb
  intro e; subst e; rw [hd] at ho; injection ho with ho; subst ho; cases hc)) (fun b hb => ⟨hb.1.1, by rw [World.putObj_size]; exact hb.1.2⟩)
 cases c with
 | ok s l2 =>
  obtain ⟨a1, a2, a3, a4, a5, a6⟩ := h
  exact ⟨a1, tab_grown a2 (grownBy_putObj' X D (.deferred none)) (fun r e => by cases e; exact ⟨_, hd, rfl⟩), a3, a4.keep (by rw [World.putObj_size]; exact Nat.le_refl _) (fun b o e => World.putObj_heap_other (hc b o e)), a5, hn a6⟩
 | ball b => exact ⟨h.1, h.2.1, h.2.2.1, h.2.2.2.1, h.2.2.2.2.1, hn h.2.2.2.2.2⟩
 | err n => exact h
structure SoI (w : World) (e0 g15 : Nat) (pv : List Value) (typ : Int) (L : Option Addr → Nat → Nat → List (Nat × List Value)) (s : CR ⊕ List OpR) (W : World) : Prop where
 bel : Below w.heap.size w W
 h0 : Bk W e0 pv
 h15 : Bk W g15 [.int .i64 typ]
 ex : ∃ cur A n c, s = .inr cur ∧ Bks W (L A n c) ∧ Tab W A n c cur ∧ n ≤ 400
structure SoX (w : World) (L : RV → Option Addr → Nat → Nat → List (Nat × List Value)) (R : CR) (c : Code) (W : World) : Prop where
 ret : c = .ret
 bel : Below w.heap.size w W
 ex : ∃ r A n cc, Bks W (L r A n cc) ∧ ((∃ (bb : Tm) (IA : Option Addr) (ic : Nat), r = rvB bb.kind bb.num bb.name IA bb.args.length ic 8 ∧ NewT w W IA bb.args ∧ R = .ball bb) ∨ (r = rvB 0 0 ⟨#[]⟩ none 0 0 13 ∧ R = .err 13))
theorem SoI.own {β : Type} (w w0 : World) (e0 g15 : Nat) (pv : List Value) (typ : Int) (L : Option Addr → Nat → Nat → List (Nat × List Value)) (s : β → CR ⊕ List OpR) (hw : w.heap.size ≤ w0.heap.size) : OwnFrom w0.heap.size (fun x W => SoI w e0 g15 pv typ L (s x) W) := fun x X Y row h hg hr => by
 obtain ⟨cur, A, n, c, h1, h2, h3, h4⟩ := h.ex
 exact ⟨(show OwnFrom w0.heap.size (fun (_ : Unit) W => Below w.heap.size w W) from ownFrom_below (Nat.le_refl _) hw) () X Y row h.bel hg hr, h.h0.grown hg (fun r e => (hr r e).2), h.h15.grown hg (fun r e => (hr r e).2), cur, A, n, c, h1, Bks.own w0.heap.size (fun _ : Unit => L A n c) () X Y row h2 hg hr, tab_grown h3 hg (fun r e => (hr r e).2), h4⟩
theorem SoX.own {β : Type} (w w0 : World) (L : RV → Option Addr → Nat → Nat → List (Nat × List Value)) (R : CR) (c : Code) (hw : w.heap.size ≤ w0.heap.size) : OwnFrom w0.heap.size (fun (_ : β) W => SoX w L R c W) := fun x X Y row h hg hr => by
 obtain ⟨r, A, n, cc, h2, h3⟩ := h.ex
 refine ⟨h.ret, (show OwnFrom w0.heap.size (fun (_ : Unit) W => Below w.heap.size w W) from ownFrom_below (Nat.le_refl _) hw) () X Y row h.bel hg hr, r, A, n, cc, Bks.own w0.heap.size (fun _ : Unit => L r A n cc) () X Y row h2 hg hr, ?_⟩
 rcases h3 with ⟨bb, IA, ic, e, hn, hR⟩ | h3
 ·exact .inl ⟨bb, IA, ic, e, newT_own w IA bb.args x X Y row hn hg hr, hR⟩
 ·exact .inr h3
end Hb
namespace Go.Proofs.YtfkhcpeahdkafaaGreat
open Go.RowKit Hb Go.Shelf
attribute [local go_sem] Oper.semAt_some
set_option maxRecDepth 100000
set_option maxHeartbeats 6400000 in
theorem f_setOps_n (BB : Nat) (OA : Option Addr) (on oc : Nat) (q u : Int) (c d : Bool) (CA : Option Addr) (cn cc : Nat) (gk gn : Int) (gs : ByteArray) (AA : Option Addr) (ac : Nat) (p t n : Tm) (l : List OpR) (cl : List (Int × Int)) (w : World)
  (hTab : Tab w OA on oc l) (hon : on ≤ 400) (hC : PrI BB w CA cn cc cl) (hA : TmsAt w.heap.size w AA [p, t, n]) (hg : validT (.mk gk gn gs [p, t, n]) = true) (hv : validT n = true) :
  Calls Tryz.prog 113 #[.agg #[.slice OA on oc, .int .i64 q, .int .i64 u, .bool c, .bool d, .slice CA cn cc], .slice AA 3 ac, .agg #[.int .i64 gk, .int .i64 gn, .string gs, .slice AA 3 ac]] w fun e w' => ∃ r : RV, e = .returned r.val ∧ Below w.heap.size w w' ∧ RIs BB w w' r (setOpsC ⟨l, ⟨q, u, c, d⟩, cl⟩ p t n (.mk gk gn gs [p, t, n])) := by
 obtain ⟨R, HR⟩ : ∃ R, Hid (R = setOpsC ⟨l, ⟨q, u, c, d⟩, cl⟩ p t n (.mk gk gn gs [p, t, n])) := ⟨_, Lib.hid rfl⟩
 rw [← HR.out]
 have HTAB := Lib.hid hTab
 have HON := Lib.hid hon
 have HC := Lib.hid hC
 have HAA := Lib.hid hA
 have HGV := Lib.hid hg
 have HVN := Lib.hid hv
 obtain ⟨b, off, PA, pc, e1, hb, p0, p1, p2, p3, hPA⟩ := hA.get 0 (show 0 < 3 by omega)
 obtain ⟨_, _, TA, tc, e2, _, t0, t1, t2, t3, hTA⟩ := hA.get 1 (show 1 < 3 by omega)
 obtain ⟨_, _, NA, nc, e3, _, n0, n1, n2, n3, hNA⟩ := hA.get 2 (show 2 < 3 by omega)
 subst e1
 cases e2
 cases e3
 simp only [List.getElem_cons_zero, List.getElem_cons_succ, Nat.zero_mul, Nat.add_zero, Nat.one_mul, Nat.reduceMul] at p0 p1 p2 p3 t0 t1 t2 t3 n0 n1 n2 n3 hPA hTA hNA
 have HPA := Lib.hid hPA
 have HTA := Lib.hid hTA
 have HNA := Lib.hid hNA
 have HBL0 : Hid (Below w.heap.size w ((((((w.alloc (.cells #[.slice OA on oc, .int .i64 q, .int .i64 u, .bool c, .bool d, .slice CA cn cc] 43)).alloc (.cells #[.int .i64 gk, .int .i64 gn, .string gs, .slice (some ⟨b, off, none⟩) 3 ac] 26)).alloc (.cells #[.slice none 0 0, .int .i64 0, .int .i64 0, .bool false, .bool false, .slice none 0 0] 43)).alloc (.cells #[.slice none 0 0] 24)).alloc (.cells #[.int .i64 0, .int .i64 0, .string ⟨#[]⟩, .slice none 0 0] 26)).alloc (.cells #[.int .i64 0] 31))) := Lib.hid (((((((Below.refl _ w).alloc (Nat.le_refl _) _).alloc (by simp) _).alloc (by simp; omega) _).alloc (by simp; omega) _).alloc (by simp; omega) _).alloc (by simp; omega) _)
 have HBK0 : Hid (Bks ((((((w.alloc (.cells #[.slice OA on oc, .int .i64 q, .int .i64 u, .bool c, .bool d, .slice CA cn cc] 43)).alloc (.cells #[.int .i64 gk, .int .i64 gn, .string gs, .slice (some ⟨b, off, none⟩) 3 ac] 26)).alloc (.cells #[.slice none 0 0, .int .i64 0, .int .i64 0, .bool false, .bool false, .slice none 0 0] 43)).alloc (.cells #[.slice none 0 0] 24)).alloc (.cells #[.int .i64 0, .int .i64 0, .string ⟨#[]⟩, .slice none 0 0] 26)).alloc (.cells #[.int .i64 0] 31)) [(w.heap.size + 1 + 1 + 1 + 1 + 1, [.int .i64 0]), (w.heap.size + 1 + 1 + 1 + 1, [.int .i64 0, .int .i64 0, .string ⟨#[]⟩, .slice none 0 0]), (w.heap.size + 1 + 1 + 1, [.slice none 0 0]), (w.heap.size + 1 + 1, [.slice none 0 0, .int .i64 0, .int .i64 0, .bool false, .bool false, .slice none 0 0]), (w.heap.size + 1, [.int .i64 gk, .int .i64 gn, .string gs, .slice (some ⟨b, off, none⟩) 3 ac]), (w.heap.size, [.slice OA on oc, .int .i64 q, .int .i64 u, .bool c, .bool d, .slice CA cn cc])]) := Lib.hid (((((((Bks.nil w).new [.slice OA on oc, .int .i64 q, .int .i64 u, .bool c, .bool d, .slice CA cn cc] 43 rfl).new [.int .i64 gk, .int .i64 gn, .string gs, .slice (some ⟨b, off, none⟩) 3 ac] 26 (by simp)).new [.slice none 0 0, .int .i64 0, .int .i64 0, .bool false, .bool false, .slice none 0 0] 43 (by simp)).new [.slice none 0 0] 24 (by simp)).new [.int .i64 0, .int .i64 0, .string ⟨#[]⟩, .slice none 0 0] 26 (by simp)).new [.int .i64 0] 31 (by simp))
 clear hTab hon hC hA hg hv hPA hTA hNA
 refine (callsIn_wide (n := 12)).1 ?_
 refine callsIn_of_wp_marks Tryz.func113 rfl trivial ?_ rfl
 simp only [Tryz.ntmps113, List.size_toArray, List.length_cons, List.length_nil, Nat.reduceAdd, Nat.reduceSub, Array.replicate_succ, Array.replicate_zero, List.push_toArray, List.append_toArray, List.nil_append, List.cons_append]
 refine wpIn_wide.2 ?_
 go_wp2_with fail
 obtain ⟨W0, HW0⟩ : ∃ W0, Hid (W0 = ((((((w.alloc (.cells #[.slice OA on oc, .int .i64 q, .int .i64 u, .bool c, .bool d, .slice CA cn cc] 43)).alloc (.cells #[.int .i64 gk, .int .i64 gn, .string gs, .slice (some ⟨b, off, none⟩) 3 ac] 26)).alloc (.cells #[.slice none 0 0, .int .i64 0, .int .i64 0, .bool false, .bool false, .slice none 0 0] 43)).alloc (.cells #[.slice none 0 0] 24)).alloc (.cells #[.int .i64 0, .int .i64 0, .string ⟨#[]⟩, .slice none 0 0] 26)).alloc (.cells #[.int .i64 0] 31))) := ⟨_, Lib.hid rfl⟩
 rw [← HW0.out] at HBL0 HBK0 ⊢
 have HHP : Hid (∀ X, Below W0.heap.size W0 X → (X.cell? ⟨b, off, none⟩ = some (.int .i64 p.kind) ∧ X.cell? ⟨b, off + 1, none⟩ = some (.int .i64 p.num) ∧ X.cell? ⟨b, off + 2, none⟩ = some (.string p.name) ∧ X.cell? ⟨b, off + 3, none⟩ = some (.slice PA p.args.length pc)) ∧ (X.cell? ⟨b, off + 4, none⟩ = some (.int .i64 t.kind) ∧ X.cell? ⟨b, off + 4 + 1, none⟩ = some (.int .i64 t.num) ∧ X.cell? ⟨b, off + 4 + 2, none⟩ = some (.string t.name) ∧ X.cell? ⟨b, off + 4 + 3, none⟩ = some (.slice TA t.args.length tc)) ∧ (X.cell? ⟨b, off + 8, none⟩ = some (.int .i64 n.kind) ∧ X.cell? ⟨b, off + 8 + 1, none⟩ = some (.int .i64 n.num) ∧ X.cell? ⟨b, off + 8 + 2, none⟩ = some (.string n.name) ∧ X.cell? ⟨b, off + 8 + 3, none⟩ = some (.slice NA n.args.length nc))) := Lib.hid fun X hX => by
  have hB := HBL0.out.trans (hX.mono HBL0.out.size)
  exact ⟨⟨(hB.cell (p := ⟨b, _, none⟩) hb).trans p0, (hB.cell (p := ⟨b, _, none⟩) hb).trans p1, (hB.cell (p := ⟨b, _, none⟩) hb).trans p2, (hB.cell (p := ⟨b, _, none⟩) hb).trans p3⟩, ⟨(hB.cell (p := ⟨b, _, none⟩) hb).trans t0, (hB.cell (p := ⟨b, _, none⟩) hb).trans t1, (hB.cell (p := ⟨b, _, none⟩) hb).trans t2, (hB.cell (p := ⟨b, _, none⟩) hb).trans t3⟩, (hB.cell (p := ⟨b, _, none⟩) hb).trans n0, (hB.cell (p := ⟨b, _, none⟩) hb).trans n1, (hB.cell (p := ⟨b, _, none⟩) hb).trans n2, (hB.cell (p := ⟨b, _, none⟩) hb).trans n3⟩
 clear HW0 p0 p1 p2 p3 t0 t1 t2 t3 n0 n1 n2 n3 hb
 rename_i K0 hK0
 refine region_own (w0 := W0) [rPure [] [0] (fun | [v] => v = .slice (some ⟨b, off, none⟩) 3 ac | _ => False),
  rPure [0] [1] (fun | [v] => v = .pointer (some ⟨b, off, none⟩) | _ => False),
  rVal [0, 1] [2] (fun | [v] => v = .agg #[.int .i64 p.kind, .int .i64 p.num, .string p.name, .slice PA p.args.length pc] | _ => False),
  rPure [] [3] (fun | [v] => v = .slice (some ⟨b, off, none⟩) 3 ac | _ => False),
  rPure [3] [4] (fun | [v] => v = .pointer (some ⟨b, off + 4, none⟩) | _ => False),
  rVal [3, 4] [5] (fun | [v] => v = .agg #[.int .i64 t.kind, .int .i64 t.num, .string t.name, .slice TA t.args.length tc] | _ => False),
  rPure [] [6] (fun | [v] => v = .slice (some ⟨b, off, none⟩) 3 ac | _ => False),
  rPure [6] [7] (fun | [v] => v = .pointer (some ⟨b, off + 8, none⟩) | _ => False),
  rVal [6, 7] [8] (fun | [v] => v = .agg #[.int .i64 n.kind, .int .i64 n.num, .string n.name, .slice NA n.args.length nc] | _ => False),
  rBox [] [.int .i64 0, .int .i64 0, .string ⟨#[]⟩, .slice none 0 0] 12,
  rBox [] [.int .i64 0, .int .i64 0, .string ⟨#[]⟩, .slice none 0 0] 13,
  rBox [] [.int .i64 0, .int .i64 0, .string ⟨#[]⟩, .slice none 0 0] 14,
  rStore [0, 1, 2, 9, 10, 11] [] 9 (fun _ => [.int .i64 p.kind, .int .i64 p.num, .string p.name, .slice PA p.args.length pc]),
  rStore [0, 1, 2, 3, 4, 5, 9, 10, 11, 12] [] 10 (fun _ => [.int .i64 t.kind, .int .i64 t.num, .string t.name, .slice TA t.args.length tc]),
  rStore (List.range 14) [] 11 (fun _ => [.int .i64 n.kind, .int .i64 n.num, .string n.name, .slice NA n.args.length nc])]
  [some 21, some 22, some 23, some 24, some 25, some 26, some 27, some 28, some 29, some 10, some 11, some 12, none, none, none] (noOp) (W0.heap.size) (by kernel_rfl) (Nat.le_refl _) (by kernel_rfl) (by kernel_rfl) (by kernel_rfl) (fun j o ho => ?srv) (fun val Y N hv HF => ?fin)
 case srv =>
  have hlt : j < 15 := (Array.getElem?_eq_some_iff.1 ho).1
  rcases (show j = 0 ∨ j = 1 ∨ j = 2 ∨ j = 3 ∨ j = 4 ∨ j = 5 ∨ j = 6 ∨ j = 7 ∨ j = 8 ∨ j = 9 ∨ j = 10 ∨ j = 11 ∨ j = 12 ∨ j = 13 ∨ j = 14 by omega) with rfl | rfl | rfl | rfl | rfl | rfl | rfl | rfl | rfl | rfl | rfl | rfl | rfl | rfl | rfl
  ·cases ho
   refine srv_pure rfl rfl (fun val E hE hA => ?_)
   have e1 : E (.tmp 1) = .slice (some ⟨b, off, none⟩) 3 ac := by rw [hE.eq]; rfl
   exact ⟨.slice (some ⟨b, off, none⟩) 3 ac, fun X => by simp [execOp, go_sem, e1], rfl⟩
  ·cases ho
   refine srv_pure rfl rfl (fun val E hE hA => ?_)
   have e21 : E (.tmp 21) = val 0 := by rw [hE.eq]; rfl
   have h0 : val 0 = .slice (some ⟨b, off, none⟩) 3 ac := hA 0 (of_decide_eq_true rfl)
   exact ⟨.pointer (some ⟨b, off, none⟩), fun X => by simp [execOp, go_sem, hE.c, e21, h0], rfl⟩
  ·cases ho
   refine srv_val rfl rfl (fun _ _ _ => trivial) (fun val E X hE hB hA => ?_)
   have e22 : E (.tmp 22) = val 1 := by rw [hE.eq]; rfl
   have h1 : val 1 = .pointer (some ⟨b, off, none⟩) := hA 1 (of_decide_eq_true rfl)
   have hc := (HHP.out X hB).1
   exact ⟨.agg #[.int .i64 p.kind, .int .i64 p.num, .string p.name, .slice PA p.args.length pc], by simp [execOp, go_sem, e22, h1, hc], rfl⟩
  ·cases ho
   refine srv_pure rfl rfl (fun val E hE hA => ?_)
   have e1 : E (.tmp 1) = .slice (some ⟨b, off, none⟩) 3 ac := by rw [hE.eq]; rfl
   exact ⟨.slice (some ⟨b, off, none⟩) 3 ac, fun X => by simp [execOp, go_sem, e1], rfl⟩
  ·cases ho
   refine srv_pure rfl rfl (fun val E hE hA => ?_)
   have e24 : E (.tmp 24) = val 3 := by rw [hE.eq]; rfl
   have h3 : val 3 = .slice (some ⟨b, off, none⟩) 3 ac := hA 3 (of_decide_eq_true rfl)
   exact ⟨.pointer (some ⟨b, off + 4, none⟩), fun X => by simp [execOp, go_sem, hE.c, e24, h3], rfl⟩
  ·cases ho
   refine srv_val rfl rfl (fun _ _ _ => trivial) (fun val E X hE hB hA => ?_)
   have e25 : E (.tmp 25) = val 4 := by rw [hE.eq]; rfl
   have h4 : val 4 = .pointer (some ⟨b, off + 4, none⟩) := hA 4 (of_decide_eq_true rfl)
   have hc := (HHP.out X hB).2.1
   exact ⟨.agg #[.int .i64 t.kind, .int .i64 t.num, .string t.name, .slice TA t.args.length tc], by simp [execOp, go_sem, e25, h4, hc], rfl⟩
  ·cases ho
   refine srv_pure rfl rfl (fun val E hE hA => ?_)
   have e1 : E (.tmp 1) = .slice (some ⟨b, off, none⟩) 3 ac := by rw [hE.eq]; rfl
   exact ⟨.slice (some ⟨b, off, none⟩) 3 ac, fun X => by simp [execOp, go_sem, e1], rfl⟩
  ·cases ho
   refine srv_pure rfl rfl (fun val E hE hA => ?_)
   have e27 : E (.tmp 27) = val 6 := by rw [hE.eq]; rfl
   have h6 : val 6 = .slice (some ⟨b, off, none⟩) 3 ac := hA 6 (of_decide_eq_true rfl)
   exact ⟨.pointer (some ⟨b, off + 8, none⟩), fun X => by simp [execOp, go_sem, hE.c, e27, h6], rfl⟩
  ·cases ho
   refine srv_val rfl rfl (fun _ _ _ => trivial) (fun val E X hE hB hA => ?_)
   have e28 : E (.tmp 28) = val 7 := by rw [hE.eq]; rfl
   have h7 : val 7 = .pointer (some ⟨b, off + 8, none⟩) := hA 7 (of_decide_eq_true rfl)
   have hc := (HHP.out X hB).2.2
   exact ⟨.agg #[.int .i64 n.kind, .int .i64 n.num, .string n.name, .slice NA n.args.length nc], by simp [execOp, go_sem, e28, h7, hc], rfl⟩
  ·cases ho
   exact srv_box rfl (fun _ => trivial) (noOp_term _ _ _ _ _ _) 26 fun E X => by simp [execOp, go_sem]
  ·cases ho
   exact srv_box rfl (fun _ => trivial) (noOp_term _ _ _ _ _ _) 26 fun E X => by simp [execOp, go_sem]
  ·cases ho
   exact srv_box rfl (fun _ => trivial) (noOp_term _ _ _ _ _ _) 26 fun E X => by simp [execOp, go_sem]
  ·cases ho
   refine srv_store rfl rfl (fun _ => trivial) fun val E X b hE hA hb hk => ?_
   have e10 : E (.tmp 10) = val 9 := by rw [hE.eq]; rfl
   have e23 : E (.tmp 23) = val 2 := by rw [hE.eq]; rfl
   have h2 : val 2 = .agg #[.int .i64 p.kind, .int .i64 p.num, .string p.name, .slice PA p.args.length pc] := hA 2 (of_decide_eq_true rfl)
   have z0 := hk.c 0 (.int .i64 0) rfl
   have f0 := hk.f 0
   have z1 := hk.c 1 (.int .i64 0) rfl
   have f1 := hk.f 1
   have z2 := hk.c 2 (.string ⟨#[]⟩) rfl
   have f2 := hk.f 2
   have z3 := hk.c 3 (.slice none 0 0) rfl
   have f3 := hk.f 3
   exact ⟨((((X.setCell ⟨b, 0, none⟩ (.int .i64 p.kind)).setCell ⟨b, 1, none⟩ (.int .i64 p.num)).setCell ⟨b, 2, none⟩ (.string p.name)).setCell ⟨b, 3, none⟩ (.slice PA p.args.length pc)), [.int .i64 p.kind, .int .i64 p.num, .string p.name, .slice PA p.args.length pc], by simp [execOp, go_sem, hb, e10, e23, h2, z0, f0, z1, f1, z2, f2, z3, f3], (((((PutTo.start hk).more 0 (.int .i64 p.kind)).more 1 (.int .i64 p.num)).more 2 (.string p.name)).more 3 (.slice PA p.args.length pc)), rfl, noOp_term _ _ _ _ _ _⟩
  ·cases ho
   refine srv_store rfl rfl (fun _ => trivial) fun val E X b hE hA hb hk => ?_
   have e11 : E (.tmp 11) = val 10 := by rw [hE.eq]; rfl
   have e26 : E (.tmp 26) = val 5 := by rw [hE.eq]; rfl
   have h5 : val 5 = .agg #[.int .i64 t.kind, .int .i64 t.num, .string t.name, .slice TA t.args.length tc] := hA 5 (of_decide_eq_true rfl)
   have z0 := hk.c 0 (.int .i64 0) rfl
   have f0 := hk.f 0
   have z1 := hk.c 1 (.int .i64 0) rfl
   have f1 := hk.f 1
   have z2 := hk.c 2 (.string ⟨#[]⟩) rfl
   have f2 := hk.f 2
   have z3 := hk.c 3 (.slice none 0 0) rfl
   have f3 := hk.f 3
   exact ⟨((((X.setCell ⟨b, 0, none⟩ (.int .i64 t.kind)).setCell ⟨b, 1, none⟩ (.int .i64 t.num)).setCell ⟨b, 2, none⟩ (.string t.name)).setCell ⟨b, 3, none⟩ (.slice TA t.args.length tc)), [.int .i64 t.kind, .int .i64 t.num, .string t.name, .slice TA t.args.length tc], by simp [execOp, go_sem, hb, e11, e26, h5, z0, f0, z1, f1, z2, f2, z3, f3], (((((PutTo.start hk).more 0 (.int .i64 t.kind)).more 1 (.int .i64 t.num)).more 2 (.string t.name)).more 3 (.slice TA t.args.length tc)), rfl, noOp_term _ _ _ _ _ _⟩
  ·cases ho
   refine srv_store rfl rfl (fun _ => trivial) fun val E X b hE hA hb hk => ?_
   have e12 : E (.tmp 12) = val 11 := by rw [hE.eq]; rfl
   have e29 : E (.tmp 29) = val 8 := by rw [hE.eq]; rfl
   have h8 : val 8 = .agg #[.int .i64 n.kind, .int .i64 n.num, .string n.name, .slice NA n.args.length nc] := hA 8 (of_decide_eq_true rfl)
   have z0 := hk.c 0 (.int .i64 0) rfl
   have f0 := hk.f 0
   have z1 := hk.c 1 (.int .i64 0) rfl
   have f1 := hk.f 1
   have z2 := hk.c 2 (.string ⟨#[]⟩) rfl
   have f2 := hk.f 2
   have z3 := hk.c 3 (.slice none 0 0) rfl
   have f3 := hk.f 3
   exact ⟨((((X.setCell ⟨b, 0, none⟩ (.int .i64 n.kind)).setCell ⟨b, 1, none⟩ (.int .i64 n.num)).setCell ⟨b, 2, none⟩ (.string n.name)).setCell ⟨b, 3, none⟩ (.slice NA n.args.length nc)), [.int .i64 n.kind, .int .i64 n.num, .string n.name, .slice NA n.args.length nc], by simp [execOp, go_sem, hb, e12, e29, h8, z0, f0, z1, f1, z2, f2, z3, f3], (((((PutTo.start hk).more 0 (.int .i64 n.kind)).more 1 (.int .i64 n.num)).more 2 (.string n.name)).more 3 (.slice NA n.args.length nc)), rfl, noOp_term _ _ _ _ _ _⟩
 case fin =>
  have h0 : val 0 = .slice (some ⟨b, off, none⟩) 3 ac := hv 0 (show 0 < 15 by decide)
  have h1 : val 1 = .pointer (some ⟨b, off, none⟩) := hv 1 (show 1 < 15 by decide)
  have h2 : val 2 = .agg #[.int .i64 p.kind, .int .i64 p.num, .string p.name, .slice PA p.args.length pc] := hv 2 (show 2 < 15 by decide)
  have h3 : val 3 = .slice (some ⟨b, off, none⟩) 3 ac := hv 3 (show 3 < 15 by decide)
  have h4 : val 4 = .pointer (some ⟨b, off + 4, none⟩) := hv 4 (show 4 < 15 by decide)
  have h5 : val 5 = .agg #[.int .i64 t.kind, .int .i64 t.num, .string t.name, .slice TA t.args.length tc] := hv 5 (show 5 < 15 by decide)
  have h6 : val 6 = .slice (some ⟨b, off, none⟩) 3 ac := hv 6 (show 6 < 15 by decide)
  have h7 : val 7 = .pointer (some ⟨b, off + 8, none⟩) := hv 7 (show 7 < 15 by decide)
  have h8 : val 8 = .agg #[.int .i64 n.kind, .int .i64 n.num, .string n.name, .slice NA n.args.length nc] := hv 8 (show 8 < 15 by decide)
  obtain ⟨e0, h9, l9, hE0, _⟩ := HF.at_box 9 (by decide) rfl
  obtain ⟨e1, h10, l10, hE1, _⟩ := HF.at_box 10 (by decide) rfl
  obtain ⟨e2, h11, l11, hE2, _⟩ := HF.at_box 11 (by decide) rfl
  have HE0_0 : Hid (Bk Y e0 [.int .i64 p.kind, .int .i64 p.num, .string p.name, .slice PA p.args.length pc]) := Lib.hid hE0
  have HE1_0 : Hid (Bk Y e1 [.int .i64 t.kind, .int .i64 t.num, .string t.name, .slice TA t.args.length tc]) := Lib.hid hE1
  have HE2_0 : Hid (Bk Y e2 [.int .i64 n.kind, .int .i64 n.num, .string n.name, .slice NA n.args.length nc]) := Lib.hid hE2
  have HB_0 := Lib.hid (HBL0.out.trans (HF.bel.mono HBL0.out.size))
  have HK_0 := Lib.hid (HBK0.out.keep fun x hx => HF.bel.block x.1 (HBK0.out.bk x hx).lt)
  have HL0 : Hid (w.heap.size + 1 + 1 + 1 + 1 + 1 < W0.heap.size) := Lib.hid (HBK0.out.lt 0 rfl)
  have HLE := Lib.hid (And.intro l9 (And.intro l10 l11))
  have HLY := Lib.hid HF.bel.size
  clear hv HF hE0 hE1 hE2 HHP HBL0 HBK0 l9 l10 l11
  refine hK0 _ _ ?_
  simp only [fillD, List.set_cons_zero, List.set_cons_succ, Nat.reduceAdd, Nat.zero_add, h9, h10, h11, h0, h1, h2, h3, h4, h5, h6, h7, h8]
  clear hK0 h9 h10 h11 h0 h1 h2 h3 h4 h5 h6 h7 h8
  have x0 := HE0_0.out.all0
  simp only [bkAll, Nat.zero_add, Nat.reduceAdd, and_true] at x0
  have x1 := HE1_0.out.all0
  simp only [bkAll, Nat.zero_add, Nat.reduceAdd, and_true] at x1
  have x2 := HE2_0.out.all0
  simp only [bkAll, Nat.zero_add, Nat.reduceAdd, and_true] at x2
  have HCK := Lib.hid (f_checkOps_n p t n PA TA NA pc tc nc Y HVN.out ((HPA.out.keep HB_0.out).mono HB_0.out.size) ((HTA.out.keep HB_0.out).mono HB_0.out.size) ((HNA.out.keep HB_0.out).mono HB_0.out.size))
  unfold tmV at HCK
  go_wp2_with fail
  refine HCK.out.mono ?_; rintro e w1 ⟨bb, IA, ic, ok, rfl, hB1, hN1, hR1⟩
  have HN_1 := Lib.hid hN1
  have HR_1 := Lib.hid hR1
  clear hN1 hR1 HCK x0 x1 x2
  have HB_2 := Lib.hid (HB_0.out.trans (hB1.mono HB_0.out.size))
  have HK_2 := Lib.hid (HK_0.out.call hB1)
  have HE0_2 := Lib.hid (HE0_0.out.call hB1)
  have HE1_2 := Lib.hid (HE1_0.out.call hB1)
  have HE2_2 := Lib.hid (HE2_0.out.call hB1)
  clear hB1 HB_0 HK_0 HE0_0 HE1_0 HE2_0 
  have cc3 := HK_2.out.all
  simp only [bksAll, bkAll, Nat.zero_add, Nat.reduceAdd, and_true] at cc3
  have x1 := HE1_2.out.all0
  simp only [bkAll, Nat.zero_add, Nat.reduceAdd, and_true] at x1
  have HRZ := Lib.hid (fun (bb : Tm) (IA : Option Addr) (ic : Nat) (X : World) => f_raise bb IA ic X)
  unfold tmV rvB RV.val at HRZ
  dsimp only at HRZ
  have HLW : Hid (w.heap.size ≤ Y.heap.size ∧ w.heap.size + 1 + 1 + 1 + 1 + 1 < Y.heap.size) := Lib.hid (by have := HL0.out; have := HLY.out; constructor <;> omega)
  cases ok
  ·skip
   have HRE : Hid (R = .ball bb) := Lib.hid (by
    have h := HR_1.out
    rw [if_neg (by simp)] at h
    rw [HR.out]; unfold setOpsC; rw [h])
   clear HR_1 HE0_2 HE1_2 HE2_2
   go_wp2_with fail
   refine (HRZ.out bb IA ic _).mono ?_; rintro e w3 ⟨rfl, hB3⟩
   have hB13 : Below w1.heap.size w1 w3 := ((Below.refl w1.heap.size w1).alloc (Nat.le_refl _) _).trans (hB3.mono (by simp))
   clear hB3 x1
   have HB_4 := Lib.hid (HB_2.out.trans (hB13.mono HB_2.out.size))
   have HK_4 := Lib.hid (HK_2.out.call hB13)
   have HN_4 := Lib.hid ((show NewT Y w3 IA bb.args from HN_1.out.keep (fun b hb => hB13.block b hb.2) (fun b hb => ⟨hb.1, Nat.lt_of_lt_of_le hb.2 hB13.size⟩)))
   clear hB13 HB_2 HK_2 HN_1 cc3 
   have cc5 := HK_4.out.all
   simp only [bksAll, bkAll, Nat.zero_add, Nat.reduceAdd, and_true] at cc5
   obtain ⟨wz, HWZ⟩ : ∃ wz, Hid (wz = layR w3 w.heap.size (rvB bb.kind bb.num bb.name IA bb.args.length ic 8)) := ⟨_, Lib.hid rfl⟩
   have hkl : Bks w3 (resL w.heap.size rv0 ++ [(w.heap.size + 1, [.int .i64 gk, .int .i64 gn, .string gs, .slice (some ⟨b, off, none⟩) 3 ac]), (w.heap.size, [.slice OA on oc, .int .i64 q, .int .i64 u, .bool c, .bool d, .slice CA cn cc])]) := HK_4.out
   have hk := hkl.lay (rvB bb.kind bb.num bb.name IA bb.args.length ic 8)
   have hb := layR_below w.heap.size (rvB bb.kind bb.num bb.name IA bb.args.length ic 8) (Nat.le_refl _) HB_4.out
   have hr : RIs BB w (layR w3 w.heap.size (rvB bb.kind bb.num bb.name IA bb.args.length ic 8)) (rvB bb.kind bb.num bb.name IA bb.args.length ic 8) R := RIs.lay (W := Y) HLW.out.1 HLW.out.2 hkl (show RIs BB Y w3 (rvB bb.kind bb.num bb.name IA bb.args.length ic 8) R from by rw [HRE.out]; exact ⟨rfl, rfl, rfl, rfl, rfl, HN_4.out⟩) (fun b o e => by cases e)
   rw [← HWZ.out] at hk hb hr
   have hz := HWZ.out
   simp only [layR, setL, rvB, Nat.zero_add, Nat.reduceAdd] at hz
   have HWY := Lib.hid hz
   have HK_Z := Lib.hid hk
   have HB_Z := Lib.hid hb
   have HR_Z := Lib.hid hr
   clear hz hk hb hr hkl HWZ HB_4 HK_4
   go_wp2_with fail
   rw [← HWY.out]
   have cz := HK_Z.out.all
   simp only [resL, rvB, List.cons_append, List.nil_append, bksAll, bkAll, Nat.zero_add, Nat.reduceAdd, and_true] at cz
   exact ⟨.tuple #[.agg #[.slice none 0 0, .int .i64 0, .int .i64 0, .bool false, .bool false, .slice none 0 0], .slice none 0 0, .agg #[.int .i64 bb.kind, .int .i64 bb.num, .string bb.name, .slice IA bb.args.length ic], .int .i64 8], by simp [results, Tryz.results113, go_sem, cz], (rvB bb.kind bb.num bb.name IA bb.args.length ic 8), rfl, HB_Z.out, HR_Z.out⟩
  ·have HCN : Hid (chkC p t n = none) := Lib.hid (by have h := HR_1.out; rw [if_pos rfl] at h; exact h.1)
   obtain ⟨typ, HTY⟩ : ∃ typ, Hid (typ = tyOf t.name) := ⟨_, Lib.hid rfl⟩
   have HTF := Lib.hid (fun X => ops_typeOf t.name X)
   rw [← HTY.out] at HTF
   have HRR : Hid (R = match opsGo typ p.num l (nmL n) with | .inl c => c | .inr l => .ok ⟨l, ⟨q, u, c, d⟩, cl⟩ [(.mk gk gn gs [p, t, n])]) := Lib.hid (by
    rw [HR.out, HTY.out]; unfold setOpsC; rw [HCN.out])
   obtain ⟨okt, HOK⟩ : ∃ b, Hid (b = decide (0 < typ)) := ⟨_, Lib.hid rfl⟩
   rw [← HOK.out] at HTF
   clear HR_1 HN_1 HR HCN HOK HTY
   go_wp2_with fail
   refine (HTF.out _).mono ?_; rintro e w3 ⟨rfl, hB3⟩
   have hB13 : Below w1.heap.size w1 w3 := ((Below.refl w1.heap.size w1).alloc (Nat.le_refl _) _).trans (hB3.mono (by simp))
   clear hB3 x1 HTF HE1_2
   have HB_4 := Lib.hid (HB_2.out.trans (hB13.mono HB_2.out.size))
   have HK_4 := Lib.hid (HK_2.out.call hB13)
   have HE0_4 := Lib.hid (HE0_2.out.call hB13)
   have HE2_4 := Lib.hid (HE2_2.out.call hB13)
   clear hB13 HB_2 HK_2 HE0_2 HE2_2 cc3 
   have HW3 : Hid (w.heap.size < w3.heap.size) := Lib.hid (HK_4.out.lt 5 rfl)
   have cc5 := HK_4.out.all
   simp only [bksAll, bkAll, Nat.zero_add, Nat.reduceAdd, and_true] at cc5
   have x2 := HE2_4.out.all0
   simp only [bkAll, Nat.zero_add, Nat.reduceAdd, and_true] at x2
   have HSEQ : Hid (Calls Tryz.prog 148 #[.agg #[.int .i64 n.kind, .int .i64 n.num, .string n.name, .slice NA n.args.length nc]] (w3.alloc (.cells #[.int .i64 typ] 3)) fun e w' => e = .returned (.func (.func 186) #[] #[.pointer (some ⟨w3.heap.size + 1, 0, none⟩)]) ∧ TBx w' (w3.heap.size + 1) n NA nc ∧ w' = (w3.alloc (.cells #[.int .i64 typ] 3)).alloc (.cells #[.int .i64 n.kind, .int .i64 n.num, .string n.name, .slice NA n.args.length nc] 26)) := Lib.hid (by
    have := f_nameSeq n NA nc (w3.alloc (.cells #[.int .i64 typ] 3))
    rw [show (w3.alloc (.cells #[.int .i64 typ] 3)).heap.size = w3.heap.size + 1 by simp] at this; exact this)
   go_wp2_with fail
   refine HSEQ.out.mono ?_; rintro e w4 ⟨rfl, hX4, hw4⟩
   have hB34 : Below w3.heap.size w3 w4 := by rw [hw4]; exact ((Below.refl w3.heap.size w3).alloc (Nat.le_refl _) _).alloc (by simp) _
   have hs34 : w3.heap.size + 1 < w4.heap.size := by rw [hw4]; simp
   have HE15 : Hid (Bk w4 w3.heap.size [.int .i64 typ]) := Lib.hid (by rw [hw4]; exact (Bk.new w3 [.int .i64 typ] 3).al _)
   have HBL4 := Lib.hid (HB_4.out.trans (hB34.mono HB_4.out.size))
   have HBK4 : Hid (Bks w4 (resL w.heap.size rv0 ++ [(w.heap.size + 1, [.int .i64 gk, .int .i64 gn, .string gs, .slice (some ⟨b, off, none⟩) 3 ac]), (w.heap.size, [.slice OA on oc, .int .i64 q, .int .i64 u, .bool c, .bool d, .slice CA cn cc])])) := Lib.hid (HK_4.out.call hB34)
   have HE04 := Lib.hid (HE0_4.out.call hB34)
   have HSQ := Lib.hid (names_stops 11 n NA nc (w3.heap.size + 1) w4 HVN.out hX4 hs34 ((HNA.out.keep HBL4.out).mono HBL4.out.size))
   clear hw4 hX4 hB34 hs34 HB_4 HK_4 HE0_4 HE2_4 HSEQ x2 cc5
   go_wp2_with fail
   refine (wpIn_wide (n := 12)).1 ?_
   refine wpIn_rangeX rfl (by omega) (gf := 186) (lb := #[.pointer (some ⟨w3.heap.size + 1, 0, none⟩)]) rfl trivial (enters_of Tryz.func186 (by kernel_rfl) rfl) HSQ.out (fun h k => h.trans k) (fun W l o o' _ h hc => KpC.put W l o o' h hc) (fun _ => rfl)
    (fun pre W => SoI w e0 w3.heap.size [.int .i64 p.kind, .int .i64 p.num, .string p.name, .slice PA p.args.length pc] typ (fun OX nx cx => resL w.heap.size rv0 ++ [(w.heap.size + 1, [.int .i64 gk, .int .i64 gn, .string gs, .slice (some ⟨b, off, none⟩) 3 ac]), (w.heap.size, [.slice OX nx cx, .int .i64 q, .int .i64 u, .bool c, .bool d, .slice CA cn cc])]) (opsGo typ p.num l (pre.map (fun x : TR => x.1))) W) (fun jc _ W => SoX w (fun r OX nx cx => resL w.heap.size r ++ [(w.heap.size + 1, [.int .i64 gk, .int .i64 gn, .string gs, .slice (some ⟨b, off, none⟩) 3 ac]), (w.heap.size, [.slice OX nx cx, .int .i64 q, .int .i64 u, .bool c, .bool d, .slice CA cn cc])]) R jc W)
    (SoI.own w w4 e0 w3.heap.size [.int .i64 p.kind, .int .i64 p.num, .string p.name, .slice PA p.args.length pc] typ (fun OX nx cx => resL w.heap.size rv0 ++ [(w.heap.size + 1, [.int .i64 gk, .int .i64 gn, .string gs, .slice (some ⟨b, off, none⟩) 3 ac]), (w.heap.size, [.slice OX nx cx, .int .i64 q, .int .i64 u, .bool c, .bool d, .slice CA cn cc])]) (fun pre : List TR => opsGo typ p.num l (pre.map (fun x : TR => x.1))) HBL4.out.size) (fun jc => SoX.own w w4 (fun r OX nx cx => resL w.heap.size r ++ [(w.heap.size + 1, [.int .i64 gk, .int .i64 gn, .string gs, .slice (some ⟨b, off, none⟩) 3 ac]), (w.heap.size, [.slice OX nx cx, .int .i64 q, .int .i64 u, .bool c, .bool d, .slice CA cn cc])]) R jc HBL4.out.size)
    ⟨HBL4.out, HE04.out, HE15.out, l, OA, on, oc, rfl, HBK4.out, HTAB.out.below HBL4.out, HON.out⟩ ?round ?done ?stop
   case round =>
    rintro rl pre ⟨a, XA, xc⟩ W hl hlW hlo hI hx hsp
    obtain ⟨cur, OA', on', oc', hcur, hk, ht, hn⟩ := hI.ex
    have HSP := Lib.hid hsp
    have HGO : Hid (opsGo typ p.num l ((pre ++ [((a, XA, xc) : TR)]).map (fun x : TR => x.1)) = opsStep typ p.num (.inr cur) a) := Lib.hid (by rw [List.map_append, List.map_singleton, opsGo_snoc, hcur])
    have hBa := (Below.refl W.heap.size W).alloc (Nat.le_refl _) (.cells #[.int .i64 a.kind, .int .i64 a.num, .string a.name, .slice XA a.args.length xc] 26)
    have HKA := Lib.hid (hk.new [.int .i64 a.kind, .int .i64 a.num, .string a.name, .slice XA a.args.length xc] 26 rfl)
    have HBA := Lib.hid hBa
    have HBB := Lib.hid (hI.bel.trans (hBa.mono hI.bel.size))
    have H0A := Lib.hid (hI.h0.call hBa)
    have H15A := Lib.hid (hI.h15.call hBa)
    have HTA2 := Lib.hid (ht.below hBa)
    have HXA := Lib.hid hx
    have HN := Lib.hid hn
    have HCUR := Lib.hid hcur
    have hl15 := HE15.out.lt
    have hl0 := HE04.out.lt
    have h04 := HBL4.out.size
    have HG4 : Hid (w.heap.size + 1 + 1 + 1 + 1 + 1 < w4.heap.size) := Lib.hid (HBK4.out.lt 0 rfl)
    have hne : rl ≠ W.heap.size := by omega
    have HLO := Lib.hid hlo
    clear hBa hI hk ht hx hsp hlo hn hcur
    unfold tmV
    gi_wp2
    refine ⟨keeps_below HBA.out, KpC.below HBA.out, fun W2 hX2' => ?_⟩
    have hX2 : Bx rl (W.alloc (.cells #[.int .i64 a.kind, .int .i64 a.num, .string a.name, .slice XA a.args.length xc] 26)).heap.size (W.alloc (.cells #[.int .i64 a.kind, .int .i64 a.num, .string a.name, .slice XA a.args.length xc] 26)) W2 := by rw [World.size_alloc]; exact hX2'
    clear hX2'
    have hLA : ∀ k o (s : ByteArray), (W.alloc (.cells #[.int .i64 a.kind, .int .i64 a.num, .string a.name, .slice XA a.args.length xc] 26)).cell? ⟨k, o, none⟩ = some (.string s) → k ≠ rl := fun k o s hc e => by
     subst e
     obtain ⟨x, hx, hxc⟩ := isCells_of_cell hc
     obtain ⟨y, hy, hyc⟩ := HLO.out
     have := (HBA.out.block _ hlW).trans hy
     rw [this] at hx; injection hx with hx; subst hx; rw [hxc] at hyc; cases hyc
    have HTB := Lib.hid (tab_other HTA2.out hX2.size fun k o s x hc _ => hX2.block k (lt_of_cell hc) (hLA k o s hc))
    have HBKW := Lib.hid (HKA.out.bx hX2 (fun x hx e => by
     obtain ⟨y, hy⟩ := HKA.out.bk x hx
     obtain ⟨o, ho, hoc⟩ := HLO.out
     have h1 := (HBA.out.block _ hlW).trans ho
     rw [e, h1] at hy; injection hy with hy; subst hy; cases hoc) (fun x hx => (HKA.out.bk x hx).lt))
    have H0B := Lib.hid (H0A.out.keeps (hX2.block _ H0A.out.lt (by omega)))
    have H15B := Lib.hid (H15A.out.keeps (hX2.block _ H15A.out.lt (by omega)))
    have HBLW := Lib.hid (HBB.out.trans (hX2.under (B := w.heap.size) (by omega) HBB.out.size))
    have HKP : Hid (KpC 0 W W2) := Lib.hid (by
     obtain ⟨o, ho, hoc⟩ := HLO.out
     exact (KpC.below (B := 0) HBA.out).trans (kp_bx hX2 ((HBA.out.block _ hlW).trans ho) hoc))
    clear hX2 hLA HTA2 HKA H0A H15A HBB HBA HLO
    have rs := HBKW.out.all
    simp only [resL, rv0, List.cons_append, List.nil_append, bksAll, bkAll, Nat.zero_add, Nat.reduceAdd, and_true] at rs
    have rp := H0B.out.c 1 (.int .i64 p.num) rfl
    have rt := H15B.out.c 0 (.int .i64 typ) rfl
    obtain ⟨er, HER⟩ : ∃ er, Hid (er = (setR cur ⟨a.name, typ, p.num⟩).2) := ⟨_, Lib.hid rfl⟩
    have HSC : Hid (∀ (X : World), Tab X OA' on' oc' cur → Calls Tryz.prog 149 #[.slice OA' on' oc', .int .i64 p.num, .int .i64 typ, .string a.name] X fun e w' => ∃ OB nB cB, e = .returned (.tuple #[.slice OB nB cB, .int .i64 er]) ∧ Below X.heap.size X w' ∧ Tab w' OB nB cB (setR cur ⟨a.name, typ, p.num⟩).1) := Lib.hid fun X hT => by
     have h := ops_set OA' on' oc' cur p.num typ a.name X HN.out hT
     rw [← HER.out] at h; exact h
    gi_wp2
    refine ⟨trivial, (CallsIn.inRound rl (callsIn_wide.2 (HSC.out _ HTB.out))).mono ?_⟩
    rintro e W3 ⟨OB, nB, cB, rfl, hB3, hT3⟩
    have HB3 := Lib.hid hB3
    have HT3 := Lib.hid hT3
    have HBL3 := Lib.hid (HBLW.out.trans (hB3.mono HBLW.out.size))
    have HBKX := Lib.hid (HBKW.out.call hB3)
    have H03 := Lib.hid (H0B.out.call hB3)
    have H153 := Lib.hid (H15B.out.call hB3)
    clear hB3 hT3 rs rp rt HBKW HTB H0B H15B HSC
    have rs := HBKX.out.all
    simp only [resL, rv0, List.cons_append, List.nil_append, bksAll, bkAll, Nat.zero_add, Nat.reduceAdd, and_true] at rs
    have HBK3 : Hid (Bks W3 (resL w.heap.size rv0 ++ [(w.heap.size + 1, [.int .i64 gk, .int .i64 gn, .string gs, .slice (some ⟨b, off, none⟩) 3 ac]), (w.heap.size, [.slice OA' on' oc', .int .i64 q, .int .i64 u, .bool c, .bool d, .slice CA cn cc])])) := Lib.hid HBKX.out.tl
    by_cases h13 : er = 13
    ·have t13 : (er == 13) = true := by simp [h13]
     have HRE : Hid (R = .err 13) := Lib.hid (by
      rw [HRR.out, opsGo_stop HSP.out (by rw [HGO.out]; unfold opsStep; dsimp only; rw [← HER.out, if_pos h13])])
     subst h13
     obtain ⟨wz, HWZ⟩ : ∃ wz, Hid (wz = layR W3 w.heap.size (rvB 0 0 ⟨#[]⟩ none 0 0 13)) := ⟨_, Lib.hid rfl⟩
     have hk := HBK3.out.lay (rvB 0 0 ⟨#[]⟩ none 0 0 13)
     have hb := layR_below w.heap.size (rvB 0 0 ⟨#[]⟩ none 0 0 13) (Nat.le_refl _) HBL3.out
     have hq := (keeps_below HB3.out).trans (keeps_layR W3 w.heap.size (rvB 0 0 ⟨#[]⟩ none 0 0 13))
     skip
     rw [← HWZ.out] at hk hb hq
     have hz := HWZ.out
     simp only [layR, setL, rvB, Nat.zero_add, Nat.reduceAdd] at hz
     have HWY := Lib.hid hz
     have HFN := Lib.hid (And.intro hq (And.intro hk hb))
     clear hz hk hb hq
     gi_wp2
     rw [← HWY.out]
     exact ⟨HFN.out.1, rfl, HFN.out.2.2, _, OA', on', oc', HFN.out.2.1, .inr ⟨rfl, HRE.out⟩⟩
    ·have t13 : (er == 13) = false := by simp [h13]
     by_cases h0 : er = 0
     ·have t0 : (er != 0) = false := by simp [h0]
      have lg : w.heap.size < w4.heap.size := by have := HG4.out; omega
      have HNX : Hid (opsGo typ p.num l ((pre ++ [((a, XA, xc) : TR)]).map (fun x : TR => x.1)) = .inr (setR cur ⟨a.name, typ, p.num⟩).1) := Lib.hid (by rw [HGO.out]; unfold opsStep; dsimp only; rw [← HER.out, if_neg h13, if_pos h0])
      have HSM := Lib.hid (setR_small (HER.out ▸ h0))
      clear h13 h0
      gi_wp2
      refine ⟨(keeps_below HB3.out).trans (KeepsOthers.setCell _ _ _), (KpC.below HB3.out).trans (KpC.setOld lg _ _), HBL3.out.setCell (p := ⟨_, _, none⟩) (Nat.le_refl _) _, H03.out.other (by have := HLE.out.1; have := HL0.out; omega) _ _, H153.out.other (by have := HW3.out; omega) _ _, _, OB, nB, cB, HNX.out, HBK3.out.set 5 0 rfl _, ?_, by have := HSM.out; rw [HT3.out.len]; omega⟩
      exact tab_boxes (L := [(w.heap.size, [.slice OA' on' oc', .int .i64 q, .int .i64 u, .bool c, .bool d, .slice CA cn cc])]) HT3.out ⟨fun x hx => by rw [List.mem_singleton.1 hx]; exact HBK3.out.at 5 _ _ rfl, by simp⟩ (fun x hx => by
       rw [List.mem_singleton.1 hx]
       exact noOp_syn _ _ _ _ _ _ _ _ _ _) (by simp) (fun k hk => heap_setCell_other _ ⟨w.heap.size, 0, none⟩ k _ (hk _ (List.mem_singleton.2 rfl)))
     ·have t0 : (er != 0) = true := by simp [h0]
      have HXA3 : Hid (TmsAt W3.heap.size W3 XA a.args) := Lib.hid (TmsK.at' (TmsK.kp HXA.out (fun _ _ => Nat.zero_le _) (HKP.out.trans (KpC.below HB3.out))))
      have HRE : Hid (R = .ball (permT (if a.name.toList = [44] then ⟨#[109, 111, 100, 105, 102, 121]⟩ else ⟨#[99, 114, 101, 97, 116, 101]⟩) ⟨#[111, 112, 101, 114, 97, 116, 111, 114]⟩ a)) := Lib.hid (by
       rw [HRR.out, opsGo_stop HSP.out (by rw [HGO.out]; unfold opsStep; dsimp only; rw [← HER.out, if_neg h13, if_neg h0])])
      have HL3 : Hid (w.heap.size + 1 + 1 + 1 + 1 + 1 < W3.heap.size ∧ w.heap.size ≤ W3.heap.size) := Lib.hid ⟨HBK3.out.lt 0 rfl, HBL3.out.size⟩
      clear h13 h0
      by_cases hcm : a.name.toList = [44]
      ·have tn : (a.name.toList == [44]) = true := by simp [hcm]
       rw [if_pos hcm] at HRE
       clear hcm
       have HPM := Lib.hid (b_perm ⟨#[109, 111, 100, 105, 102, 121]⟩ ⟨#[111, 112, 101, 114, 97, 116, 111, 114]⟩ a XA xc W3 (by decide) (by decide) HXA3.out)
       unfold tmV at HPM
       gi_wp2
       refine ⟨trivial, (CallsIn.inRound rl (callsIn_wide.2 HPM.out)).mono ?_⟩
       rintro e W4 ⟨IA, ic, rfl, hB4, hN4⟩
       obtain ⟨bb, HBB⟩ : ∃ b, Hid (b = permT ⟨#[109, 111, 100, 105, 102, 121]⟩ ⟨#[111, 112, 101, 114, 97, 116, 111, 114]⟩ a) := ⟨_, Lib.hid rfl⟩
       have hBe : permT ⟨#[109, 111, 100, 105, 102, 121]⟩ ⟨#[111, 112, 101, 114, 97, 116, 111, 114]⟩ a = bb := HBB.out.symm
       unfold permT at hBe
       rw [hBe] at hN4 ⊢
       rw [← HBB.out] at HRE
       have HB4 := Lib.hid hB4
       have HBL4' := Lib.hid (HBL3.out.trans (hB4.mono HBL3.out.size))
       have HBK4' := Lib.hid (HBKX.out.call hB4)
       have HN4 := Lib.hid hN4
       clear hB4 hN4 hBe HBB rs HPM HXA3
       have rs := HBK4'.out.all
       simp only [resL, rv0, List.cons_append, List.nil_append, bksAll, bkAll, Nat.zero_add, Nat.reduceAdd, and_true] at rs
       gi_wp2
       refine ⟨trivial, (CallsIn.inRound rl (callsIn_wide.2 (HRZ.out bb IA ic _))).mono ?_⟩
       rintro e W5 ⟨rfl, hB5⟩
       have HB5 := Lib.hid hB5
       have HBL5 := Lib.hid (HBL4'.out.trans (hB5.mono HBL4'.out.size))
       have HBK5 := Lib.hid (HBK4'.out.call hB5)
       have hBK5 : Bks W5 (resL w.heap.size rv0 ++ [(w.heap.size + 1, [.int .i64 gk, .int .i64 gn, .string gs, .slice (some ⟨b, off, none⟩) 3 ac]), (w.heap.size, [.slice OA' on' oc', .int .i64 q, .int .i64 u, .bool c, .bool d, .slice CA cn cc])]) := HBK5.out.tl
       have HN5 : Hid (NewT W3 W5 IA bb.args) := Lib.hid (HN4.out.keep (fun b hb => hB5.block b hb.2) (fun b hb => ⟨hb.1, Nat.lt_of_lt_of_le hb.2 hB5.size⟩))
       clear hB5 rs
       have rs := HBK5.out.all
       simp only [resL, rv0, List.cons_append, List.nil_append, bksAll, bkAll, Nat.zero_add, Nat.reduceAdd, and_true] at rs
       obtain ⟨wz, HWZ⟩ : ∃ wz, Hid (wz = layR W5 w.heap.size (rvB bb.kind bb.num bb.name IA bb.args.length ic 8)) := ⟨_, Lib.hid rfl⟩
       have hk := hBK5.lay (rvB bb.kind bb.num bb.name IA bb.args.length ic 8)
       have hb := layR_below w.heap.size (rvB bb.kind bb.num bb.name IA bb.args.length ic 8) (Nat.le_refl _) HBL5.out
       have hq := (((keeps_below HB3.out).trans (keeps_below HB4.out)).trans (keeps_below HB5.out)).trans (keeps_layR W5 w.heap.size (rvB bb.kind bb.num bb.name IA bb.args.length ic 8))
       have hn : NewT w wz IA bb.args := HN5.out.keep (fun b hb => by rw [HWZ.out, layR_other _ _ _ (by have := HL3.out.1; have := hb.1; omega)]) (fun b hb => ⟨Nat.le_trans HL3.out.2 hb.1, by rw [HWZ.out, layR_size]; exact hb.2⟩)
       have HNZ := Lib.hid hn
       clear hn
       rw [← HWZ.out] at hk hb hq
       have hz := HWZ.out
       simp only [layR, setL, rvB, Nat.zero_add, Nat.reduceAdd] at hz
       have HWY := Lib.hid hz
       have HFN := Lib.hid (And.intro hq (And.intro hk hb))
       clear hz hk hb hq
       clear hBK5
       gi_wp2
       rw [← HWY.out]
       exact ⟨HFN.out.1, rfl, HFN.out.2.2, _, OA', on', oc', HFN.out.2.1, .inl ⟨bb, IA, ic, rfl, HNZ.out, HRE.out⟩⟩
      ·have tn : (a.name.toList == [44]) = false := by simp [hcm]
       rw [if_neg hcm] at HRE
       clear hcm
       have HPM := Lib.hid (b_perm ⟨#[99, 114, 101, 97, 116, 101]⟩ ⟨#[111, 112, 101, 114, 97, 116, 111, 114]⟩ a XA xc W3 (by decide) (by decide) HXA3.out)
       unfold tmV at HPM
       gi_wp2
       refine ⟨trivial, (CallsIn.inRound rl (callsIn_wide.2 HPM.out)).mono ?_⟩
       rintro e W4 ⟨IA, ic, rfl, hB4, hN4⟩
       obtain ⟨bb, HBB⟩ : ∃ b, Hid (b = permT ⟨#[99, 114, 101, 97, 116, 101]⟩ ⟨#[111, 112, 101, 114, 97, 116, 111, 114]⟩ a) := ⟨_, Lib.hid rfl⟩
       have hBe : permT ⟨#[99, 114, 101, 97, 116, 101]⟩ ⟨#[111, 112, 101, 114, 97, 116, 111, 114]⟩ a = bb := HBB.out.symm
       unfold permT at hBe
       rw [hBe] at hN4 ⊢
       rw [← HBB.out] at HRE
       have HB4 := Lib.hid hB4
       have HBL4' := Lib.hid (HBL3.out.trans (hB4.mono HBL3.out.size))
       have HBK4' := Lib.hid (HBKX.out.call hB4)
       have HN4 := Lib.hid hN4
       clear hB4 hN4 hBe HBB rs HPM HXA3
       have rs := HBK4'.out.all
       simp only [resL, rv0, List.cons_append, List.nil_append, bksAll, bkAll, Nat.zero_add, Nat.reduceAdd, and_true] at rs
       gi_wp2
       refine ⟨trivial, (CallsIn.inRound rl (callsIn_wide.2 (HRZ.out bb IA ic _))).mono ?_⟩
       rintro e W5 ⟨rfl, hB5⟩
       have HB5 := Lib.hid hB5
       have HBL5 := Lib.hid (HBL4'.out.trans (hB5.mono HBL4'.out.size))
       have HBK5 := Lib.hid (HBK4'.out.call hB5)
       have hBK5 : Bks W5 (resL w.heap.size rv0 ++ [(w.heap.size + 1, [.int .i64 gk, .int .i64 gn, .string gs, .slice (some ⟨b, off, none⟩) 3 ac]), (w.heap.size, [.slice OA' on' oc', .int .i64 q, .int .i64 u, .bool c, .bool d, .slice CA cn cc])]) := HBK5.out.tl
       have HN5 : Hid (NewT W3 W5 IA bb.args) := Lib.hid (HN4.out.keep (fun b hb => hB5.block b hb.2) (fun b hb => ⟨hb.1, Nat.lt_of_lt_of_le hb.2 hB5.size⟩))
       clear hB5 rs
       have rs := HBK5.out.all
       simp only [resL, rv0, List.cons_append, List.nil_append, bksAll, bkAll, Nat.zero_add, Nat.reduceAdd, and_true] at rs
       obtain ⟨wz, HWZ⟩ : ∃ wz, Hid (wz = layR W5 w.heap.size (rvB bb.kind bb.num bb.name IA bb.args.length ic 8)) := ⟨_, Lib.hid rfl⟩
       have hk := hBK5.lay (rvB bb.kind bb.num bb.name IA bb.args.length ic 8)
       have hb := layR_below w.heap.size (rvB bb.kind bb.num bb.name IA bb.args.length ic 8) (Nat.le_refl _) HBL5.out
       have hq := (((keeps_below HB3.out).trans (keeps_below HB4.out)).trans (keeps_below HB5.out)).trans (keeps_layR W5 w.heap.size (rvB bb.kind bb.num bb.name IA bb.args.length ic 8))
       have hn : NewT w wz IA bb.args := HN5.out.keep (fun b hb => by rw [HWZ.out, layR_other _ _ _ (by have := HL3.out.1; have := hb.1; omega)]) (fun b hb => ⟨Nat.le_trans HL3.out.2 hb.1, by rw [HWZ.out, layR_size]; exact hb.2⟩)
       have HNZ := Lib.hid hn
       clear hn
       rw [← HWZ.out] at hk hb hq
       have hz := HWZ.out
       simp only [layR, setL, rvB, Nat.zero_add, Nat.reduceAdd] at hz
       have HWY := Lib.hid hz
       have HFN := Lib.hid (And.intro hq (And.intro hk hb))
       clear hz hk hb hq
       clear hBK5
       gi_wp2
       rw [← HWY.out]
       exact ⟨HFN.out.1, rfl, HFN.out.2.2, _, OA', on', oc', HFN.out.2.1, .inl ⟨bb, IA, ic, rfl, HNZ.out, HRE.out⟩⟩
   case done =>
    rintro D xs W hD hS hI hK
    obtain ⟨cur, OA', on', oc', hcur, hk, ht, hn⟩ := hI.ex
    rw [hS] at hcur
    have HRE : Hid (R = .ok ⟨cur, ⟨q, u, c, d⟩, cl⟩ [(.mk gk gn gs [p, t, n])]) := Lib.hid (by rw [HRR.out, hcur])
    have HB_7 := Lib.hid hI.bel
    have HK_7 : Hid (Bks W (resL w.heap.size rv0 ++ [(w.heap.size + 1, [.int .i64 gk, .int .i64 gn, .string gs, .slice (some ⟨b, off, none⟩) 3 ac]), (w.heap.size, [.slice OA' on' oc', .int .i64 q, .int .i64 u, .bool c, .bool d, .slice CA cn cc])])) := Lib.hid hk
    have HT_7 := Lib.hid ht
    have HD_7 := Lib.hid hK
    have HLW : Hid (w.heap.size ≤ W.heap.size ∧ w.heap.size + 1 + 1 + 1 + 1 + 1 < W.heap.size) := Lib.hid ⟨HB_7.out.size, HK_7.out.lt 0 rfl⟩
    have HLD : Hid (w.heap.size + 1 + 1 + 1 + 1 + 1 < D ∧ w.heap.size ≤ D) := Lib.hid ⟨Nat.lt_of_lt_of_le (HBK4.out.lt 0 rfl) hD, Nat.le_trans HBL4.out.size hD⟩
    clear hI hcur hk ht hn hK hS hD HSQ HBK4 HRZ HTAB HON
    have HDN : Hid (Calls Tryz.prog 151 #[.agg #[.slice OA' on' oc', .int .i64 q, .int .i64 u, .bool c, .bool d, .slice CA cn cc], .agg #[.int .i64 gk, .int .i64 gn, .string gs, .slice (some ⟨b, off, none⟩) 3 ac]] W fun e w' => ∃ rb, e = .returned (.tuple #[.agg #[.slice OA' on' oc', .int .i64 q, .int .i64 u, .bool c, .bool d, .slice CA cn cc], .slice (some ⟨rb, 0, none⟩) 1 1, .agg #[.int .i64 0, .int .i64 0, .string ⟨#[]⟩, .slice none 0 0], .int .i64 0]) ∧ Below W.heap.size W w' ∧ TmsK (fun b => W.heap.size ≤ b ∧ b < w'.heap.size) w' (some ⟨rb, 0, none⟩) [(.mk gk gn gs [p, t, n])]) := Lib.hid (by
     have := f_done OA' on' oc' q u c d CA cn cc (.mk gk gn gs [p, t, n]) (some ⟨b, off, none⟩) ac W ((HAA.out.keep HB_7.out).mono HB_7.out.size) HGV.out
     rw [show cloneT (.mk gk gn gs [p, t, n]) = (.mk gk gn gs [p, t, n]) by unfold cloneT; rw [if_pos HGV.out]] at this
     exact this)
    have cc8 := HK_7.out.all
    simp only [resL, rv0, List.cons_append, List.nil_append, bksAll, bkAll, Nat.zero_add, Nat.reduceAdd, and_true] at cc8
    go_wp2_with fail
    refine HDN.out.mono ?_; rintro e w8 ⟨rb, rfl, hB8, hR8⟩
    have HN_7 := Lib.hid hR8
    clear hR8 HDN
    have HB_9 := Lib.hid (HB_7.out.trans (hB8.mono HB_7.out.size))
    have HK_9 := Lib.hid (HK_7.out.call hB8)
    have HT_9 := Lib.hid (HT_7.out.below hB8)
    have HD_9 := Lib.hid ((hB8.block D (Array.getElem?_eq_some_iff.1 HD_7.out).1).trans HD_7.out)
    clear hB8 HB_7 HK_7 HT_7 HD_7 cc8 
    have cc10 := HK_9.out.all
    simp only [resL, rv0, List.cons_append, List.nil_append, bksAll, bkAll, Nat.zero_add, Nat.reduceAdd, and_true] at cc10
    obtain ⟨wz, HWZ⟩ : ∃ wz, Hid (wz = layR w8 w.heap.size (rvS OA' on' oc' q u c d CA cn cc (some ⟨rb, 0, none⟩) 1 1)) := ⟨_, Lib.hid rfl⟩
    have hkl : Bks w8 (resL w.heap.size rv0 ++ [(w.heap.size + 1, [.int .i64 gk, .int .i64 gn, .string gs, .slice (some ⟨b, off, none⟩) 3 ac]), (w.heap.size, [.slice OA' on' oc', .int .i64 q, .int .i64 u, .bool c, .bool d, .slice CA cn cc])]) := HK_9.out
    have hk := hkl.lay (rvS OA' on' oc' q u c d CA cn cc (some ⟨rb, 0, none⟩) 1 1)
    have hb := layR_below w.heap.size (rvS OA' on' oc' q u c d CA cn cc (some ⟨rb, 0, none⟩) 1 1) (Nat.le_refl _) HB_9.out
    have hr : RIs BB w (layR w8 w.heap.size (rvS OA' on' oc' q u c d CA cn cc (some ⟨rb, 0, none⟩) 1 1)) (rvS OA' on' oc' q u c d CA cn cc (some ⟨rb, 0, none⟩) 1 1) R := RIs.lay (W := W) HLW.out.1 HLW.out.2 hkl (show RIs BB W w8 (rvS OA' on' oc' q u c d CA cn cc (some ⟨rb, 0, none⟩) 1 1) R from by rw [HRE.out]; exact ⟨rfl, HT_9.out, rfl, HC.out.below HB_9.out, rfl, HN_7.out⟩) (fun b o e => Or.inl (by have := (HC.out.blk b o e).2; omega))
    rw [← HWZ.out] at hk hb hr
    have hd : wz.heap[D]? = some (.deferred (some [])) := by rw [HWZ.out, layR_other _ _ _ (Or.inr HLD.out.1)]; exact HD_9.out
    have hk2 := hk.putObj (q := D) (.deferred none) (fun x hx e => by
     obtain ⟨y, hy⟩ := hk.bk x hx
     rw [e, hd] at hy; cases hy)
    have hb2 := below_putO hb (D := D) HLD.out.2 (.deferred none)
    have hr2 : RIs BB w (wz.putObj D (.deferred none)) (rvS OA' on' oc' q u c d CA cn cc (some ⟨rb, 0, none⟩) 1 1) R := RIs.putD hr hd (fun b o e => by have := (HC.out.blk b o e).2; have := HLD.out.2; omega)
    have hz := HWZ.out
    simp only [layR, setL, rvS, Nat.zero_add, Nat.reduceAdd] at hz
    have HWY := Lib.hid hz
    have HK_Z := Lib.hid hk2
    have HB_Z := Lib.hid hb2
    have HR_Z := Lib.hid hr2
    have HD_Z := Lib.hid hd
    clear hz hk hb hr hkl hk2 hb2 hr2 hd HWZ HB_9 HK_9
    go_wp2_with fail
    rw [← HWY.out]
    have cz := HK_Z.out.all
    simp only [resL, rvS, List.cons_append, List.nil_append, bksAll, bkAll, Nat.zero_add, Nat.reduceAdd, and_true] at cz
    refine ⟨by simp, .inl ⟨_, _, rfl, run_takeDeferred HD_Z.out, ?_⟩⟩
    exact ⟨.tuple #[.agg #[.slice OA' on' oc', .int .i64 q, .int .i64 u, .bool c, .bool d, .slice CA cn cc], .slice (some ⟨rb, 0, none⟩) 1 1, .agg #[.int .i64 0, .int .i64 0, .string ⟨#[]⟩, .slice none 0 0], .int .i64 0], by simp [results, Tryz.results113, go_sem, cz], (rvS OA' on' oc' q u c d CA cn cc (some ⟨rb, 0, none⟩) 1 1), rfl, HB_Z.out, HR_Z.out⟩
   case stop =>
    rintro D jc pre W hD hS hX hK
    obtain ⟨r, OX, nx, cx, hk, hcs⟩ := hX.ex
    have hjc := hX.ret
    subst hjc
    have HB_Z := Lib.hid (below_putO hX.bel (D := D) (Nat.le_trans HBL4.out.size hD) (.deferred none))
    have HD_Z := Lib.hid hK
    have HK_Z := Lib.hid (hk.putObj (q := D) (.deferred none) (fun x hx e => by
     obtain ⟨y, hy⟩ := hk.bk x hx
     rw [e, hK] at hy; cases hy))
    have HR_Z : Hid (RIs BB w (W.putObj D (.deferred none)) r R ∧ r.ca = none) := Lib.hid (by
     rcases hcs with ⟨bb, IA, ic, rfl, hn, hR⟩ | ⟨rfl, hR⟩
     ·exact ⟨RIs.putD (by rw [hR]; exact ⟨rfl, rfl, rfl, rfl, rfl, hn⟩) hK (fun b o e => by cases e), rfl⟩
     ·exact ⟨by rw [hR]; exact ⟨rfl, by decide, by decide, rfl, rfl, rfl, rfl⟩, rfl⟩)
    clear hX hk hcs hK hD hS
    obtain ⟨r0, r1, r2, r3, r4, r5, r6, r7, r8, r9, r10, r11, r12, r13, r14, r15, r16, r17, r18, r19⟩ := r
    gi_wp2
    have cz := HK_Z.out.all
    simp only [resL, List.cons_append, List.nil_append, bksAll, bkAll, Nat.zero_add, Nat.reduceAdd, and_true] at cz
    refine ⟨by simp, .inl ⟨_, _, rfl, run_takeDeferred HD_Z.out, ?_⟩⟩
    exact ⟨.tuple #[.agg #[.slice r0 r1 r2, .int .i64 r3, .int .i64 r4, .bool r5, .bool r6, .slice r7 r8 r9], .slice r10 r11 r12, .agg #[.int .i64 r13, .int .i64 r14, .string r15, .slice r16 r17 r18], .int .i64 r19], by simp [results, Tryz.results113, go_sem, cz], ⟨r0, r1, r2, r3, r4, r5, r6, r7, r8, r9, r10, r11, r12, r13, r14, r15, r16, r17, r18, r19⟩, rfl, HB_Z.out, HR_Z.out.1⟩
end Go.Proofs.YtfkhcpeahdkafaaGreat
