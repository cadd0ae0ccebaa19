/- Flags: op/3 where nothing is wrong. -/
import Derived.Test.YtfkhcpeahdkafaaGreatH09
import Derived.Test.YtfkhcpeahdkafaaGreatH08
import Derived.Test.YtfkhcpeahdkafaaGreatH07
import Derived.Test.YtfkhcpeahdkafaaGreatH06
namespace Hb
open Go Go.RowKit
def setAll (typ prec : Int) (l : List OpR) (xs : List Tm) : List OpR := xs.foldl (fun l x => (setR l ⟨x.name, typ, prec⟩).1) l
theorem setAll_snoc (typ prec : Int) (l : List OpR) (xs : List Tm) (x : Tm) : setAll typ prec l (xs ++ [x]) = (setR (setAll typ prec l xs) ⟨x.name, typ, prec⟩).1 := by unfold setAll; rw [List.foldl_append]; rfl
def SetsOk (typ prec : Int) (l : List OpR) (xs : List Tm) : Prop := ∀ pre x, pre ++ [x] <+: xs → (setR (setAll typ prec l pre) ⟨x.name, typ, prec⟩).2 = 0
theorem setR_small {l : List OpR} {o : OpR} (h : (setR l o).2 = 0) : (setR l o).1.length ≤ 100 := by
 unfold setR at h ⊢
 split
 ·rename_i h1; rw [if_pos h1] at h; cases h
 ·rename_i h1
  rw [if_neg h1] at h
  split
  ·rename_i h2; rw [if_pos h2] at h; cases h
  ·rename_i h2
   rw [if_neg h2] at h
   split
   ·rename_i h3; rw [if_pos h3] at h; cases h
   ·rename_i h3; simp at h3; exact h3
theorem ops_other {W W' : World} {A : Option Addr} {l : List OpR} (h : OpsAt W A l) (hs : W.heap.size ≤ W'.heap.size) (hk : ∀ b o (s : ByteArray) (x : Int), W.cell? ⟨b, o, none⟩ = some (.string s) → W.cell? ⟨b, o + 1, none⟩ = some (.int .i64 x) → W'.heap[b]? = W.heap[b]?) : OpsAt W' A l := fun j hj => by
 obtain ⟨b, off, e, hlt, c0, c1, c2⟩ := h j hj
 have hw : ∀ o, W'.cell? ⟨b, o, none⟩ = W.cell? ⟨b, o, none⟩ := fun o => World.cell?_of_block (hk b _ _ _ c0 c1)
 exact ⟨b, off, e, by omega, (hw _).trans c0, (hw _).trans c1, (hw _).trans c2⟩
theorem tab_other {W W' : World} {A : Option Addr} {n cap : Nat} {l : List OpR} (h : Tab W A n cap l) (hs : W.heap.size ≤ W'.heap.size) (hk : ∀ b o (s : ByteArray) (x : Int), W.cell? ⟨b, o, none⟩ = some (.string s) → W.cell? ⟨b, o + 1, none⟩ = some (.int .i64 x) → W'.heap[b]? = W.heap[b]?) : Tab W' A n cap l := ⟨h.len, ops_other h.ops hs hk, h.nil⟩
theorem tab_grown {W W' : World} {A : Option Addr} {n cap : Nat} {l : List OpR} {row : Option Nat} (h : Tab W A n cap l) (hg : W.grownBy W' row) (hr : ∀ r, row = some r → ∃ o : Obj, W.heap[r]? = some o ∧ o.isCells = false) : Tab W' A n cap l :=
 tab_other h hg.size fun b o s x' hc _ => by
  obtain ⟨x, hx, hxc⟩ := isCells_of_cell hc
  refine hg.block b (Array.getElem?_eq_some_iff.1 hx).1 (fun e' => ?_)
  obtain ⟨y, hy, hyc⟩ := hr b e'.symm
  rw [hx] at hy; injection hy with hy; subst hy; rw [hxc] at hyc; cases hyc
theorem KpC.setOld {B : Nat} {W : World} {g : Nat} (hg : g < B) (i : Nat) (v : Value) : KpC B W (W.setCell ⟨g, i, none⟩ v) := ⟨by simp, fun k o hB hk _ => (heap_setCell_other W ⟨g, i, none⟩ k v (show k ≠ g by omega)).trans hk⟩
def noOp (vs : List Value) : Prop := ∀ (i : Nat) (s : ByteArray) (x : Int), vs[i]? = some (.string s) → vs[i + 1]? ≠ some (.int .i64 x)
theorem tab_boxes {W W' : World} {A : Option Addr} {n cap : Nat} {l : List OpR} {L : List (Nat × List Value)} (h : Tab W A n cap l) (hb : Bks W L) (hv : ∀ x ∈ L, noOp x.2) (hs : W.heap.size ≤ W'.heap.size) (hk : ∀ k, (∀ x ∈ L, k ≠ x.1) → W'.heap[k]? = W.heap[k]?) : Tab W' A n cap l :=
 tab_other h hs fun b o s x hc hd => hk b fun y hy e => by
  subst e
  obtain ⟨e, he⟩ := hb.bk y hy
  simp only [World.cell?, he, List.getElem?_toArray] at hc hd
  exact hv y hy o s x hc hd
def suT (sv av gv pv tv nv : Value) (g b o0 o1 o2 : Nat) (S : Nat → Bool) (e0 e1 e2 : Nat) : Act := ⟨#[sv, av, gv, .pointer (some ⟨g, 0, none⟩), undef, .pointer (some ⟨g + 1, 0, none⟩), .pointer (some ⟨g + 1 + 1, 0, none⟩), .pointer (some ⟨g + 1 + 1 + 1, 0, none⟩), .pointer (some ⟨g + 1 + 1 + 1 + 1, 0, none⟩), .pointer (some ⟨g + 1 + 1 + 1 + 1 + 1, 0, none⟩), if S 9 = true then .pointer (some ⟨e0, 0, none⟩) else undef, if S 10 = true then .pointer (some ⟨e1, 0, none⟩) else undef, if S 11 = true then .pointer (some ⟨e2, 0, none⟩) else undef, undef, undef, undef, undef, undef, undef, undef, undef, if S 0 = true then av else undef, if S 1 = true then .pointer (some ⟨b, o0, none⟩) else undef, if S 2 = true then pv else undef, if S 3 = true then av else undef, if S 4 = true then .pointer (some ⟨b, o1, none⟩) else undef, if S 5 = true then tv else undef, if S 6 = true then av else undef, if S 7 = true then .pointer (some ⟨b, o2, none⟩) else undef, if S 8 = true then nv else undef, undef, undef, undef, undef, undef, undef, undef, undef, undef, undef, undef, undef, undef, undef, undef, undef, undef, undef, undef, undef, undef, undef, undef, undef, undef, undef, undef, undef, undef, undef, undef, undef, undef, undef, undef, undef, undef, undef, undef, undef, undef, undef, undef, undef, undef, undef, undef, undef, undef, undef, undef, undef, undef, undef, undef, undef, undef, undef, undef, undef, undef, undef], []⟩
structure SuI (W0 : World) (T : (Nat → Bool) → Nat → Nat → Nat → Act) (z p t n : List Value) (S : Nat → Bool) (a : Act) (X : World) (e0 e1 e2 : Nat) : Prop where
 act : a = T S e0 e1 e2
 bel : Below W0.heap.size W0 X
 h0 : S 9 = true → W0.heap.size ≤ e0 ∧ Bk X e0 (if S 12 = true then p else z)
 h1 : S 10 = true → W0.heap.size ≤ e1 ∧ Bk X e1 (if S 13 = true then t else z)
 h2 : S 11 = true → W0.heap.size ≤ e2 ∧ Bk X e2 (if S 14 = true then n else z)
 i0 : S 12 = true → S 9 = true
 i1 : S 13 = true → S 10 = true
 i2 : S 14 = true → S 11 = true
 n01 : S 9 = true → S 10 = true → e0 ≠ e1
 n02 : S 9 = true → S 11 = true → e0 ≠ e2
 n12 : S 10 = true → S 11 = true → e1 ≠ e2
theorem wp_val {P : Program} {o : Oper} {a : Act} {X w' : World} {v : Value} {K : Act → World → Prop} {Q : Exit → Act → World → Prop} (hr : (execOp a.eval o).run P X = .ok (.value v) w') (hK : K (a.put o.dst v) w') : o.wp P a X K Q := by
 unfold Oper.wp
 rw [hr]
 exact hK
theorem wp_skp {P : Program} {o : Oper} {a : Act} {X w' : World} {K : Act → World → Prop} {Q : Exit → Act → World → Prop} (hr : (execOp a.eval o).run P X = .ok .skip w') (hK : K (a.put o.dst undef) w') : o.wp P a X K Q := by
 unfold Oper.wp
 rw [hr]
 exact hK
end Hb
namespace Go.Proofs.YtfkhcpeahdkafaaGreat
open Go.RowKit Hb Go.Shelf
attribute [local go_sem] Oper.semAt_some
set_option maxRecDepth 100000
set_option maxHeartbeats 3200000 in
theorem f_setOps (OA : Option Addr) (on oc : Nat) (q u : Int) (c d : Bool) (CA : Option Addr) (cn cc : Nat) (gk gn : Int) (gs : ByteArray) (AA : Option Addr) (ac : Nat) (p t n : Tm) (l : List OpR) (w : World)
  (hTab : Tab w OA on oc l) (hon : on ≤ 400) (hA : TmsAt w.heap.size w AA [p, t, n]) (hg : validT (.mk gk gn gs [p, t, n]) = true) (hv : validT n = true) (hok : ChkOk p t n) (hset : SetsOk (tyOf t.name) p.num l (nmL n)) :
  Calls Tryz.prog 113 #[.agg #[.slice OA on oc, .int .i64 q, .int .i64 u, .bool c, .bool d, .slice CA cn cc], .slice AA 3 ac, .agg #[.int .i64 gk, .int .i64 gn, .string gs, .slice AA 3 ac]] w fun e w' => ∃ OA' on' oc' b, e = .returned (.tuple #[.agg #[.slice OA' on' oc', .int .i64 q, .int .i64 u, .bool c, .bool d, .slice CA cn cc], .slice (some ⟨b, 0, none⟩) 1 1, .agg #[.int .i64 0, .int .i64 0, .string ⟨#[]⟩, .slice none 0 0], .int .i64 0]) ∧ Below w.heap.size w w' ∧ Tab w' OA' on' oc' (setAll (tyOf t.name) p.num l (nmL n)) ∧ TmsK (fun b => w.heap.size ≤ b ∧ b < w'.heap.size) w' (some ⟨b, 0, none⟩) [.mk gk gn gs [p, t, n]] := by
 have HTAB := Lib.hid hTab
 have HON := Lib.hid hon
 have HAA := Lib.hid hA
 have HGV := Lib.hid hg
 have HVN := Lib.hid hv
 have HOK := Lib.hid hok
 have HSET := Lib.hid hset
 obtain ⟨b, off, PA, pc, e1, hb, p0, p1, p2, p3, hPA⟩ := hA.get 0 (show 0 < 3 by omega)
 obtain ⟨_, _, TA, tc, e2, _, t0, t1, t2, t3, hTA⟩ := hA.get 1 (show 1 < 3 by omega)
 obtain ⟨_, _, NA, nc, e3, _, n0, n1, n2, n3, hNA⟩ := hA.get 2 (show 2 < 3 by omega)
 subst e1
 cases e2
 cases e3
 simp only [List.getElem_cons_zero, List.getElem_cons_succ, Nat.zero_mul, Nat.add_zero, Nat.one_mul, Nat.reduceMul] at p0 p1 p2 p3 t0 t1 t2 t3 n0 n1 n2 n3 hPA hTA hNA
 have HPA := Lib.hid hPA
 have HTA := Lib.hid hTA
 have HNA := Lib.hid hNA
 have HBL0 : Hid (Below w.heap.size w (((((((w.alloc (.cells #[.slice OA on oc, .int .i64 q, .int .i64 u, .bool c, .bool d, .slice CA cn cc] 43)).alloc (.cells #[.int .i64 gk, .int .i64 gn, .string gs, .slice (some ⟨b, off, none⟩) 3 ac] 26)).alloc (.cells #[.slice none 0 0, .int .i64 0, .int .i64 0, .bool false, .bool false, .slice none 0 0] 43)).alloc (.cells #[.slice none 0 0] 24)).alloc (.cells #[.int .i64 0, .int .i64 0, .string ⟨#[]⟩, .slice none 0 0] 26)).alloc (.cells #[.int .i64 0] 31)))) := Lib.hid (((((((Below.refl _ w).alloc (Nat.le_refl _) _).alloc (by simp) _).alloc (by simp; omega) _).alloc (by simp; omega) _).alloc (by simp; omega) _).alloc (by simp; omega) _)
 have HBK0 : Hid (Bks (((((((w.alloc (.cells #[.slice OA on oc, .int .i64 q, .int .i64 u, .bool c, .bool d, .slice CA cn cc] 43)).alloc (.cells #[.int .i64 gk, .int .i64 gn, .string gs, .slice (some ⟨b, off, none⟩) 3 ac] 26)).alloc (.cells #[.slice none 0 0, .int .i64 0, .int .i64 0, .bool false, .bool false, .slice none 0 0] 43)).alloc (.cells #[.slice none 0 0] 24)).alloc (.cells #[.int .i64 0, .int .i64 0, .string ⟨#[]⟩, .slice none 0 0] 26)).alloc (.cells #[.int .i64 0] 31))) [(w.heap.size + 1 + 1 + 1 + 1 + 1, [.int .i64 0]), (w.heap.size + 1 + 1 + 1 + 1, [.int .i64 0, .int .i64 0, .string ⟨#[]⟩, .slice none 0 0]), (w.heap.size + 1 + 1 + 1, [.slice none 0 0]), (w.heap.size + 1 + 1, [.slice none 0 0, .int .i64 0, .int .i64 0, .bool false, .bool false, .slice none 0 0]), (w.heap.size + 1, [.int .i64 gk, .int .i64 gn, .string gs, .slice (some ⟨b, off, none⟩) 3 ac]), (w.heap.size, [.slice OA on oc, .int .i64 q, .int .i64 u, .bool c, .bool d, .slice CA cn cc])]) := Lib.hid (((((((Bks.nil w).new [.slice OA on oc, .int .i64 q, .int .i64 u, .bool c, .bool d, .slice CA cn cc] 43 rfl).new [.int .i64 gk, .int .i64 gn, .string gs, .slice (some ⟨b, off, none⟩) 3 ac] 26 (by simp)).new [.slice none 0 0, .int .i64 0, .int .i64 0, .bool false, .bool false, .slice none 0 0] 43 (by simp)).new [.slice none 0 0] 24 (by simp)).new [.int .i64 0, .int .i64 0, .string ⟨#[]⟩, .slice none 0 0] 26 (by simp)).new [.int .i64 0] 31 (by simp))
 clear hTab hon hA hg hv hok hset hPA hTA hNA
 refine (callsIn_wide (n := 12)).1 ?_
 refine callsIn_of_wp_marks Tryz.func113 rfl trivial ?_ rfl
 simp only [Tryz.ntmps113, List.size_toArray, List.length_cons, List.length_nil, Nat.reduceAdd, Nat.reduceSub, Array.replicate_succ, Array.replicate_zero, List.push_toArray, List.append_toArray, List.nil_append, List.cons_append]
 gi_wp2
 obtain ⟨W0, HW0⟩ : ∃ W0, Hid (W0 = ((((((w.alloc (.cells #[.slice OA on oc, .int .i64 q, .int .i64 u, .bool c, .bool d, .slice CA cn cc] 43)).alloc (.cells #[.int .i64 gk, .int .i64 gn, .string gs, .slice (some ⟨b, off, none⟩) 3 ac] 26)).alloc (.cells #[.slice none 0 0, .int .i64 0, .int .i64 0, .bool false, .bool false, .slice none 0 0] 43)).alloc (.cells #[.slice none 0 0] 24)).alloc (.cells #[.int .i64 0, .int .i64 0, .string ⟨#[]⟩, .slice none 0 0] 26)).alloc (.cells #[.int .i64 0] 31))) := ⟨_, Lib.hid rfl⟩
 rw [← HW0.out] at HBL0 HBK0 ⊢
 have p0 := (HBL0.out.cell (p := ⟨b, _, none⟩) hb).trans p0
 have p1 := (HBL0.out.cell (p := ⟨b, _, none⟩) hb).trans p1
 have p2 := (HBL0.out.cell (p := ⟨b, _, none⟩) hb).trans p2
 have p3 := (HBL0.out.cell (p := ⟨b, _, none⟩) hb).trans p3
 have t0 := (HBL0.out.cell (p := ⟨b, _, none⟩) hb).trans t0
 have t1 := (HBL0.out.cell (p := ⟨b, _, none⟩) hb).trans t1
 have t2 := (HBL0.out.cell (p := ⟨b, _, none⟩) hb).trans t2
 have t3 := (HBL0.out.cell (p := ⟨b, _, none⟩) hb).trans t3
 have n0 := (HBL0.out.cell (p := ⟨b, _, none⟩) hb).trans n0
 have n1 := (HBL0.out.cell (p := ⟨b, _, none⟩) hb).trans n1
 have n2 := (HBL0.out.cell (p := ⟨b, _, none⟩) hb).trans n2
 have n3 := (HBL0.out.cell (p := ⟨b, _, none⟩) hb).trans n3
 have hb0 : b < W0.heap.size := Nat.lt_of_lt_of_le hb HBL0.out.size
 have lw0 : w.heap.size < W0.heap.size := HBK0.out.lt 5 rfl
 clear HW0
 rename_i K0 hK0
 refine wpIn_wide.2 (wp_region_any (by kernel_rfl) ?_)
 refine wpAny_inv (fun S a X => ∃ e0 e1 e2, SuI W0 (suT (.agg #[.slice OA on oc, .int .i64 q, .int .i64 u, .bool c, .bool d, .slice CA cn cc]) (.slice (some ⟨b, off, none⟩) 3 ac) (.agg #[.int .i64 gk, .int .i64 gn, .string gs, .slice (some ⟨b, off, none⟩) 3 ac]) (.agg #[.int .i64 p.kind, .int .i64 p.num, .string p.name, .slice PA p.args.length pc]) (.agg #[.int .i64 t.kind, .int .i64 t.num, .string t.name, .slice TA t.args.length tc]) (.agg #[.int .i64 n.kind, .int .i64 n.num, .string n.name, .slice NA n.args.length nc]) w.heap.size b off (off + 4) (off + 8)) [.int .i64 0, .int .i64 0, .string ⟨#[]⟩, .slice none 0 0] [.int .i64 p.kind, .int .i64 p.num, .string p.name, .slice PA p.args.length pc] [.int .i64 t.kind, .int .i64 t.num, .string t.name, .slice TA t.args.length tc] [.int .i64 n.kind, .int .i64 n.num, .string n.name, .slice NA n.args.length nc] S a X e0 e1 e2) (by kernel_rfl) ?step ?fin 15 (fun _ => false) _ _ (by decide) ⟨0, 0, 0, rfl, (Below.refl _ W0).drew, fun h => (by cases h), fun h => (by cases h), fun h => (by cases h), fun h => (by cases h), fun h => (by cases h), fun h => (by cases h), fun h => (by cases h), fun h => (by cases h), fun h => (by cases h)⟩
 case step =>
  rintro S j o a X ho hs hp ⟨e0, e1, e2, rfl, hB, h0, h1, h2, i0, i1, i2, n01, n02, n12⟩
  have hlt := (Array.getElem?_eq_some_iff.1 ho).1
  rcases (show j = 0 ∨ j = 1 ∨ j = 2 ∨ j = 3 ∨ j = 4 ∨ j = 5 ∨ j = 6 ∨ j = 7 ∨ j = 8 ∨ j = 9 ∨ j = 10 ∨ j = 11 ∨ j = 12 ∨ j = 13 ∨ j = 14 by
   have hlt : j < 15 := hlt
   omega) with rfl | rfl | rfl | rfl | rfl | rfl | rfl | rfl | rfl | rfl | rfl | rfl | rfl | rfl | rfl
  ·cases ho
   rw [if_pos (show Region.wanted _ _ = true from rfl)]
   refine wp_val (v := .slice (some ⟨b, off, none⟩) 3 ac) (w' := X) ?_ ⟨e0, e1, e2, rfl, hB, h0, h1, h2, i0, i1, i2, n01, n02, n12⟩
   simp [execOp, go_sem, Act.eval, suT]
  ·cases ho
   rw [if_pos (show Region.wanted _ _ = true from rfl)]
   have s0 : S 0 = true := hp ⟨0, .data⟩ (by simp) rfl
   refine wp_val (v := .pointer (some ⟨b, off, none⟩)) (w' := X) ?_ ⟨e0, e1, e2, rfl, hB, h0, h1, h2, i0, i1, i2, n01, n02, n12⟩
   simp [execOp, go_sem, Act.eval, suT, s0]
  ·cases ho
   rw [if_pos (show Region.wanted _ _ = true from rfl)]
   have s0 : S 1 = true := hp ⟨1, .data⟩ (by simp) rfl
   have c0 : X.cell? ⟨b, off, none⟩ = some (.int .i64 p.kind) := (hB.cell (p := ⟨b, _, none⟩) hb0).trans p0
   have c1 : X.cell? ⟨b, off + 1, none⟩ = some (.int .i64 p.num) := (hB.cell (p := ⟨b, _, none⟩) hb0).trans p1
   have c2 : X.cell? ⟨b, off + 2, none⟩ = some (.string p.name) := (hB.cell (p := ⟨b, _, none⟩) hb0).trans p2
   have c3 : X.cell? ⟨b, off + 3, none⟩ = some (.slice PA p.args.length pc) := (hB.cell (p := ⟨b, _, none⟩) hb0).trans p3
   refine wp_val (v := .agg #[.int .i64 p.kind, .int .i64 p.num, .string p.name, .slice PA p.args.length pc]) (w' := X) ?_ ⟨e0, e1, e2, rfl, hB, h0, h1, h2, i0, i1, i2, n01, n02, n12⟩
   simp [execOp, go_sem, Act.eval, suT, s0, c0, c1, c2, c3]
  ·cases ho
   rw [if_pos (show Region.wanted _ _ = true from rfl)]
   refine wp_val (v := .slice (some ⟨b, off, none⟩) 3 ac) (w' := X) ?_ ⟨e0, e1, e2, rfl, hB, h0, h1, h2, i0, i1, i2, n01, n02, n12⟩
   simp [execOp, go_sem, Act.eval, suT]
  ·cases ho
   rw [if_pos (show Region.wanted _ _ = true from rfl)]
   have s0 : S 3 = true := hp ⟨3, .data⟩ (by simp) rfl
   refine wp_val (v := .pointer (some ⟨b, off + 4, none⟩)) (w' := X) ?_ ⟨e0, e1, e2, rfl, hB, h0, h1, h2, i0, i1, i2, n01, n02, n12⟩
   simp [execOp, go_sem, Act.eval, suT, s0]
  ·cases ho
   rw [if_pos (show Region.wanted _ _ = true from rfl)]
   have s0 : S 4 = true := hp ⟨4, .data⟩ (by simp) rfl
   have c0 : X.cell? ⟨b, off + 4, none⟩ = some (.int .i64 t.kind) := (hB.cell (p := ⟨b, _, none⟩) hb0).trans t0
   have c1 : X.cell? ⟨b, off + 4 + 1, none⟩ = some (.int .i64 t.num) := (hB.cell (p := ⟨b, _, none⟩) hb0).trans t1
   have c2 : X.cell? ⟨b, off + 4 + 2, none⟩ = some (.string t.name) := (hB.cell (p := ⟨b, _, none⟩) hb0).trans t2
   have c3 : X.cell? ⟨b, off + 4 + 3, none⟩ = some (.slice TA t.args.length tc) := (hB.cell (p := ⟨b, _, none⟩) hb0).trans t3
   refine wp_val (v := .agg #[.int .i64 t.kind, .int .i64 t.num, .string t.name, .slice TA t.args.length tc]) (w' := X) ?_ ⟨e0, e1, e2, rfl, hB, h0, h1, h2, i0, i1, i2, n01, n02, n12⟩
   simp [execOp, go_sem, Act.eval, suT, s0, c0, c1, c2, c3]
  ·cases ho
   rw [if_pos (show Region.wanted _ _ = true from rfl)]
   refine wp_val (v := .slice (some ⟨b, off, none⟩) 3 ac) (w' := X) ?_ ⟨e0, e1, e2, rfl, hB, h0, h1, h2, i0, i1, i2, n01, n02, n12⟩
   simp [execOp, go_sem, Act.eval, suT]
  ·cases ho
   rw [if_pos (show Region.wanted _ _ = true from rfl)]
   have s0 : S 6 = true := hp ⟨6, .data⟩ (by simp) rfl
   refine wp_val (v := .pointer (some ⟨b, off + 8, none⟩)) (w' := X) ?_ ⟨e0, e1, e2, rfl, hB, h0, h1, h2, i0, i1, i2, n01, n02, n12⟩
   simp [execOp, go_sem, Act.eval, suT, s0]
  ·cases ho
   rw [if_pos (show Region.wanted _ _ = true from rfl)]
   have s0 : S 7 = true := hp ⟨7, .data⟩ (by simp) rfl
   have c0 : X.cell? ⟨b, off + 8, none⟩ = some (.int .i64 n.kind) := (hB.cell (p := ⟨b, _, none⟩) hb0).trans n0
   have c1 : X.cell? ⟨b, off + 8 + 1, none⟩ = some (.int .i64 n.num) := (hB.cell (p := ⟨b, _, none⟩) hb0).trans n1
   have c2 : X.cell? ⟨b, off + 8 + 2, none⟩ = some (.string n.name) := (hB.cell (p := ⟨b, _, none⟩) hb0).trans n2
   have c3 : X.cell? ⟨b, off + 8 + 3, none⟩ = some (.slice NA n.args.length nc) := (hB.cell (p := ⟨b, _, none⟩) hb0).trans n3
   refine wp_val (v := .agg #[.int .i64 n.kind, .int .i64 n.num, .string n.name, .slice NA n.args.length nc]) (w' := X) ?_ ⟨e0, e1, e2, rfl, hB, h0, h1, h2, i0, i1, i2, n01, n02, n12⟩
   simp [execOp, go_sem, Act.eval, suT, s0, c0, c1, c2, c3]
  ·cases ho
   rw [if_pos (show Region.wanted _ _ = true from rfl)]
   refine wp_val (v := .pointer (some ⟨X.heap.size, 0, none⟩)) (w' := X.alloc (.cells #[.int .i64 0, .int .i64 0, .string ⟨#[]⟩, .slice none 0 0] 26)) ?_ ⟨X.heap.size, e1, e2, rfl, hB.alloc hB.size _, (fun _ => ⟨hB.size, by rw [if_neg (show ¬ updF S 9 12 = true from fun h => absurd (i0 h) (by rw [hs]; simp))]; exact Bk.new X [.int .i64 0, .int .i64 0, .string ⟨#[]⟩, .slice none 0 0] 26⟩), (fun h => ⟨(h1 h).1, (h1 h).2.al _⟩), (fun h => ⟨(h2 h).1, (h2 h).2.al _⟩), (fun _ => rfl), i1, i2, (fun _ h => (Nat.ne_of_lt (h1 h).2.lt).symm), (fun _ h => (Nat.ne_of_lt (h2 h).2.lt).symm), n12⟩
   simp [execOp, go_sem]
  ·cases ho
   rw [if_pos (show Region.wanted _ _ = true from rfl)]
   refine wp_val (v := .pointer (some ⟨X.heap.size, 0, none⟩)) (w' := X.alloc (.cells #[.int .i64 0, .int .i64 0, .string ⟨#[]⟩, .slice none 0 0] 26)) ?_ ⟨e0, X.heap.size, e2, rfl, hB.alloc hB.size _, (fun h => ⟨(h0 h).1, (h0 h).2.al _⟩), (fun _ => ⟨hB.size, by rw [if_neg (show ¬ updF S 10 13 = true from fun h => absurd (i1 h) (by rw [hs]; simp))]; exact Bk.new X [.int .i64 0, .int .i64 0, .string ⟨#[]⟩, .slice none 0 0] 26⟩), (fun h => ⟨(h2 h).1, (h2 h).2.al _⟩), i0, (fun _ => rfl), i2, (fun h _ => Nat.ne_of_lt (h0 h).2.lt), n02, (fun _ h => (Nat.ne_of_lt (h2 h).2.lt).symm)⟩
   simp [execOp, go_sem]
  ·cases ho
   rw [if_pos (show Region.wanted _ _ = true from rfl)]
   refine wp_val (v := .pointer (some ⟨X.heap.size, 0, none⟩)) (w' := X.alloc (.cells #[.int .i64 0, .int .i64 0, .string ⟨#[]⟩, .slice none 0 0] 26)) ?_ ⟨e0, e1, X.heap.size, rfl, hB.alloc hB.size _, (fun h => ⟨(h0 h).1, (h0 h).2.al _⟩), (fun h => ⟨(h1 h).1, (h1 h).2.al _⟩), (fun _ => ⟨hB.size, by rw [if_neg (show ¬ updF S 11 14 = true from fun h => absurd (i2 h) (by rw [hs]; simp))]; exact Bk.new X [.int .i64 0, .int .i64 0, .string ⟨#[]⟩, .slice none 0 0] 26⟩), i0, i1, (fun _ => rfl), n01, (fun h _ => Nat.ne_of_lt (h0 h).2.lt), (fun h _ => Nat.ne_of_lt (h1 h).2.lt)⟩
   simp [execOp, go_sem]
  ·cases ho
   rw [if_pos (show Region.wanted _ _ = true from rfl)]
   have s9 : S 9 = true := hp ⟨9, .data⟩ (by simp) rfl
   have s2 : S 2 = true := hp ⟨2, .data⟩ (by simp) rfl
   have hk := (h0 s9).2
   rw [if_neg (by rw [hs]; simp)] at hk
   have z0 := hk.c 0 (.int .i64 0) rfl
   have f0 := hk.f 0
   have z1 := hk.c 1 (.int .i64 0) rfl
   have f1 := hk.f 1
   have z2 := hk.c 2 (.string ⟨#[]⟩) rfl
   have f2 := hk.f 2
   have z3 := hk.c 3 (.slice none 0 0) rfl
   have f3 := hk.f 3
   refine wp_skp (w' := ((((X.setCell ⟨e0, 0, none⟩ (.int .i64 p.kind)).setCell ⟨e0, 1, none⟩ (.int .i64 p.num)).setCell ⟨e0, 2, none⟩ (.string p.name)).setCell ⟨e0, 3, none⟩ (.slice PA p.args.length pc))) ?_ ⟨e0, e1, e2, rfl, ((((hB.setCell (p := ⟨_, _, none⟩) (h0 s9).1 _).setCell (p := ⟨_, _, none⟩) (h0 s9).1 _).setCell (p := ⟨_, _, none⟩) (h0 s9).1 _).setCell (p := ⟨_, _, none⟩) (h0 s9).1 _), (fun h => ⟨(h0 s9).1, by rw [if_pos (show updF S 12 12 = true from rfl)]; exact ((((hk.set 0 (.int .i64 p.kind)).set 1 (.int .i64 p.num)).set 2 (.string p.name)).set 3 (.slice PA p.args.length pc))⟩), (fun h => ⟨(h1 h).1, (((((h1 h).2.other ((n01 s9 h).symm) 0 _).other ((n01 s9 h).symm) 1 _).other ((n01 s9 h).symm) 2 _).other ((n01 s9 h).symm) 3 _)⟩), (fun h => ⟨(h2 h).1, (((((h2 h).2.other ((n02 s9 h).symm) 0 _).other ((n02 s9 h).symm) 1 _).other ((n02 s9 h).symm) 2 _).other ((n02 s9 h).symm) 3 _)⟩), (fun _ => s9), i1, i2, n01, n02, n12⟩
   simp [execOp, go_sem, Act.eval, suT, s9, s2, z0, z1, z2, z3, f0, f1, f2, f3]
  ·cases ho
   rw [if_pos (show Region.wanted _ _ = true from rfl)]
   have s9 : S 10 = true := hp ⟨10, .data⟩ (by simp) rfl
   have s2 : S 5 = true := hp ⟨5, .data⟩ (by simp) rfl
   have hk := (h1 s9).2
   rw [if_neg (by rw [hs]; simp)] at hk
   have z0 := hk.c 0 (.int .i64 0) rfl
   have f0 := hk.f 0
   have z1 := hk.c 1 (.int .i64 0) rfl
   have f1 := hk.f 1
   have z2 := hk.c 2 (.string ⟨#[]⟩) rfl
   have f2 := hk.f 2
   have z3 := hk.c 3 (.slice none 0 0) rfl
   have f3 := hk.f 3
   refine wp_skp (w' := ((((X.setCell ⟨e1, 0, none⟩ (.int .i64 t.kind)).setCell ⟨e1, 1, none⟩ (.int .i64 t.num)).setCell ⟨e1, 2, none⟩ (.string t.name)).setCell ⟨e1, 3, none⟩ (.slice TA t.args.length tc))) ?_ ⟨e0, e1, e2, rfl, ((((hB.setCell (p := ⟨_, _, none⟩) (h1 s9).1 _).setCell (p := ⟨_, _, none⟩) (h1 s9).1 _).setCell (p := ⟨_, _, none⟩) (h1 s9).1 _).setCell (p := ⟨_, _, none⟩) (h1 s9).1 _), (fun h => ⟨(h0 h).1, (((((h0 h).2.other (n01 h s9) 0 _).other (n01 h s9) 1 _).other (n01 h s9) 2 _).other (n01 h s9) 3 _)⟩), (fun h => ⟨(h1 s9).1, by rw [if_pos (show updF S 13 13 = true from rfl)]; exact ((((hk.set 0 (.int .i64 t.kind)).set 1 (.int .i64 t.num)).set 2 (.string t.name)).set 3 (.slice TA t.args.length tc))⟩), (fun h => ⟨(h2 h).1, (((((h2 h).2.other ((n12 s9 h).symm) 0 _).other ((n12 s9 h).symm) 1 _).other ((n12 s9 h).symm) 2 _).other ((n12 s9 h).symm) 3 _)⟩), i0, (fun _ => s9), i2, n01, n02, n12⟩
   simp [execOp, go_sem, Act.eval, suT, s9, s2, z0, z1, z2, z3, f0, f1, f2, f3]
  ·cases ho
   rw [if_pos (show Region.wanted _ _ = true from rfl)]
   have s9 : S 11 = true := hp ⟨11, .data⟩ (by simp) rfl
   have s2 : S 8 = true := hp ⟨8, .data⟩ (by simp) rfl
   have hk := (h2 s9).2
   rw [if_neg (by rw [hs]; simp)] at hk
   have z0 := hk.c 0 (.int .i64 0) rfl
   have f0 := hk.f 0
   have z1 := hk.c 1 (.int .i64 0) rfl
   have f1 := hk.f 1
   have z2 := hk.c 2 (.string ⟨#[]⟩) rfl
   have f2 := hk.f 2
   have z3 := hk.c 3 (.slice none 0 0) rfl
   have f3 := hk.f 3
   refine wp_skp (w' := ((((X.setCell ⟨e2, 0, none⟩ (.int .i64 n.kind)).setCell ⟨e2, 1, none⟩ (.int .i64 n.num)).setCell ⟨e2, 2, none⟩ (.string n.name)).setCell ⟨e2, 3, none⟩ (.slice NA n.args.length nc))) ?_ ⟨e0, e1, e2, rfl, ((((hB.setCell (p := ⟨_, _, none⟩) (h2 s9).1 _).setCell (p := ⟨_, _, none⟩) (h2 s9).1 _).setCell (p := ⟨_, _, none⟩) (h2 s9).1 _).setCell (p := ⟨_, _, none⟩) (h2 s9).1 _), (fun h => ⟨(h0 h).1, (((((h0 h).2.other (n02 h s9) 0 _).other (n02 h s9) 1 _).other (n02 h s9) 2 _).other (n02 h s9) 3 _)⟩), (fun h => ⟨(h1 h).1, (((((h1 h).2.other (n12 h s9) 0 _).other (n12 h s9) 1 _).other (n12 h s9) 2 _).other (n12 h s9) 3 _)⟩), (fun h => ⟨(h2 s9).1, by rw [if_pos (show updF S 14 14 = true from rfl)]; exact ((((hk.set 0 (.int .i64 n.kind)).set 1 (.int .i64 n.num)).set 2 (.string n.name)).set 3 (.slice NA n.args.length nc))⟩), i0, i1, (fun _ => s9), n01, n02, n12⟩
   simp [execOp, go_sem, Act.eval, suT, s9, s2, z0, z1, z2, z3, f0, f1, f2, f3]
 case fin =>
  rintro S a X hall ⟨e0, e1, e2, rfl, hB, h0, h1, h2, -, -, -, n01, n02, n12⟩
  have s0 := hall 0 (show 0 < 15 by omega)
  have s1 := hall 1 (show 1 < 15 by omega)
  have s2 := hall 2 (show 2 < 15 by omega)
  have s3 := hall 3 (show 3 < 15 by omega)
  have s4 := hall 4 (show 4 < 15 by omega)
  have s5 := hall 5 (show 5 < 15 by omega)
  have s6 := hall 6 (show 6 < 15 by omega)
  have s7 := hall 7 (show 7 < 15 by omega)
  have s8 := hall 8 (show 8 < 15 by omega)
  have s9 := hall 9 (show 9 < 15 by omega)
  have s10 := hall 10 (show 10 < 15 by omega)
  have s11 := hall 11 (show 11 < 15 by omega)
  have s12 := hall 12 (show 12 < 15 by omega)
  have s13 := hall 13 (show 13 < 15 by omega)
  have s14 := hall 14 (show 14 < 15 by omega)
  have HE0 := (h0 s9).2
  have HE1 := (h1 s10).2
  have HE2 := (h2 s11).2
  rw [if_pos s12] at HE0
  rw [if_pos s13] at HE1
  rw [if_pos s14] at HE2
  have HE0 := Lib.hid HE0
  have HE1 := Lib.hid HE1
  have HE2 := Lib.hid HE2
  have le0 := (h0 s9).1
  have le1 := (h1 s10).1
  have le2 := (h2 s11).1
  have HBLX := Lib.hid (HBL0.out.trans (hB.mono HBL0.out.size))
  have HBKX := Lib.hid (HBK0.out.keep fun x hx => hB.block x.1 (HBK0.out.bk x hx).lt)
  refine hK0 _ _ ?_
  simp only [suT, s0, s1, s2, s3, s4, s5, s6, s7, s8, s9, s10, s11, if_true]
  clear hall h0 h1 h2 hB HBL0 HBK0 hK0 s0 s1 s2 s3 s4 s5 s6 s7 s8 s9 s10 s11 s12 s13 s14 p0 p1 p2 p3 t0 t1 t2 t3 n0 n1 n2 n3
  have x0 : X.cell? ⟨e0, 0, none⟩ = some (.int .i64 p.kind) := HE0.out.c 0 _ rfl
  have x1 : X.cell? ⟨e0, 1, none⟩ = some (.int .i64 p.num) := HE0.out.c 1 _ rfl
  have x2 : X.cell? ⟨e0, 2, none⟩ = some (.string p.name) := HE0.out.c 2 _ rfl
  have x3 : X.cell? ⟨e0, 3, none⟩ = some (.slice PA p.args.length pc) := HE0.out.c 3 _ rfl
  have y0 : X.cell? ⟨e1, 0, none⟩ = some (.int .i64 t.kind) := HE1.out.c 0 _ rfl
  have y1 : X.cell? ⟨e1, 1, none⟩ = some (.int .i64 t.num) := HE1.out.c 1 _ rfl
  have y2 : X.cell? ⟨e1, 2, none⟩ = some (.string t.name) := HE1.out.c 2 _ rfl
  have y3 : X.cell? ⟨e1, 3, none⟩ = some (.slice TA t.args.length tc) := HE1.out.c 3 _ rfl
  have z0 : X.cell? ⟨e2, 0, none⟩ = some (.int .i64 n.kind) := HE2.out.c 0 _ rfl
  have z1 : X.cell? ⟨e2, 1, none⟩ = some (.int .i64 n.num) := HE2.out.c 1 _ rfl
  have z2 : X.cell? ⟨e2, 2, none⟩ = some (.string n.name) := HE2.out.c 2 _ rfl
  have z3 : X.cell? ⟨e2, 3, none⟩ = some (.slice NA n.args.length nc) := HE2.out.c 3 _ rfl
  gi_wp2
  refine ⟨trivial, (callsIn_wide.2 (f_checkOps p t n PA TA NA pc tc nc X HVN.out ((HPA.out.keep HBLX.out).mono HBLX.out.size) ((HTA.out.keep HBLX.out).mono HBLX.out.size) ((HNA.out.keep HBLX.out).mono HBLX.out.size) HOK.out)).mono ?_⟩
  rintro e w2 ⟨rfl, hB2⟩
  have HBL2 := Lib.hid (HBLX.out.trans (hB2.mono HBLX.out.size))
  have HBK2 := Lib.hid (HBKX.out.call hB2)
  have HE0b := Lib.hid (HE0.out.call hB2)
  have HE1b := Lib.hid (HE1.out.call hB2)
  have HE2b := Lib.hid (HE2.out.call hB2)
  clear hB2 HBLX HBKX HE0 HE1 HE2 x0 x1 x2 x3 y0 y1 y2 y3 z0 z1 z2 z3
  have y0 : w2.cell? ⟨e1, 0, none⟩ = some (.int .i64 t.kind) := HE1b.out.c 0 _ rfl
  have y1 : w2.cell? ⟨e1, 1, none⟩ = some (.int .i64 t.num) := HE1b.out.c 1 _ rfl
  have y2 : w2.cell? ⟨e1, 2, none⟩ = some (.string t.name) := HE1b.out.c 2 _ rfl
  have y3 : w2.cell? ⟨e1, 3, none⟩ = some (.slice TA t.args.length tc) := HE1b.out.c 3 _ rfl
  have z0 : w2.cell? ⟨e2, 0, none⟩ = some (.int .i64 n.kind) := HE2b.out.c 0 _ rfl
  have z1 : w2.cell? ⟨e2, 1, none⟩ = some (.int .i64 n.num) := HE2b.out.c 1 _ rfl
  have z2 : w2.cell? ⟨e2, 2, none⟩ = some (.string n.name) := HE2b.out.c 2 _ rfl
  have z3 : w2.cell? ⟨e2, 3, none⟩ = some (.slice NA n.args.length nc) := HE2b.out.c 3 _ rfl
  have ll1 := HE1b.out.lt
  have ll2 := HE2b.out.lt
  gi_wp2
  refine ⟨trivial, (callsIn_wide.2 (ops_typeOf t.name _)).mono ?_⟩
  rintro e w3 ⟨rfl, hB3⟩
  have hB23 : Below w2.heap.size w2 w3 := ((Below.refl w2.heap.size w2).alloc (Nat.le_refl _) _).trans (hB3.mono (by simp))
  have HBL3 := Lib.hid (HBL2.out.trans (hB23.mono HBL2.out.size))
  have HBK3 := Lib.hid (HBK2.out.call hB23)
  have HE0c := Lib.hid (HE0b.out.call hB23)
  have HE2c := Lib.hid (HE2b.out.call hB23)
  have lw3 : w.heap.size < w3.heap.size := HBK3.out.lt 5 rfl
  obtain ⟨typ, HTY⟩ : ∃ typ, Hid (typ = tyOf t.name) := ⟨_, Lib.hid rfl⟩
  rw [← HTY.out] at HSET ⊢
  clear hB3 hB23 HBL2 HBK2 HE0b HE1b HE2b ll1 ll2 y0 y1 y2 y3 z0 z1 z2 z3
  have z0 : w3.cell? ⟨e2, 0, none⟩ = some (.int .i64 n.kind) := HE2c.out.c 0 _ rfl
  have z1 : w3.cell? ⟨e2, 1, none⟩ = some (.int .i64 n.num) := HE2c.out.c 1 _ rfl
  have z2 : w3.cell? ⟨e2, 2, none⟩ = some (.string n.name) := HE2c.out.c 2 _ rfl
  have z3 : w3.cell? ⟨e2, 3, none⟩ = some (.slice NA n.args.length nc) := HE2c.out.c 3 _ rfl
  have ll2 := HE2c.out.lt
  have hsz3 : (w3.alloc (.cells #[.int .i64 typ] 3)).heap.size = w3.heap.size + 1 := by simp
  have HSEQ : Hid (Calls Tryz.prog 148 #[.agg #[.int .i64 n.kind, .int .i64 n.num, .string n.name, .slice NA n.args.length nc]] (w3.alloc (.cells #[.int .i64 typ] 3)) fun e w' => e = .returned (.func (.func 186) #[] #[.pointer (some ⟨w3.heap.size + 1, 0, none⟩)]) ∧ TBx w' (w3.heap.size + 1) n NA nc ∧ w' = (w3.alloc (.cells #[.int .i64 typ] 3)).alloc (.cells #[.int .i64 n.kind, .int .i64 n.num, .string n.name, .slice NA n.args.length nc] 26)) := Lib.hid (by
   have := f_nameSeq n NA nc (w3.alloc (.cells #[.int .i64 typ] 3))
   rw [hsz3] at this; exact this)
  clear hsz3
  generalize decide (0 < typ) = okt at *
  gi_wp2
  refine ⟨trivial, (callsIn_wide.2 HSEQ.out).mono ?_⟩
  rintro e w4 ⟨rfl, hX4, hw4⟩
  have hB34 : Below w3.heap.size w3 w4 := by rw [hw4]; exact ((Below.refl w3.heap.size w3).alloc (Nat.le_refl _) _).alloc (by simp) _
  have hs34 : w3.heap.size + 1 < w4.heap.size := by rw [hw4]; simp
  have HBL4 := Lib.hid (HBL3.out.trans (hB34.mono HBL3.out.size))
  have HBK4 := Lib.hid (HBK3.out.call hB34)
  have HE0d := Lib.hid (HE0c.out.call hB34)
  have HE15 : Hid (Bk w4 w3.heap.size [.int .i64 typ]) := Lib.hid (by rw [hw4]; exact (Bk.new w3 [.int .i64 typ] 3).al _)
  have HSQ := Lib.hid (names_stops 11 n NA nc (w3.heap.size + 1) w4 HVN.out hX4 hs34 ((HNA.out.keep HBL4.out).mono HBL4.out.size))
  clear hw4 hX4 hB34 HBL3 HBK3 HE0c HE2c HSEQ ll2 z0 z1 z2 z3
  gi_wp2
  refine wpIn_rangeX rfl (by omega) (gf := 186) (lb := #[.pointer (some ⟨w3.heap.size + 1, 0, none⟩)]) rfl trivial (enters_of Tryz.func186 (by kernel_rfl) rfl) HSQ.out (fun h k => h.trans k) (fun W l o o' _ h hc => KpC.put W l o o' h hc) (fun _ => rfl)
   (fun pre W => Below w.heap.size w W ∧ Bk W e0 [.int .i64 p.kind, .int .i64 p.num, .string p.name, .slice PA p.args.length pc] ∧ Bk W w3.heap.size [.int .i64 typ] ∧ ∃ OA' on' oc', Bks W [(w.heap.size + 1 + 1 + 1 + 1 + 1, [.int .i64 0]), (w.heap.size + 1 + 1 + 1 + 1, [.int .i64 0, .int .i64 0, .string ⟨#[]⟩, .slice none 0 0]), (w.heap.size + 1 + 1 + 1, [.slice none 0 0]), (w.heap.size + 1 + 1, [.slice none 0 0, .int .i64 0, .int .i64 0, .bool false, .bool false, .slice none 0 0]), (w.heap.size + 1, [.int .i64 gk, .int .i64 gn, .string gs, .slice (some ⟨b, off, none⟩) 3 ac]), (w.heap.size, [.slice OA' on' oc', .int .i64 q, .int .i64 u, .bool c, .bool d, .slice CA cn cc])] ∧ Tab W OA' on' oc' (setAll typ p.num l (pre.map (·.1))) ∧ on' ≤ 400) (fun _ _ _ => False)
   (fun s X Y row ⟨hb, h0, h15, OA', on', oc', hk, ht, hn⟩ hg hr => ⟨ownFrom_below (β := Unit) (Nat.le_refl _) HBL4.out.size () X Y row hb hg hr, h0.grown hg (fun r e => (hr r e).2), h15.grown hg (fun r e => (hr r e).2), OA', on', oc', Bks.own w4.heap.size (fun _ : Unit => [(w.heap.size + 1 + 1 + 1 + 1 + 1, [.int .i64 0]), (w.heap.size + 1 + 1 + 1 + 1, [.int .i64 0, .int .i64 0, .string ⟨#[]⟩, .slice none 0 0]), (w.heap.size + 1 + 1 + 1, [.slice none 0 0]), (w.heap.size + 1 + 1, [.slice none 0 0, .int .i64 0, .int .i64 0, .bool false, .bool false, .slice none 0 0]), (w.heap.size + 1, [.int .i64 gk, .int .i64 gn, .string gs, .slice (some ⟨b, off, none⟩) 3 ac]), (w.heap.size, [.slice OA' on' oc', .int .i64 q, .int .i64 u, .bool c, .bool d, .slice CA cn cc])]) () X Y row hk hg hr, tab_grown ht hg (fun r e => (hr r e).2), hn⟩)
   (fun _ _ _ _ _ hs _ _ => hs) ⟨HBL4.out, HE0d.out, HE15.out, OA, on, oc, HBK4.out, HTAB.out.below HBL4.out, HON.out⟩ ?round ?done ?stop
  case round =>
   rintro r pre ⟨a, XA, xc⟩ W hl hlW hlo ⟨hb, h0, h15, OA', on', oc', hk, ht, hn⟩ hx hsp
   have HST : Hid ((setR (setAll typ p.num l (pre.map (·.1))) ⟨a.name, typ, p.num⟩).2 = 0) := Lib.hid (HSET.out (pre.map (·.1)) a (by simpa using hsp))
   have HNX : Hid (setAll typ p.num l ((pre ++ [((a, XA, xc) : TR)]).map (·.1)) = (setR (setAll typ p.num l (pre.map (·.1))) ⟨a.name, typ, p.num⟩).1) := Lib.hid (by rw [List.map_append]; exact setAll_snoc _ _ _ _ _)
   generalize setAll typ p.num l (pre.map (·.1)) = cur at *
   have hBa := (Below.refl W.heap.size W).alloc (Nat.le_refl _) (.cells #[.int .i64 a.kind, .int .i64 a.num, .string a.name, .slice XA a.args.length xc] 26)
   have HKA := Lib.hid (hk.new [.int .i64 a.kind, .int .i64 a.num, .string a.name, .slice XA a.args.length xc] 26 rfl)
   have HBA := Lib.hid hBa
   have HBB := Lib.hid (hb.trans (hBa.mono hb.size))
   have H0A := Lib.hid (h0.call hBa)
   have H15A := Lib.hid (h15.call hBa)
   have HTA2 := Lib.hid (ht.below hBa)
   have H6L : Hid (∀ x ∈ ([(w.heap.size + 1 + 1 + 1 + 1 + 1, [.int .i64 0]), (w.heap.size + 1 + 1 + 1 + 1, [.int .i64 0, .int .i64 0, .string ⟨#[]⟩, .slice none 0 0]), (w.heap.size + 1 + 1 + 1, [.slice none 0 0]), (w.heap.size + 1 + 1, [.slice none 0 0, .int .i64 0, .int .i64 0, .bool false, .bool false, .slice none 0 0]), (w.heap.size + 1, [.int .i64 gk, .int .i64 gn, .string gs, .slice (some ⟨b, off, none⟩) 3 ac]), (w.heap.size, [.slice OA' on' oc', .int .i64 q, .int .i64 u, .bool c, .bool d, .slice CA cn cc])] : List (Nat × List Value)), x.1 < w4.heap.size) := Lib.hid fun x hx => by
    obtain ⟨y, hy, e⟩ : ∃ y ∈ ([(w.heap.size + 1 + 1 + 1 + 1 + 1, [.int .i64 0]), (w.heap.size + 1 + 1 + 1 + 1, [.int .i64 0, .int .i64 0, .string ⟨#[]⟩, .slice none 0 0]), (w.heap.size + 1 + 1 + 1, [.slice none 0 0]), (w.heap.size + 1 + 1, [.slice none 0 0, .int .i64 0, .int .i64 0, .bool false, .bool false, .slice none 0 0]), (w.heap.size + 1, [.int .i64 gk, .int .i64 gn, .string gs, .slice (some ⟨b, off, none⟩) 3 ac]), (w.heap.size, [.slice OA on oc, .int .i64 q, .int .i64 u, .bool c, .bool d, .slice CA cn cc])] : List (Nat × List Value)), y.1 = x.1 := by
     have hm : x.1 ∈ ([(w.heap.size + 1 + 1 + 1 + 1 + 1, [.int .i64 0]), (w.heap.size + 1 + 1 + 1 + 1, [.int .i64 0, .int .i64 0, .string ⟨#[]⟩, .slice none 0 0]), (w.heap.size + 1 + 1 + 1, [.slice none 0 0]), (w.heap.size + 1 + 1, [.slice none 0 0, .int .i64 0, .int .i64 0, .bool false, .bool false, .slice none 0 0]), (w.heap.size + 1, [.int .i64 gk, .int .i64 gn, .string gs, .slice (some ⟨b, off, none⟩) 3 ac]), (w.heap.size, [.slice OA' on' oc', .int .i64 q, .int .i64 u, .bool c, .bool d, .slice CA cn cc])] : List (Nat × List Value)).map (·.1) := List.mem_map_of_mem hx
     have hm2 : x.1 ∈ ([(w.heap.size + 1 + 1 + 1 + 1 + 1, [.int .i64 0]), (w.heap.size + 1 + 1 + 1 + 1, [.int .i64 0, .int .i64 0, .string ⟨#[]⟩, .slice none 0 0]), (w.heap.size + 1 + 1 + 1, [.slice none 0 0]), (w.heap.size + 1 + 1, [.slice none 0 0, .int .i64 0, .int .i64 0, .bool false, .bool false, .slice none 0 0]), (w.heap.size + 1, [.int .i64 gk, .int .i64 gn, .string gs, .slice (some ⟨b, off, none⟩) 3 ac]), (w.heap.size, [.slice OA on oc, .int .i64 q, .int .i64 u, .bool c, .bool d, .slice CA cn cc])] : List (Nat × List Value)).map (·.1) := hm
     exact List.mem_map.1 hm2
    rw [← e]; exact (HBK4.out.bk y hy).lt
   have hl15 := HE15.out.lt
   have hl0 := HE0d.out.lt
   have h04 := HBL4.out.size
   have hne : r ≠ W.heap.size := by omega
   have HLO := Lib.hid hlo
   clear hBa hk hb h0 h15 ht hx hsp hlo
   unfold tmV
   gi_wp2
   refine ⟨keeps_below HBA.out, KpC.below HBA.out, fun W2 hX2 => ?_⟩
   have hLA : ∀ k o (s : ByteArray), (W.alloc (.cells #[.int .i64 a.kind, .int .i64 a.num, .string a.name, .slice XA a.args.length xc] 26)).cell? ⟨k, o, none⟩ = some (.string s) → k ≠ r := fun k o s hc e => by
    subst e
    obtain ⟨x, hx, hxc⟩ := isCells_of_cell hc
    obtain ⟨y, hy, hyc⟩ := HLO.out
    have := (HBA.out.block _ hlW).trans hy
    rw [this] at hx; injection hx with hx; subst hx; rw [hxc] at hyc; cases hyc
   have HTB := Lib.hid (tab_other HTA2.out hX2.size fun k o s x hc _ => hX2.block k (lt_of_cell hc) (hLA k o s hc))
   have HBKW := Lib.hid (HKA.out.bx hX2 (fun x hx => by
    rcases List.mem_cons.1 hx with rfl | hx
    ·exact fun e => hne e.symm
    ·have := H6L.out x hx
     omega) (fun x hx => (HKA.out.bk x hx).lt))
   have H0B := Lib.hid (H0A.out.keeps (hX2.block _ H0A.out.lt (by omega)))
   have H15B := Lib.hid (H15A.out.keeps (hX2.block _ H15A.out.lt (by omega)))
   have HBLW := Lib.hid (HBB.out.trans (hX2.under (B := w.heap.size) (by omega) HBB.out.size))
   clear hX2 hLA HTA2 HKA H0A H15A HBB HBA HLO
   have rs := HBKW.out.cell 6 0 rfl rfl
   have rp := H0B.out.c 1 (.int .i64 p.num) rfl
   have rt := H15B.out.c 0 (.int .i64 typ) rfl
   have rn := HBKW.out.cell 0 2 rfl rfl
   have HSC : Hid (∀ (X : World), Tab X OA' on' oc' cur → Calls Tryz.prog 149 #[.slice OA' on' oc', .int .i64 p.num, .int .i64 typ, .string a.name] X fun e w' => ∃ OB nB cB, e = .returned (.tuple #[.slice OB nB cB, .int .i64 0]) ∧ Below X.heap.size X w' ∧ Tab w' OB nB cB (setR cur ⟨a.name, typ, p.num⟩).1 ∧ nB ≤ 400) := Lib.hid fun X hT => (ops_set OA' on' oc' cur p.num typ a.name X hn hT).mono fun e w' h => by
    obtain ⟨OB, nB, cB, he, hB, hT2⟩ := h
    refine ⟨OB, nB, cB, by rw [he, HST.out], hB, hT2, ?_⟩
    have := setR_small HST.out
    rw [hT2.len]; omega
   gi_wp2
   refine ⟨trivial, (CallsIn.inRound r (callsIn_wide.2 (HSC.out _ HTB.out))).mono ?_⟩
   rintro e W3 ⟨OB, nB, cB, rfl, hB3, hT3, hn3⟩
   have HB3 := Lib.hid hB3
   have HT3 := Lib.hid hT3
   have HN3 := Lib.hid hn3
   have HBK3 := Lib.hid (HBKW.out.call hB3).tl
   have H03 := Lib.hid (H0B.out.call hB3)
   have H153 := Lib.hid (H15B.out.call hB3)
   have rs3 := HBK3.out.cell 5 0 rfl rfl
   have rf3 := HBK3.out.fz 5 0 rfl
   have lg : w.heap.size < w4.heap.size := H6L.out _ (by simp : (w.heap.size, [.slice OA' on' oc', .int .i64 q, .int .i64 u, .bool c, .bool d, .slice CA cn cc]) ∈ ([(w.heap.size + 1 + 1 + 1 + 1 + 1, [.int .i64 0]), (w.heap.size + 1 + 1 + 1 + 1, [.int .i64 0, .int .i64 0, .string ⟨#[]⟩, .slice none 0 0]), (w.heap.size + 1 + 1 + 1, [.slice none 0 0]), (w.heap.size + 1 + 1, [.slice none 0 0, .int .i64 0, .int .i64 0, .bool false, .bool false, .slice none 0 0]), (w.heap.size + 1, [.int .i64 gk, .int .i64 gn, .string gs, .slice (some ⟨b, off, none⟩) 3 ac]), (w.heap.size, [.slice OA' on' oc', .int .i64 q, .int .i64 u, .bool c, .bool d, .slice CA cn cc])] : List (Nat × List Value)))
   clear hB3 hT3 hn3 rs rp rt rn HBKW HTB H0B H15B HSC
   gi_wp2
   refine ⟨(keeps_below HB3.out).trans (KeepsOthers.setCell _ _ _), (KpC.below HB3.out).trans (KpC.setOld lg _ _), (HBLW.out.trans (HB3.out.mono HBLW.out.size)).setCell (p := ⟨_, _, none⟩) (Nat.le_refl _) _, H03.out.other (by omega) _ _, H153.out.other (by omega) _ _, OB, nB, cB, HBK3.out.set 5 0 rfl _, ?_, HN3.out⟩
   rw [HNX.out]
   exact tab_boxes (L := [(w.heap.size, [.slice OA' on' oc', .int .i64 q, .int .i64 u, .bool c, .bool d, .slice CA cn cc])]) HT3.out ⟨fun x hx => by rw [List.mem_singleton.1 hx]; exact HBK3.out.at 5 _ _ rfl, by simp⟩ (fun x hx => by
    rw [List.mem_singleton.1 hx]
    intro i s x
    rcases i with _ | _ | _ | _ | _ | _ | i <;> simp) (by simp) (fun k hk => heap_setCell_other _ ⟨w.heap.size, 0, none⟩ k _ (hk _ (List.mem_singleton.2 rfl)))
  case done =>
   rintro D xs W hD hS ⟨hb, h0, h15, OA', on', oc', hk, ht, hn⟩ hK
   rw [hS] at ht
   have HBL7 := Lib.hid hb
   have HBK7 := Lib.hid hk
   have HT7 := Lib.hid ht
   have HK7 := Lib.hid hK
   have hDW : D < W.heap.size := (Array.getElem?_eq_some_iff.1 hK).1
   clear hb h0 h15 hk ht hn hK hS
   have gs_0 := HBK7.out.cell 5 0 rfl rfl
   have gs_1 := HBK7.out.cell 5 1 rfl rfl
   have gs_2 := HBK7.out.cell 5 2 rfl rfl
   have gs_3 := HBK7.out.cell 5 3 rfl rfl
   have gs_4 := HBK7.out.cell 5 4 rfl rfl
   have gs_5 := HBK7.out.cell 5 5 rfl rfl
   have gg_0 := HBK7.out.cell 4 0 rfl rfl
   have gg_1 := HBK7.out.cell 4 1 rfl rfl
   have gg_2 := HBK7.out.cell 4 2 rfl rfl
   have gg_3 := HBK7.out.cell 4 3 rfl rfl
   have HDN : Hid (Calls Tryz.prog 151 #[.agg #[.slice OA' on' oc', .int .i64 q, .int .i64 u, .bool c, .bool d, .slice CA cn cc], .agg #[.int .i64 gk, .int .i64 gn, .string gs, .slice (some ⟨b, off, none⟩) 3 ac]] W fun e w' => ∃ rb, e = .returned (.tuple #[.agg #[.slice OA' on' oc', .int .i64 q, .int .i64 u, .bool c, .bool d, .slice CA cn cc], .slice (some ⟨rb, 0, none⟩) 1 1, .agg #[.int .i64 0, .int .i64 0, .string ⟨#[]⟩, .slice none 0 0], .int .i64 0]) ∧ Below W.heap.size W w' ∧ TmsK (fun k => W.heap.size ≤ k ∧ k < w'.heap.size) w' (some ⟨rb, 0, none⟩) [.mk gk gn gs [p, t, n]]) := Lib.hid (by
    have := f_done OA' on' oc' q u c d CA cn cc (.mk gk gn gs [p, t, n]) (some ⟨b, off, none⟩) ac W ((HAA.out.keep HBL7.out).mono HBL7.out.size) HGV.out
    rw [show cloneT (.mk gk gn gs [p, t, n]) = .mk gk gn gs [p, t, n] by unfold cloneT; rw [if_pos HGV.out]] at this
    exact this)
   gi_wp2
   refine ⟨trivial, (callsIn_wide.2 HDN.out).mono ?_⟩
   rintro e w8 ⟨rb, rfl, hB8, hR8⟩
   have HBL8 := Lib.hid (HBL7.out.trans (hB8.mono HBL7.out.size))
   have HBK8 := Lib.hid (HBK7.out.call hB8)
   have HT8 := Lib.hid (HT7.out.below hB8)
   have HK8 := Lib.hid ((hB8.block D hDW).trans HK7.out)
   have HR8 := Lib.hid hR8
   have HL7 : Hid (∀ x ∈ ([(w.heap.size + 1 + 1 + 1 + 1 + 1, [.int .i64 0]), (w.heap.size + 1 + 1 + 1 + 1, [.int .i64 0, .int .i64 0, .string ⟨#[]⟩, .slice none 0 0]), (w.heap.size + 1 + 1 + 1, [.slice none 0 0]), (w.heap.size + 1 + 1, [.slice none 0 0, .int .i64 0, .int .i64 0, .bool false, .bool false, .slice none 0 0]), (w.heap.size + 1, [.int .i64 gk, .int .i64 gn, .string gs, .slice (some ⟨b, off, none⟩) 3 ac]), (w.heap.size, [.slice OA' on' oc', .int .i64 q, .int .i64 u, .bool c, .bool d, .slice CA cn cc])] : List (Nat × List Value)), x.1 < W.heap.size ∧ x.1 ≠ D) := Lib.hid fun x hx => ⟨(HBK7.out.bk x hx).lt, fun e => by
    obtain ⟨y, hy⟩ := HBK7.out.bk x hx
    rw [e, HK7.out] at hy; cases hy⟩
   clear hB8 hR8 HDN HBL7 HT7 HK7 HBK7 gs_0 gs_1 gs_2 gs_3 gs_4 gs_5 gg_0 gg_1 gg_2 gg_3
   have ja_0 := HBK8.out.cell 3 0 rfl rfl
   have ja_1 := HBK8.out.cell 3 1 rfl rfl
   have ja_2 := HBK8.out.cell 3 2 rfl rfl
   have ja_3 := HBK8.out.cell 3 3 rfl rfl
   have ja_4 := HBK8.out.cell 3 4 rfl rfl
   have ja_5 := HBK8.out.cell 3 5 rfl rfl
   have jb_0 := HBK8.out.cell 2 0 rfl rfl
   have jc_0 := HBK8.out.cell 1 0 rfl rfl
   have jc_1 := HBK8.out.cell 1 1 rfl rfl
   have jc_2 := HBK8.out.cell 1 2 rfl rfl
   have jc_3 := HBK8.out.cell 1 3 rfl rfl
   have jd_0 := HBK8.out.cell 0 0 rfl rfl
   have jaf0 := HBK8.out.fz 3 0 rfl
   have jaf1 := HBK8.out.fz 3 1 rfl
   have jaf2 := HBK8.out.fz 3 2 rfl
   have jaf3 := HBK8.out.fz 3 3 rfl
   have jaf4 := HBK8.out.fz 3 4 rfl
   have jaf5 := HBK8.out.fz 3 5 rfl
   have jbf0 := HBK8.out.fz 2 0 rfl
   have jcf0 := HBK8.out.fz 1 0 rfl
   have jcf1 := HBK8.out.fz 1 1 rfl
   have jcf2 := HBK8.out.fz 1 2 rfl
   have jcf3 := HBK8.out.fz 1 3 rfl
   have jdf0 := HBK8.out.fz 0 0 rfl
   have hzk : ∀ k, k ≠ w.heap.size + 1 + 1 → k ≠ w.heap.size + 1 + 1 + 1 → k ≠ w.heap.size + 1 + 1 + 1 + 1 → k ≠ w.heap.size + 1 + 1 + 1 + 1 + 1 → (((((((((((((w8.setCell ⟨w.heap.size + 1 + 1, 0, none⟩ (.slice OA' on' oc')).setCell ⟨w.heap.size + 1 + 1, 1, none⟩ (.int .i64 q)).setCell ⟨w.heap.size + 1 + 1, 2, none⟩ (.int .i64 u)).setCell ⟨w.heap.size + 1 + 1, 3, none⟩ (.bool c)).setCell ⟨w.heap.size + 1 + 1, 4, none⟩ (.bool d)).setCell ⟨w.heap.size + 1 + 1, 5, none⟩ (.slice CA cn cc)).setCell ⟨w.heap.size + 1 + 1 + 1, 0, none⟩ (.slice (some ⟨rb, 0, none⟩) 1 1)).setCell ⟨w.heap.size + 1 + 1 + 1 + 1, 0, none⟩ (.int .i64 0)).setCell ⟨w.heap.size + 1 + 1 + 1 + 1, 1, none⟩ (.int .i64 0)).setCell ⟨w.heap.size + 1 + 1 + 1 + 1, 2, none⟩ (.string ⟨#[]⟩)).setCell ⟨w.heap.size + 1 + 1 + 1 + 1, 3, none⟩ (.slice none 0 0)).setCell ⟨w.heap.size + 1 + 1 + 1 + 1 + 1, 0, none⟩ (.int .i64 0))).heap[k]? = w8.heap[k]? := fun k k2 k3 k4 k5 => by
    rw [heap_setCell_other _ _ _ _ k5, heap_setCell_other _ _ _ _ k4, heap_setCell_other _ _ _ _ k4, heap_setCell_other _ _ _ _ k4, heap_setCell_other _ _ _ _ k4, heap_setCell_other _ _ _ _ k3, heap_setCell_other _ _ _ _ k2, heap_setCell_other _ _ _ _ k2, heap_setCell_other _ _ _ _ k2, heap_setCell_other _ _ _ _ k2, heap_setCell_other _ _ _ _ k2, heap_setCell_other _ _ _ _ k2]
   have hBKz : Bks (((((((((((((w8.setCell ⟨w.heap.size + 1 + 1, 0, none⟩ (.slice OA' on' oc')).setCell ⟨w.heap.size + 1 + 1, 1, none⟩ (.int .i64 q)).setCell ⟨w.heap.size + 1 + 1, 2, none⟩ (.int .i64 u)).setCell ⟨w.heap.size + 1 + 1, 3, none⟩ (.bool c)).setCell ⟨w.heap.size + 1 + 1, 4, none⟩ (.bool d)).setCell ⟨w.heap.size + 1 + 1, 5, none⟩ (.slice CA cn cc)).setCell ⟨w.heap.size + 1 + 1 + 1, 0, none⟩ (.slice (some ⟨rb, 0, none⟩) 1 1)).setCell ⟨w.heap.size + 1 + 1 + 1 + 1, 0, none⟩ (.int .i64 0)).setCell ⟨w.heap.size + 1 + 1 + 1 + 1, 1, none⟩ (.int .i64 0)).setCell ⟨w.heap.size + 1 + 1 + 1 + 1, 2, none⟩ (.string ⟨#[]⟩)).setCell ⟨w.heap.size + 1 + 1 + 1 + 1, 3, none⟩ (.slice none 0 0)).setCell ⟨w.heap.size + 1 + 1 + 1 + 1 + 1, 0, none⟩ (.int .i64 0))) [(w.heap.size + 1 + 1 + 1 + 1 + 1, [.int .i64 0]), (w.heap.size + 1 + 1 + 1 + 1, [.int .i64 0, .int .i64 0, .string ⟨#[]⟩, .slice none 0 0]), (w.heap.size + 1 + 1 + 1, [.slice (some ⟨rb, 0, none⟩) 1 1]), (w.heap.size + 1 + 1, [.slice OA' on' oc', .int .i64 q, .int .i64 u, .bool c, .bool d, .slice CA cn cc]), (w.heap.size + 1, [.int .i64 gk, .int .i64 gn, .string gs, .slice (some ⟨b, off, none⟩) 3 ac]), (w.heap.size, [.slice OA' on' oc', .int .i64 q, .int .i64 u, .bool c, .bool d, .slice CA cn cc])] := ((((((((((((HBK8.out.set 3 0 rfl (.slice OA' on' oc')).set 3 1 rfl (.int .i64 q)).set 3 2 rfl (.int .i64 u)).set 3 3 rfl (.bool c)).set 3 4 rfl (.bool d)).set 3 5 rfl (.slice CA cn cc)).set 2 0 rfl (.slice (some ⟨rb, 0, none⟩) 1 1)).set 1 0 rfl (.int .i64 0)).set 1 1 rfl (.int .i64 0)).set 1 2 rfl (.string ⟨#[]⟩)).set 1 3 rfl (.slice none 0 0)).set 0 0 rfl (.int .i64 0))
   have hBLz : Below w.heap.size w (((((((((((((w8.setCell ⟨w.heap.size + 1 + 1, 0, none⟩ (.slice OA' on' oc')).setCell ⟨w.heap.size + 1 + 1, 1, none⟩ (.int .i64 q)).setCell ⟨w.heap.size + 1 + 1, 2, none⟩ (.int .i64 u)).setCell ⟨w.heap.size + 1 + 1, 3, none⟩ (.bool c)).setCell ⟨w.heap.size + 1 + 1, 4, none⟩ (.bool d)).setCell ⟨w.heap.size + 1 + 1, 5, none⟩ (.slice CA cn cc)).setCell ⟨w.heap.size + 1 + 1 + 1, 0, none⟩ (.slice (some ⟨rb, 0, none⟩) 1 1)).setCell ⟨w.heap.size + 1 + 1 + 1 + 1, 0, none⟩ (.int .i64 0)).setCell ⟨w.heap.size + 1 + 1 + 1 + 1, 1, none⟩ (.int .i64 0)).setCell ⟨w.heap.size + 1 + 1 + 1 + 1, 2, none⟩ (.string ⟨#[]⟩)).setCell ⟨w.heap.size + 1 + 1 + 1 + 1, 3, none⟩ (.slice none 0 0)).setCell ⟨w.heap.size + 1 + 1 + 1 + 1 + 1, 0, none⟩ (.int .i64 0))) := ((((((((((((HBL8.out.setCell (p := ⟨w.heap.size + 1 + 1, _, none⟩) (show w.heap.size ≤ w.heap.size + 1 + 1 by omega) _).setCell (p := ⟨w.heap.size + 1 + 1, _, none⟩) (show w.heap.size ≤ w.heap.size + 1 + 1 by omega) _).setCell (p := ⟨w.heap.size + 1 + 1, _, none⟩) (show w.heap.size ≤ w.heap.size + 1 + 1 by omega) _).setCell (p := ⟨w.heap.size + 1 + 1, _, none⟩) (show w.heap.size ≤ w.heap.size + 1 + 1 by omega) _).setCell (p := ⟨w.heap.size + 1 + 1, _, none⟩) (show w.heap.size ≤ w.heap.size + 1 + 1 by omega) _).setCell (p := ⟨w.heap.size + 1 + 1, _, none⟩) (show w.heap.size ≤ w.heap.size + 1 + 1 by omega) _).setCell (p := ⟨w.heap.size + 1 + 1 + 1, _, none⟩) (show w.heap.size ≤ w.heap.size + 1 + 1 + 1 by omega) _).setCell (p := ⟨w.heap.size + 1 + 1 + 1 + 1, _, none⟩) (show w.heap.size ≤ w.heap.size + 1 + 1 + 1 + 1 by omega) _).setCell (p := ⟨w.heap.size + 1 + 1 + 1 + 1, _, none⟩) (show w.heap.size ≤ w.heap.size + 1 + 1 + 1 + 1 by omega) _).setCell (p := ⟨w.heap.size + 1 + 1 + 1 + 1, _, none⟩) (show w.heap.size ≤ w.heap.size + 1 + 1 + 1 + 1 by omega) _).setCell (p := ⟨w.heap.size + 1 + 1 + 1 + 1, _, none⟩) (show w.heap.size ≤ w.heap.size + 1 + 1 + 1 + 1 by omega) _).setCell (p := ⟨w.heap.size + 1 + 1 + 1 + 1 + 1, _, none⟩) (show w.heap.size ≤ w.heap.size + 1 + 1 + 1 + 1 + 1 by omega) _)
   have hszz : (((((((((((((w8.setCell ⟨w.heap.size + 1 + 1, 0, none⟩ (.slice OA' on' oc')).setCell ⟨w.heap.size + 1 + 1, 1, none⟩ (.int .i64 q)).setCell ⟨w.heap.size + 1 + 1, 2, none⟩ (.int .i64 u)).setCell ⟨w.heap.size + 1 + 1, 3, none⟩ (.bool c)).setCell ⟨w.heap.size + 1 + 1, 4, none⟩ (.bool d)).setCell ⟨w.heap.size + 1 + 1, 5, none⟩ (.slice CA cn cc)).setCell ⟨w.heap.size + 1 + 1 + 1, 0, none⟩ (.slice (some ⟨rb, 0, none⟩) 1 1)).setCell ⟨w.heap.size + 1 + 1 + 1 + 1, 0, none⟩ (.int .i64 0)).setCell ⟨w.heap.size + 1 + 1 + 1 + 1, 1, none⟩ (.int .i64 0)).setCell ⟨w.heap.size + 1 + 1 + 1 + 1, 2, none⟩ (.string ⟨#[]⟩)).setCell ⟨w.heap.size + 1 + 1 + 1 + 1, 3, none⟩ (.slice none 0 0)).setCell ⟨w.heap.size + 1 + 1 + 1 + 1 + 1, 0, none⟩ (.int .i64 0))).heap.size = w8.heap.size := by simp
   have hg2 := HL7.out (w.heap.size + 1 + 1, _) (List.mem_of_getElem? (i := 3) rfl)
   have hg3 := HL7.out (w.heap.size + 1 + 1 + 1, _) (List.mem_of_getElem? (i := 2) rfl)
   have hg4 := HL7.out (w.heap.size + 1 + 1 + 1 + 1, _) (List.mem_of_getElem? (i := 1) rfl)
   have hg5 := HL7.out (w.heap.size + 1 + 1 + 1 + 1 + 1, _) (List.mem_of_getElem? (i := 0) rfl)
   dsimp only at hg2 hg3 hg4 hg5
   have hTz : Tab (((((((((((((w8.setCell ⟨w.heap.size + 1 + 1, 0, none⟩ (.slice OA' on' oc')).setCell ⟨w.heap.size + 1 + 1, 1, none⟩ (.int .i64 q)).setCell ⟨w.heap.size + 1 + 1, 2, none⟩ (.int .i64 u)).setCell ⟨w.heap.size + 1 + 1, 3, none⟩ (.bool c)).setCell ⟨w.heap.size + 1 + 1, 4, none⟩ (.bool d)).setCell ⟨w.heap.size + 1 + 1, 5, none⟩ (.slice CA cn cc)).setCell ⟨w.heap.size + 1 + 1 + 1, 0, none⟩ (.slice (some ⟨rb, 0, none⟩) 1 1)).setCell ⟨w.heap.size + 1 + 1 + 1 + 1, 0, none⟩ (.int .i64 0)).setCell ⟨w.heap.size + 1 + 1 + 1 + 1, 1, none⟩ (.int .i64 0)).setCell ⟨w.heap.size + 1 + 1 + 1 + 1, 2, none⟩ (.string ⟨#[]⟩)).setCell ⟨w.heap.size + 1 + 1 + 1 + 1, 3, none⟩ (.slice none 0 0)).setCell ⟨w.heap.size + 1 + 1 + 1 + 1 + 1, 0, none⟩ (.int .i64 0))) OA' on' oc' (setAll typ p.num l (nmL n)) := tab_boxes HT8.out (HBK8.out.tk 4) (fun x hx => by
    simp only [List.take_succ_cons, List.take_zero, List.mem_cons, List.mem_nil_iff, or_false] at hx
    rcases hx with rfl | rfl | rfl | rfl
    ·intro i s x; rcases i with _ | i <;> simp
    ·intro i s x; rcases i with _ | _ | _ | _ | i <;> simp
    ·intro i s x; rcases i with _ | i <;> simp
    ·intro i s x; rcases i with _ | _ | _ | _ | _ | _ | i <;> simp) (by rw [hszz]; exact Nat.le_refl _) (fun k hk => hzk k (hk _ (List.mem_of_getElem? (i := 3) rfl)) (hk _ (List.mem_of_getElem? (i := 2) rfl)) (hk _ (List.mem_of_getElem? (i := 1) rfl)) (hk _ (List.mem_of_getElem? (i := 0) rfl)))
   have hKz : (((((((((((((w8.setCell ⟨w.heap.size + 1 + 1, 0, none⟩ (.slice OA' on' oc')).setCell ⟨w.heap.size + 1 + 1, 1, none⟩ (.int .i64 q)).setCell ⟨w.heap.size + 1 + 1, 2, none⟩ (.int .i64 u)).setCell ⟨w.heap.size + 1 + 1, 3, none⟩ (.bool c)).setCell ⟨w.heap.size + 1 + 1, 4, none⟩ (.bool d)).setCell ⟨w.heap.size + 1 + 1, 5, none⟩ (.slice CA cn cc)).setCell ⟨w.heap.size + 1 + 1 + 1, 0, none⟩ (.slice (some ⟨rb, 0, none⟩) 1 1)).setCell ⟨w.heap.size + 1 + 1 + 1 + 1, 0, none⟩ (.int .i64 0)).setCell ⟨w.heap.size + 1 + 1 + 1 + 1, 1, none⟩ (.int .i64 0)).setCell ⟨w.heap.size + 1 + 1 + 1 + 1, 2, none⟩ (.string ⟨#[]⟩)).setCell ⟨w.heap.size + 1 + 1 + 1 + 1, 3, none⟩ (.slice none 0 0)).setCell ⟨w.heap.size + 1 + 1 + 1 + 1 + 1, 0, none⟩ (.int .i64 0))).heap[D]? = some (.deferred (some [])) := (hzk D hg2.2.symm hg3.2.symm hg4.2.symm hg5.2.symm).trans HK8.out
   have hRz : TmsK (fun k => w.heap.size ≤ k ∧ k < ((((((((((((((w8.setCell ⟨w.heap.size + 1 + 1, 0, none⟩ (.slice OA' on' oc')).setCell ⟨w.heap.size + 1 + 1, 1, none⟩ (.int .i64 q)).setCell ⟨w.heap.size + 1 + 1, 2, none⟩ (.int .i64 u)).setCell ⟨w.heap.size + 1 + 1, 3, none⟩ (.bool c)).setCell ⟨w.heap.size + 1 + 1, 4, none⟩ (.bool d)).setCell ⟨w.heap.size + 1 + 1, 5, none⟩ (.slice CA cn cc)).setCell ⟨w.heap.size + 1 + 1 + 1, 0, none⟩ (.slice (some ⟨rb, 0, none⟩) 1 1)).setCell ⟨w.heap.size + 1 + 1 + 1 + 1, 0, none⟩ (.int .i64 0)).setCell ⟨w.heap.size + 1 + 1 + 1 + 1, 1, none⟩ (.int .i64 0)).setCell ⟨w.heap.size + 1 + 1 + 1 + 1, 2, none⟩ (.string ⟨#[]⟩)).setCell ⟨w.heap.size + 1 + 1 + 1 + 1, 3, none⟩ (.slice none 0 0)).setCell ⟨w.heap.size + 1 + 1 + 1 + 1 + 1, 0, none⟩ (.int .i64 0))).putObj D (.deferred none)).heap.size) ((((((((((((((w8.setCell ⟨w.heap.size + 1 + 1, 0, none⟩ (.slice OA' on' oc')).setCell ⟨w.heap.size + 1 + 1, 1, none⟩ (.int .i64 q)).setCell ⟨w.heap.size + 1 + 1, 2, none⟩ (.int .i64 u)).setCell ⟨w.heap.size + 1 + 1, 3, none⟩ (.bool c)).setCell ⟨w.heap.size + 1 + 1, 4, none⟩ (.bool d)).setCell ⟨w.heap.size + 1 + 1, 5, none⟩ (.slice CA cn cc)).setCell ⟨w.heap.size + 1 + 1 + 1, 0, none⟩ (.slice (some ⟨rb, 0, none⟩) 1 1)).setCell ⟨w.heap.size + 1 + 1 + 1 + 1, 0, none⟩ (.int .i64 0)).setCell ⟨w.heap.size + 1 + 1 + 1 + 1, 1, none⟩ (.int .i64 0)).setCell ⟨w.heap.size + 1 + 1 + 1 + 1, 2, none⟩ (.string ⟨#[]⟩)).setCell ⟨w.heap.size + 1 + 1 + 1 + 1, 3, none⟩ (.slice none 0 0)).setCell ⟨w.heap.size + 1 + 1 + 1 + 1 + 1, 0, none⟩ (.int .i64 0))).putObj D (.deferred none)) (some ⟨rb, 0, none⟩) [.mk gk gn gs [p, t, n]] := HR8.out.keep (fun k hk => (World.putObj_heap_other (by omega)).trans (hzk k (by omega) (by omega) (by omega) (by omega))) (fun k hk => ⟨by omega, by rw [World.putObj_size, hszz]; exact hk.2⟩)
   obtain ⟨wz, HWZ⟩ : ∃ wz, Hid (wz = ((((((((((((w8.setCell ⟨w.heap.size + 1 + 1, 0, none⟩ (.slice OA' on' oc')).setCell ⟨w.heap.size + 1 + 1, 1, none⟩ (.int .i64 q)).setCell ⟨w.heap.size + 1 + 1, 2, none⟩ (.int .i64 u)).setCell ⟨w.heap.size + 1 + 1, 3, none⟩ (.bool c)).setCell ⟨w.heap.size + 1 + 1, 4, none⟩ (.bool d)).setCell ⟨w.heap.size + 1 + 1, 5, none⟩ (.slice CA cn cc)).setCell ⟨w.heap.size + 1 + 1 + 1, 0, none⟩ (.slice (some ⟨rb, 0, none⟩) 1 1)).setCell ⟨w.heap.size + 1 + 1 + 1 + 1, 0, none⟩ (.int .i64 0)).setCell ⟨w.heap.size + 1 + 1 + 1 + 1, 1, none⟩ (.int .i64 0)).setCell ⟨w.heap.size + 1 + 1 + 1 + 1, 2, none⟩ (.string ⟨#[]⟩)).setCell ⟨w.heap.size + 1 + 1 + 1 + 1, 3, none⟩ (.slice none 0 0)).setCell ⟨w.heap.size + 1 + 1 + 1 + 1 + 1, 0, none⟩ (.int .i64 0))) := ⟨_, Lib.hid rfl⟩
   rw [← HWZ.out] at hBKz hBLz hTz hKz hRz
   have hTy := tab_grown hTz (grownBy_putObj' wz D (.deferred none)) (fun r e => by cases e; exact ⟨_, hKz, rfl⟩)
   have hBKy := hBKz.putObj (q := D) (.deferred none) (fun x hx => by
    obtain ⟨y, hy, e⟩ : ∃ y ∈ ([(w.heap.size + 1 + 1 + 1 + 1 + 1, [.int .i64 0]), (w.heap.size + 1 + 1 + 1 + 1, [.int .i64 0, .int .i64 0, .string ⟨#[]⟩, .slice none 0 0]), (w.heap.size + 1 + 1 + 1, [.slice none 0 0]), (w.heap.size + 1 + 1, [.slice none 0 0, .int .i64 0, .int .i64 0, .bool false, .bool false, .slice none 0 0]), (w.heap.size + 1, [.int .i64 gk, .int .i64 gn, .string gs, .slice (some ⟨b, off, none⟩) 3 ac]), (w.heap.size, [.slice OA' on' oc', .int .i64 q, .int .i64 u, .bool c, .bool d, .slice CA cn cc])] : List (Nat × List Value)), y.1 = x.1 := by
     have hm : x.1 ∈ ([(w.heap.size + 1 + 1 + 1 + 1 + 1, [.int .i64 0]), (w.heap.size + 1 + 1 + 1 + 1, [.int .i64 0, .int .i64 0, .string ⟨#[]⟩, .slice none 0 0]), (w.heap.size + 1 + 1 + 1, [.slice (some ⟨rb, 0, none⟩) 1 1]), (w.heap.size + 1 + 1, [.slice OA' on' oc', .int .i64 q, .int .i64 u, .bool c, .bool d, .slice CA cn cc]), (w.heap.size + 1, [.int .i64 gk, .int .i64 gn, .string gs, .slice (some ⟨b, off, none⟩) 3 ac]), (w.heap.size, [.slice OA' on' oc', .int .i64 q, .int .i64 u, .bool c, .bool d, .slice CA cn cc])] : List (Nat × List Value)).map (·.1) := List.mem_map_of_mem hx
     have hm2 : x.1 ∈ ([(w.heap.size + 1 + 1 + 1 + 1 + 1, [.int .i64 0]), (w.heap.size + 1 + 1 + 1 + 1, [.int .i64 0, .int .i64 0, .string ⟨#[]⟩, .slice none 0 0]), (w.heap.size + 1 + 1 + 1, [.slice none 0 0]), (w.heap.size + 1 + 1, [.slice none 0 0, .int .i64 0, .int .i64 0, .bool false, .bool false, .slice none 0 0]), (w.heap.size + 1, [.int .i64 gk, .int .i64 gn, .string gs, .slice (some ⟨b, off, none⟩) 3 ac]), (w.heap.size, [.slice OA' on' oc', .int .i64 q, .int .i64 u, .bool c, .bool d, .slice CA cn cc])] : List (Nat × List Value)).map (·.1) := hm
     exact List.mem_map.1 hm2
    rw [← e]; exact (HL7.out y hy).2)
   have hBLy := below_putO hBLz (D := D) (Nat.le_trans HBL4.out.size hD) (.deferred none)
   have HFC := Lib.hid (And.intro hBLy (And.intro hTy hRz))
   have HBKY := Lib.hid hBKy
   have HKZ := Lib.hid hKz
   clear hzk hBKz hBLz hTz hKz hRz hTy hBKy hBLy hg2 hg3 hg4 hg5 hszz
   gi_wp2
   rw [← HWZ.out]
   have ma_0 := HBKY.out.cell 3 0 rfl rfl
   have ma_1 := HBKY.out.cell 3 1 rfl rfl
   have ma_2 := HBKY.out.cell 3 2 rfl rfl
   have ma_3 := HBKY.out.cell 3 3 rfl rfl
   have ma_4 := HBKY.out.cell 3 4 rfl rfl
   have ma_5 := HBKY.out.cell 3 5 rfl rfl
   have mb_0 := HBKY.out.cell 2 0 rfl rfl
   have mc_0 := HBKY.out.cell 1 0 rfl rfl
   have mc_1 := HBKY.out.cell 1 1 rfl rfl
   have mc_2 := HBKY.out.cell 1 2 rfl rfl
   have mc_3 := HBKY.out.cell 1 3 rfl rfl
   have md_0 := HBKY.out.cell 0 0 rfl rfl
   refine ⟨by simp, .inl ⟨_, _, rfl, run_takeDeferred HKZ.out, ?_⟩⟩
   exact ⟨.tuple #[.agg #[.slice OA' on' oc', .int .i64 q, .int .i64 u, .bool c, .bool d, .slice CA cn cc], .slice (some ⟨rb, 0, none⟩) 1 1, .agg #[.int .i64 0, .int .i64 0, .string ⟨#[]⟩, .slice none 0 0], .int .i64 0], by simp [results, Tryz.results113, go_sem, ma_0, ma_1, ma_2, ma_3, ma_4, ma_5, mb_0, mc_0, mc_1, mc_2, mc_3, md_0], OA', on', oc', rb, rfl, HFC.out.1, by rw [← HTY.out]; exact HFC.out.2.1, HFC.out.2.2⟩
  case stop =>
   rintro D c pre W hD hS h hK
   exact h.elim
end Go.Proofs.YtfkhcpeahdkafaaGreat
