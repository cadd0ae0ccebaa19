/- Flags: appending a term in a drawn region; current_op with three variables. -/
import Derived.Test.YtfkhcpeahdkafaaGreatH20
import Derived.Test.YtfkhcpeahdkafaaGreatH10
import Derived.Test.YtfkhcpeahdkafaaGreatH06
namespace Hb
open Go Go.RowKit
theorem wp_app {P : Program} {X : World} {o : Oper} {a : Act} {K : Act → World → Prop} {Q : Exit → Act → World → Prop} (s x : Operand) (t : TypeId)
  (ho : o.op = .call { callee := .builtin .append, args := #[s, x], argTypes := #[t, t] })
  (base : Nat) (e : TypeId) (i : TypeInfo) (z : Value) (size bytes : Nat) (ht : P.underlying t = some (.slice e)) (hi : P.info? e = some i) (hz : i.zero = some z)
  (hsize : i.size = size) (hby : i.bytes = bytes) (hzs : z.cells.size = size) (hsz : 0 < size)
  (v : Value) (n : Nat) (xs : List Value) (hs : a.eval s = v) (hown : X.ownsRow base e size v n xs)
  (ad : Addr) (m c : Nat) (news : List Value) (hx : a.eval x = .slice (some ad) m c) (hl : news.length = m * size) (hnews : ∀ j u, news[j]? = some u → X.cell? (ad.add j) = some u) (h1 : ∀ u ∈ news, u.oneCell' = true)
  (h63 : n + m ≤ maxLen) (hbytes : (n + m) * bytes ≤ 140737488355328) (hbase : base ≤ X.heap.size)
  (h : ∀ v' w', w'.ownsRow base e size v' (n + m) (xs ++ news) → X.grownBy w' v.ownBlock → (v'.ownBlock = v.ownBlock ∨ v'.ownBlock = some X.heap.size) → K (a.put o.dst v') w') : o.wp P a X K Q := by
 obtain ⟨v', w', hr, h2, h3, _, h5⟩ := run_append_own_at (P := P) X base t o.type e i z size bytes ht hi hz hsize hby hzs hsz v n xs hown ad m c news hl hnews h1 h63 hbytes hbase
 unfold Oper.wp execOp
 simp only [ho, resolve, invoke, builtin, Sem.run_bind, Sem.run_pure, Result.andThen_ok, List.map_toArray, List.map_cons, List.map_nil, hs, hx, hr]
 exact h v' w' h2 h3 h5
theorem below_grown {lo : Nat} {a X Y : World} {v : Value} {e size n : Nat} {xs : List Value} (h : Below lo a X) (hl : lo ≤ X.heap.size) (hown : X.ownsRow lo e size v n xs) (hg : X.grownBy Y v.ownBlock) : Below lo a Y := h.grown hg hl (fun k hk => (hown.lt k hk).1)
structure ApI (e : TypeId) (wl W4 : World) (bx : Nat) (bc : List Value) (v : Value) (rs : List TR) (x : Tm) (ag : List Tm) (X : World) (v2 : Value) (xA : Option Addr) (xc g1 g2 : Nat) (s9 s10 s11 s12 : Bool) : Prop where
 bel : Below wl.heap.size wl X
 siz : W4.heap.size ≤ X.heap.size
 box : Bk X bx bc
 own : s12 = false → OwnR wl.heap.size e X v rs
 own2 : s12 = true → OwnR wl.heap.size e X v2 (rs ++ [(x, xA, xc)])
 row : s9 = true → s10 = false → TmsAt X.heap.size X (some ⟨g1, 0, none⟩) ag
 str : s10 = true → TmsK (fun b => W4.heap.size ≤ b ∧ b < X.heap.size) X xA x.args
 one : s11 = true → s12 = false → Bk X g2 (rowC (x, xA, xc))
 i11 : s11 = true → s10 = true
 i12 : s12 = true → s11 = true
theorem ApI.call {e : TypeId} {wl W4 : World} {bx : Nat} {bc : List Value} {v : Value} {rs : List TR} {x : Tm} {ag : List Tm} {X X' : World} {v2 : Value} {xA : Option Addr} {xc g1 g2 : Nat} {s9 s10 s11 s12 : Bool} (h : ApI e wl W4 bx bc v rs x ag X v2 xA xc g1 g2 s9 s10 s11 s12) (hB : Below X.heap.size X X') : ApI e wl W4 bx bc v rs x ag X' v2 xA xc g1 g2 s9 s10 s11 s12 :=
 ⟨h.bel.trans (hB.mono h.bel.size), Nat.le_trans h.siz hB.size, h.box.call hB, fun s => (h.own s).below hB, fun s => (h.own2 s).below hB, fun s t => ((h.row s t).keep hB).mono hB.size, fun s => (h.str s).keep (fun b hb => hB.block b hb.2) (fun _ hb => ⟨hb.1, Nat.lt_of_lt_of_le hb.2 hB.size⟩), fun s t => (h.one s t).call hB, h.i11, h.i12⟩
theorem ApI.start {e : TypeId} {wl W4 : World} {bx : Nat} {bc : List Value} {v : Value} {rs : List TR} (x : Tm) (ag : List Tm) (v2 : Value) (xA : Option Addr) (xc g1 g2 : Nat) (hB : Below wl.heap.size wl W4) (hb : Bk W4 bx bc) (ho : OwnR wl.heap.size e W4 v rs) : ApI e wl W4 bx bc v rs x ag W4.drew v2 xA xc g1 g2 false false false false :=
 (⟨hB, Nat.le_refl _, hb, fun _ => ho, fun s => (by cases s), fun s => (by cases s), fun s => (by cases s), fun s => (by cases s), fun s => (by cases s), fun s => (by cases s)⟩ : ApI e wl W4 bx bc v rs x ag W4 v2 xA xc g1 g2 false false false false).call (Below.refl _ _).drew
theorem ApI.rowd {e : TypeId} {wl W4 : World} {bx : Nat} {bc : List Value} {v : Value} {rs : List TR} {x : Tm} {ag : List Tm} {X : World} {v2 : Value} {xA : Option Addr} {xc g1 g2 : Nat} {s9 s10 s11 s12 : Bool} (h : ApI e wl W4 bx bc v rs x ag X v2 xA xc g1 g2 s9 s10 s11 s12) (l : List TR) (e' : TypeId) (hl : l.map (·.1) = ag) (hm : l.length ≤ maxLen) (ha : ∀ r ∈ l, TmsAt X.heap.size X r.2.1 r.1.args) : ApI e wl W4 bx bc v rs x ag (X.alloc (.cells (rowsC l).toArray e')) v2 xA xc X.heap.size g2 true s10 s11 s12 := by
 have hB := (Below.refl X.heap.size X).alloc (Nat.le_refl _) (.cells (rowsC l).toArray e')
 have h' := h.call hB
 refine ⟨h'.bel, h'.siz, h'.box, h'.own, h'.own2, fun _ _ => ?_, h'.str, h'.one, h'.i11, h'.i12⟩
 have hr := TmsK.rows (K := fun b => b < X.heap.size + 1) (w := X) (rs := l) (e := e') (by omega) hm (fun r hr => ((ha r hr).keep hB).mono (by omega))
 rw [hl] at hr
 exact TmsK.at' hr
theorem ApI.strd {e : TypeId} {wl W4 : World} {bx : Nat} {bc : List Value} {v : Value} {rs : List TR} {x : Tm} {ag : List Tm} {X X' : World} {v2 : Value} {xA : Option Addr} {xc g1 g2 : Nat} {s9 s10 s11 s12 : Bool} (h : ApI e wl W4 bx bc v rs x ag X v2 xA xc g1 g2 s9 s10 s11 s12) (h10 : s10 = false) (yA : Option Addr) (yc : Nat) (hB : Below X.heap.size X X') (hN : NewT X X' yA x.args) : ApI e wl W4 bx bc v rs x ag X' v2 yA yc g1 g2 s9 true s11 s12 := by
 subst h10
 have h' := h.call hB
 have h11 : s11 = false := by
  cases e : s11 with
  | false => rfl
  | true => exact absurd (h.i11 e) (by simp)
 have h12 : s12 = false := by
  cases e : s12 with
  | false => rfl
  | true => exact absurd (h.i12 e) (by rw [h11]; simp)
 subst h11; subst h12
 exact ⟨h'.bel, h'.siz, h'.box, h'.own, fun s => (by cases s), fun _ s => (by cases s), fun _ => hN.keep (fun _ _ => rfl) (fun b hb => ⟨Nat.le_trans h.siz hb.1, hb.2⟩), fun s => (by cases s), fun _ => rfl, fun s => (by cases s)⟩
theorem ApI.oned {e : TypeId} {wl W4 : World} {bx : Nat} {bc : List Value} {v : Value} {rs : List TR} {x : Tm} {ag : List Tm} {X : World} {v2 : Value} {xA : Option Addr} {xc g1 g2 : Nat} {s9 s10 s11 s12 : Bool} (h : ApI e wl W4 bx bc v rs x ag X v2 xA xc g1 g2 s9 s10 s11 s12) (h10 : s10 = true) (e' : TypeId) : ApI e wl W4 bx bc v rs x ag (X.alloc (.cells (rowC (x, xA, xc)).toArray e')) v2 xA xc g1 X.heap.size s9 s10 true s12 := by
 have h' := h.call ((Below.refl X.heap.size X).alloc (Nat.le_refl _) (.cells (rowC (x, xA, xc)).toArray e'))
 exact ⟨h'.bel, h'.siz, h'.box, h'.own, h'.own2, h'.row, h'.str, fun _ _ => Bk.new X _ e', fun _ => h10, fun _ => rfl⟩
theorem ApI.appd {e : TypeId} {wl W4 : World} {bx : Nat} {bc : List Value} {v : Value} {rs : List TR} {x : Tm} {ag : List Tm} {X X' : World} {v2 v' : Value} {xA : Option Addr} {xc g1 g2 : Nat} {s9 s10 s11 s12 : Bool} (h : ApI e wl W4 bx bc v rs x ag X v2 xA xc g1 g2 s9 s10 s11 s12) (h10 : s10 = true) (h11 : s11 = true) (h12 : s12 = false) (hv : ∀ b, v.ownBlock = some b → b < bx ∧ b < W4.heap.size) (ho : OwnR wl.heap.size e X' v' (rs ++ [(x, xA, xc)])) (hg : X.grownBy X' v.ownBlock) : ApI e wl W4 bx bc v rs x ag X' v' xA xc g1 g2 s9 s10 s11 true :=
 ⟨below_grown h.bel h.bel.size (h.own h12).own hg, Nat.le_trans h.siz hg.size, h.box.keeps (hg.block _ h.box.lt (fun e' => by have := (hv _ e'.symm).1; omega)), fun s => (by cases s), fun _ => ho, fun _ s => (by rw [h10] at s; cases s), fun s => (h.str s).keep (fun b hb => hg.block b hb.2 (fun e' => by have := (hv _ e'.symm).2; omega)) (fun b hb => ⟨hb.1, Nat.lt_of_lt_of_le hb.2 hg.size⟩), fun _ t => (by cases t), fun _ => h10, fun _ => h11⟩
theorem tyNm_small (t : Int) : (tyNm t).size ≤ 100 := by
 rcases ty_at t with ⟨h, e1, e2⟩ | ⟨h, e1, e2⟩ | rfl | rfl | rfl | rfl | rfl | rfl | rfl <;> first | (rw [e1]; decide) | decide
def opT (o : OpR) : Tm := structT ⟨#[99, 117, 114, 114, 101, 110, 116, 95, 111, 112]⟩ [.mk 1 o.prec ⟨#[]⟩ [], atomT (tyNm o.typ), atomT o.name]
def loT (sv av gv pv tv nv : Value) (g b o0 o1 o2 : Nat) (S : Nat → Bool) (e0 e1 e2 : Nat) : Act := ⟨#[sv, av, gv, .pointer (some ⟨g, 0, none⟩), undef, .pointer (some ⟨g + 1, 0, none⟩), .pointer (some ⟨g + 1 + 1, 0, none⟩), .slice none 0 0, .pointer (some ⟨g + 1 + 1 + 1, 0, none⟩), .int .i64 0, if S 9 = true then .pointer (some ⟨e0, 0, none⟩) else undef, if S 10 = true then .pointer (some ⟨e1, 0, none⟩) else undef, if S 11 = true then .pointer (some ⟨e2, 0, none⟩) else undef, undef, undef, undef, undef, undef, if S 0 = true then av else undef, if S 1 = true then .pointer (some ⟨b, o0, none⟩) else undef, if S 2 = true then pv else undef, if S 3 = true then av else undef, if S 4 = true then .pointer (some ⟨b, o1, none⟩) else undef, if S 5 = true then tv else undef, if S 6 = true then av else undef, if S 7 = true then .pointer (some ⟨b, o2, none⟩) else undef, if S 8 = true then nv else undef, undef, undef, undef, undef, undef, undef, undef, undef, undef, undef, undef, undef, undef, undef, undef, undef, undef, undef, undef, undef, undef, undef, undef, undef, undef, undef, undef, undef, undef, undef, undef, undef, undef, undef, undef, undef, undef, undef, undef, undef, undef, undef, undef, undef, undef, undef, undef, undef, undef, undef, undef, undef, undef, undef, undef, undef, undef, undef, undef, undef, undef, undef, undef, undef, undef, undef, undef, undef, undef, undef, undef, undef, undef, undef, undef, undef, undef, undef, undef, undef, undef], []⟩
end Hb
namespace Go.Proofs.YtfkhcpeahdkafaaGreat
open Go.RowKit Hb
set_option maxRecDepth 100000
theorem wp_appR {X : World} {o : Oper} {a : Act} {K : Act → World → Prop} {Q : Exit → Act → World → Prop} (s x : Operand)
  (ho : o.op = .call { callee := .builtin .append, args := #[s, x], argTypes := #[24, 24] }) (lo : Nat) (v : Value) (rs : List TR) (r : TR) (g c : Nat) (hs : a.eval s = v) (hown : OwnR lo 26 X v rs)
  (hx : a.eval x = .slice (some ⟨g, 0, none⟩) 1 c) (hg : Bk X g (rowC r)) (hr : TmsK (fun b => lo ≤ b ∧ b < X.heap.size ∧ v.ownBlock ≠ some b) X r.2.1 r.1.args) (hn : rs.length ≤ 100000) (hlo : lo ≤ X.heap.size)
  (h : ∀ v' w', OwnR lo 26 w' v' (rs ++ [r]) → X.grownBy w' v.ownBlock → K (a.put o.dst v') w') : o.wp Tryz.prog a X K Q := by
 obtain ⟨i, hi, hz0, hz1, hz2⟩ := info_parts infoTm
 refine wp_app s x 24 ho lo 26 i _ 4 56 Tryz.underlying24 hi hz0 hz1 hz2 rfl (by decide) v rs.length (rowsC rs) hs hown.own ⟨g, 0, none⟩ 1 c (rowC r) hx rfl ?_ (rowC_one _) (by unfold maxLen; omega) (by omega) hlo fun v' w' h1 h2 h3 => ?_
 ·intro j u hu
  have e1 : (⟨g, 0, none⟩ : Addr).add j = ⟨g, j, none⟩ := by unfold Addr.add; split <;> simp_all
  rw [e1]
  exact hg.c j u hu
 ·exact h v' w' (hown.snoc r hr h1 h2 h3) h2
set_option maxHeartbeats 6400000 in
theorem f_listOps_v (OA : Option Addr) (on oc : Nat) (q u : Int) (c d : Bool) (CA : Option Addr) (cn cc : Nat) (gk gn : Int) (gs : ByteArray) (AA : Option Addr) (ac : Nat) (p t n : Tm) (l : List OpR) (w : World)
  (hTab : Tab w OA on oc l) (hon : on ≤ 400) (hnm : ∀ o ∈ l, o.name.size ≤ 100) (hA : TmsAt w.heap.size w AA [p, t, n]) (hpk : p.kind = 0) (htk : t.kind = 0) (hnk : n.kind = 0) :
  Calls Tryz.prog 114 #[.agg #[.slice OA on oc, .int .i64 q, .int .i64 u, .bool c, .bool d, .slice CA cn cc], .slice AA 3 ac, .agg #[.int .i64 gk, .int .i64 gn, .string gs, .slice AA 3 ac]] w fun e w' => ∃ RA rc, e = .returned (rvS OA on oc q u c d CA cn cc RA on rc).val ∧ Below w.heap.size w w' ∧ NewT w w' RA (l.map opT) := by
 unfold rvS RV.val
 dsimp only
 have HTAB := Lib.hid hTab
 have HON := Lib.hid hon
 have HNM := Lib.hid hnm
 obtain ⟨b, off, PA, pc, e1, hb, p0, p1, p2, p3, hPA⟩ := hA.get 0 (show 0 < 3 by omega)
 obtain ⟨_, _, TA, tc, e2, _, t0, t1, t2, t3, hTA⟩ := hA.get 1 (show 1 < 3 by omega)
 obtain ⟨_, _, NA, nc, e3, _, n0, n1, n2, n3, hNA⟩ := hA.get 2 (show 2 < 3 by omega)
 subst e1
 cases e2
 cases e3
 simp only [List.getElem_cons_zero, List.getElem_cons_succ, Nat.zero_mul, Nat.add_zero, Nat.one_mul, Nat.reduceMul] at p0 p1 p2 p3 t0 t1 t2 t3 n0 n1 n2 n3 hPA hTA hNA
 have HPA := Lib.hid hPA
 have HTA := Lib.hid hTA
 have HNA := Lib.hid hNA
 have HUP : Hid (∀ W G, Below w.heap.size w W → W.heap.size = G → Calls Tryz.prog 152 #[.slice (some ⟨G, 0, none⟩) 1 1] (W.alloc (.cells #[.int .i64 p.kind, .int .i64 p.num, .string p.name, .slice PA p.args.length pc] 26)) fun e w' => e = .returned (.bool true) ∧ Below (W.alloc (.cells #[.int .i64 p.kind, .int .i64 p.num, .string p.name, .slice PA p.args.length pc] 26)).heap.size (W.alloc (.cells #[.int .i64 p.kind, .int .i64 p.num, .string p.name, .slice PA p.args.length pc] 26)) w') := Lib.hid fun W G hW hG => by
  subst hG
  have := f_unb1 p PA pc W ((HPA.out.keep hW).mono hW.size)
  rw [show (p.kind == 0) = true by rw [hpk]; rfl] at this
  exact this
 have HUT : Hid (∀ W G, Below w.heap.size w W → W.heap.size = G → Calls Tryz.prog 152 #[.slice (some ⟨G, 0, none⟩) 1 1] (W.alloc (.cells #[.int .i64 t.kind, .int .i64 t.num, .string t.name, .slice TA t.args.length tc] 26)) fun e w' => e = .returned (.bool true) ∧ Below (W.alloc (.cells #[.int .i64 t.kind, .int .i64 t.num, .string t.name, .slice TA t.args.length tc] 26)).heap.size (W.alloc (.cells #[.int .i64 t.kind, .int .i64 t.num, .string t.name, .slice TA t.args.length tc] 26)) w') := Lib.hid fun W G hW hG => by
  subst hG
  have := f_unb1 t TA tc W ((HTA.out.keep hW).mono hW.size)
  rw [show (t.kind == 0) = true by rw [htk]; rfl] at this
  exact this
 have HUN : Hid (∀ W G, Below w.heap.size w W → W.heap.size = G → Calls Tryz.prog 152 #[.slice (some ⟨G, 0, none⟩) 1 1] (W.alloc (.cells #[.int .i64 n.kind, .int .i64 n.num, .string n.name, .slice NA n.args.length nc] 26)) fun e w' => e = .returned (.bool true) ∧ Below (W.alloc (.cells #[.int .i64 n.kind, .int .i64 n.num, .string n.name, .slice NA n.args.length nc] 26)).heap.size (W.alloc (.cells #[.int .i64 n.kind, .int .i64 n.num, .string n.name, .slice NA n.args.length nc] 26)) w') := Lib.hid fun W G hW hG => by
  subst hG
  have := f_unb1 n NA nc W ((HNA.out.keep hW).mono hW.size)
  rw [show (n.kind == 0) = true by rw [hnk]; rfl] at this
  exact this
 have HBL0 : Hid (Below w.heap.size w (((((w.alloc (.cells #[.slice OA on oc, .int .i64 q, .int .i64 u, .bool c, .bool d, .slice CA cn cc] 43)).alloc (.cells #[.int .i64 gk, .int .i64 gn, .string gs, .slice (some ⟨b, off, none⟩) 3 ac] 26)).alloc (.cells #[.slice none 0 0, .int .i64 0, .int .i64 0, .bool false, .bool false, .slice none 0 0] 43)).alloc (.cells #[.int .i64 0, .int .i64 0, .string ⟨#[]⟩, .slice none 0 0] 26)))) := Lib.hid (((((Below.refl _ w).alloc (Nat.le_refl _) _).alloc (by simp) _).alloc (by simp; omega) _).alloc (by simp; omega) _)
 have HBK0 : Hid (Bks (((((w.alloc (.cells #[.slice OA on oc, .int .i64 q, .int .i64 u, .bool c, .bool d, .slice CA cn cc] 43)).alloc (.cells #[.int .i64 gk, .int .i64 gn, .string gs, .slice (some ⟨b, off, none⟩) 3 ac] 26)).alloc (.cells #[.slice none 0 0, .int .i64 0, .int .i64 0, .bool false, .bool false, .slice none 0 0] 43)).alloc (.cells #[.int .i64 0, .int .i64 0, .string ⟨#[]⟩, .slice none 0 0] 26))) [(w.heap.size + 1 + 1 + 1, [.int .i64 0, .int .i64 0, .string ⟨#[]⟩, .slice none 0 0]), (w.heap.size + 1 + 1, [.slice none 0 0, .int .i64 0, .int .i64 0, .bool false, .bool false, .slice none 0 0]), (w.heap.size + 1, [.int .i64 gk, .int .i64 gn, .string gs, .slice (some ⟨b, off, none⟩) 3 ac]), (w.heap.size, [.slice OA on oc, .int .i64 q, .int .i64 u, .bool c, .bool d, .slice CA cn cc])]) := Lib.hid (((((Bks.nil w).new [.slice OA on oc, .int .i64 q, .int .i64 u, .bool c, .bool d, .slice CA cn cc] 43 rfl).new [.int .i64 gk, .int .i64 gn, .string gs, .slice (some ⟨b, off, none⟩) 3 ac] 26 (by simp)).new [.slice none 0 0, .int .i64 0, .int .i64 0, .bool false, .bool false, .slice none 0 0] 43 (by simp)).new [.int .i64 0, .int .i64 0, .string ⟨#[]⟩, .slice none 0 0] 26 (by simp))
 clear hTab hon hnm hA hPA hTA hNA hpk htk hnk
 go_enter Tryz.func114, Tryz.ntmps114
 go_wp2_with fail
 obtain ⟨W0, HW0⟩ : ∃ W0, Hid (W0 = ((((w.alloc (.cells #[.slice OA on oc, .int .i64 q, .int .i64 u, .bool c, .bool d, .slice CA cn cc] 43)).alloc (.cells #[.int .i64 gk, .int .i64 gn, .string gs, .slice (some ⟨b, off, none⟩) 3 ac] 26)).alloc (.cells #[.slice none 0 0, .int .i64 0, .int .i64 0, .bool false, .bool false, .slice none 0 0] 43)).alloc (.cells #[.int .i64 0, .int .i64 0, .string ⟨#[]⟩, .slice none 0 0] 26))) := ⟨_, Lib.hid rfl⟩
 rw [← HW0.out] at HBL0 HBK0 ⊢
 have p0 := (HBL0.out.cell (p := ⟨b, _, none⟩) hb).trans p0
 have p1 := (HBL0.out.cell (p := ⟨b, _, none⟩) hb).trans p1
 have p2 := (HBL0.out.cell (p := ⟨b, _, none⟩) hb).trans p2
 have p3 := (HBL0.out.cell (p := ⟨b, _, none⟩) hb).trans p3
 have t0 := (HBL0.out.cell (p := ⟨b, _, none⟩) hb).trans t0
 have t1 := (HBL0.out.cell (p := ⟨b, _, none⟩) hb).trans t1
 have t2 := (HBL0.out.cell (p := ⟨b, _, none⟩) hb).trans t2
 have t3 := (HBL0.out.cell (p := ⟨b, _, none⟩) hb).trans t3
 have n0 := (HBL0.out.cell (p := ⟨b, _, none⟩) hb).trans n0
 have n1 := (HBL0.out.cell (p := ⟨b, _, none⟩) hb).trans n1
 have n2 := (HBL0.out.cell (p := ⟨b, _, none⟩) hb).trans n2
 have n3 := (HBL0.out.cell (p := ⟨b, _, none⟩) hb).trans n3
 have hb0 : b < W0.heap.size := Nat.lt_of_lt_of_le hb HBL0.out.size
 clear HW0
 rename_i K0 hK0
 refine wp_region_any (by kernel_rfl) ?_
 refine wpAny_inv (fun S a X => ∃ e0 e1 e2, SuI W0 (loT (.agg #[.slice OA on oc, .int .i64 q, .int .i64 u, .bool c, .bool d, .slice CA cn cc]) (.slice (some ⟨b, off, none⟩) 3 ac) (.agg #[.int .i64 gk, .int .i64 gn, .string gs, .slice (some ⟨b, off, none⟩) 3 ac]) (.agg #[.int .i64 p.kind, .int .i64 p.num, .string p.name, .slice PA p.args.length pc]) (.agg #[.int .i64 t.kind, .int .i64 t.num, .string t.name, .slice TA t.args.length tc]) (.agg #[.int .i64 n.kind, .int .i64 n.num, .string n.name, .slice NA n.args.length nc]) w.heap.size b off (off + 4) (off + 8)) [.int .i64 0, .int .i64 0, .string ⟨#[]⟩, .slice none 0 0] [.int .i64 p.kind, .int .i64 p.num, .string p.name, .slice PA p.args.length pc] [.int .i64 t.kind, .int .i64 t.num, .string t.name, .slice TA t.args.length tc] [.int .i64 n.kind, .int .i64 n.num, .string n.name, .slice NA n.args.length nc] S a X e0 e1 e2) (by kernel_rfl) ?step ?fin 15 (fun _ => false) _ _ (by decide) ⟨0, 0, 0, rfl, (Below.refl _ W0).drew, fun h => (by cases h), fun h => (by cases h), fun h => (by cases h), fun h => (by cases h), fun h => (by cases h), fun h => (by cases h), fun h => (by cases h), fun h => (by cases h), fun h => (by cases h)⟩
 case step =>
  rintro S j o a X ho hs hp ⟨e0, e1, e2, rfl, hB, h0, h1, h2, i0, i1, i2, n01, n02, n12⟩
  have hlt := (Array.getElem?_eq_some_iff.1 ho).1
  rcases (show j = 0 ∨ j = 1 ∨ j = 2 ∨ j = 3 ∨ j = 4 ∨ j = 5 ∨ j = 6 ∨ j = 7 ∨ j = 8 ∨ j = 9 ∨ j = 10 ∨ j = 11 ∨ j = 12 ∨ j = 13 ∨ j = 14 by
   have hlt : j < 15 := hlt
   omega) with rfl | rfl | rfl | rfl | rfl | rfl | rfl | rfl | rfl | rfl | rfl | rfl | rfl | rfl | rfl
  ·cases ho
   rw [if_pos (show Region.wanted _ _ = true from rfl)]
   refine wp_val (v := .slice (some ⟨b, off, none⟩) 3 ac) (w' := X) ?_ ⟨e0, e1, e2, rfl, hB, h0, h1, h2, i0, i1, i2, n01, n02, n12⟩
   simp [execOp, go_sem, Act.eval, loT]
  ·cases ho
   rw [if_pos (show Region.wanted _ _ = true from rfl)]
   have s0 : S 0 = true := hp ⟨0, .data⟩ (by simp) rfl
   refine wp_val (v := .pointer (some ⟨b, off, none⟩)) (w' := X) ?_ ⟨e0, e1, e2, rfl, hB, h0, h1, h2, i0, i1, i2, n01, n02, n12⟩
   simp [execOp, go_sem, Act.eval, loT, s0]
  ·cases ho
   rw [if_pos (show Region.wanted _ _ = true from rfl)]
   have s0 : S 1 = true := hp ⟨1, .data⟩ (by simp) rfl
   have c0 : X.cell? ⟨b, off, none⟩ = some (.int .i64 p.kind) := (hB.cell (p := ⟨b, _, none⟩) hb0).trans p0
   have c1 : X.cell? ⟨b, off + 1, none⟩ = some (.int .i64 p.num) := (hB.cell (p := ⟨b, _, none⟩) hb0).trans p1
   have c2 : X.cell? ⟨b, off + 2, none⟩ = some (.string p.name) := (hB.cell (p := ⟨b, _, none⟩) hb0).trans p2
   have c3 : X.cell? ⟨b, off + 3, none⟩ = some (.slice PA p.args.length pc) := (hB.cell (p := ⟨b, _, none⟩) hb0).trans p3
   refine wp_val (v := .agg #[.int .i64 p.kind, .int .i64 p.num, .string p.name, .slice PA p.args.length pc]) (w' := X) ?_ ⟨e0, e1, e2, rfl, hB, h0, h1, h2, i0, i1, i2, n01, n02, n12⟩
   simp [execOp, go_sem, Act.eval, loT, s0, c0, c1, c2, c3]
  ·cases ho
   rw [if_pos (show Region.wanted _ _ = true from rfl)]
   refine wp_val (v := .slice (some ⟨b, off, none⟩) 3 ac) (w' := X) ?_ ⟨e0, e1, e2, rfl, hB, h0, h1, h2, i0, i1, i2, n01, n02, n12⟩
   simp [execOp, go_sem, Act.eval, loT]
  ·cases ho
   rw [if_pos (show Region.wanted _ _ = true from rfl)]
   have s0 : S 3 = true := hp ⟨3, .data⟩ (by simp) rfl
   refine wp_val (v := .pointer (some ⟨b, off + 4, none⟩)) (w' := X) ?_ ⟨e0, e1, e2, rfl, hB, h0, h1, h2, i0, i1, i2, n01, n02, n12⟩
   simp [execOp, go_sem, Act.eval, loT, s0]
  ·cases ho
   rw [if_pos (show Region.wanted _ _ = true from rfl)]
   have s0 : S 4 = true := hp ⟨4, .data⟩ (by simp) rfl
   have c0 : X.cell? ⟨b, off + 4, none⟩ = some (.int .i64 t.kind) := (hB.cell (p := ⟨b, _, none⟩) hb0).trans t0
   have c1 : X.cell? ⟨b, off + 4 + 1, none⟩ = some (.int .i64 t.num) := (hB.cell (p := ⟨b, _, none⟩) hb0).trans t1
   have c2 : X.cell? ⟨b, off + 4 + 2, none⟩ = some (.string t.name) := (hB.cell (p := ⟨b, _, none⟩) hb0).trans t2
   have c3 : X.cell? ⟨b, off + 4 + 3, none⟩ = some (.slice TA t.args.length tc) := (hB.cell (p := ⟨b, _, none⟩) hb0).trans t3
   refine wp_val (v := .agg #[.int .i64 t.kind, .int .i64 t.num, .string t.name, .slice TA t.args.length tc]) (w' := X) ?_ ⟨e0, e1, e2, rfl, hB, h0, h1, h2, i0, i1, i2, n01, n02, n12⟩
   simp [execOp, go_sem, Act.eval, loT, s0, c0, c1, c2, c3]
  ·cases ho
   rw [if_pos (show Region.wanted _ _ = true from rfl)]
   refine wp_val (v := .slice (some ⟨b, off, none⟩) 3 ac) (w' := X) ?_ ⟨e0, e1, e2, rfl, hB, h0, h1, h2, i0, i1, i2, n01, n02, n12⟩
   simp [execOp, go_sem, Act.eval, loT]
  ·cases ho
   rw [if_pos (show Region.wanted _ _ = true from rfl)]
   have s0 : S 6 = true := hp ⟨6, .data⟩ (by simp) rfl
   refine wp_val (v := .pointer (some ⟨b, off + 8, none⟩)) (w' := X) ?_ ⟨e0, e1, e2, rfl, hB, h0, h1, h2, i0, i1, i2, n01, n02, n12⟩
   simp [execOp, go_sem, Act.eval, loT, s0]
  ·cases ho
   rw [if_pos (show Region.wanted _ _ = true from rfl)]
   have s0 : S 7 = true := hp ⟨7, .data⟩ (by simp) rfl
   have c0 : X.cell? ⟨b, off + 8, none⟩ = some (.int .i64 n.kind) := (hB.cell (p := ⟨b, _, none⟩) hb0).trans n0
   have c1 : X.cell? ⟨b, off + 8 + 1, none⟩ = some (.int .i64 n.num) := (hB.cell (p := ⟨b, _, none⟩) hb0).trans n1
   have c2 : X.cell? ⟨b, off + 8 + 2, none⟩ = some (.string n.name) := (hB.cell (p := ⟨b, _, none⟩) hb0).trans n2
   have c3 : X.cell? ⟨b, off + 8 + 3, none⟩ = some (.slice NA n.args.length nc) := (hB.cell (p := ⟨b, _, none⟩) hb0).trans n3
   refine wp_val (v := .agg #[.int .i64 n.kind, .int .i64 n.num, .string n.name, .slice NA n.args.length nc]) (w' := X) ?_ ⟨e0, e1, e2, rfl, hB, h0, h1, h2, i0, i1, i2, n01, n02, n12⟩
   simp [execOp, go_sem, Act.eval, loT, s0, c0, c1, c2, c3]
  ·cases ho
   rw [if_pos (show Region.wanted _ _ = true from rfl)]
   refine wp_val (v := .pointer (some ⟨X.heap.size, 0, none⟩)) (w' := X.alloc (.cells #[.int .i64 0, .int .i64 0, .string ⟨#[]⟩, .slice none 0 0] 26)) ?_ ⟨X.heap.size, e1, e2, rfl, hB.alloc hB.size _, (fun _ => ⟨hB.size, by rw [if_neg (show ¬ updF S 9 12 = true from fun h => absurd (i0 h) (by rw [hs]; simp))]; exact Bk.new X [.int .i64 0, .int .i64 0, .string ⟨#[]⟩, .slice none 0 0] 26⟩), (fun h => ⟨(h1 h).1, (h1 h).2.al _⟩), (fun h => ⟨(h2 h).1, (h2 h).2.al _⟩), (fun _ => rfl), i1, i2, (fun _ h => (Nat.ne_of_lt (h1 h).2.lt).symm), (fun _ h => (Nat.ne_of_lt (h2 h).2.lt).symm), n12⟩
   simp [execOp, go_sem]
  ·cases ho
   rw [if_pos (show Region.wanted _ _ = true from rfl)]
   refine wp_val (v := .pointer (some ⟨X.heap.size, 0, none⟩)) (w' := X.alloc (.cells #[.int .i64 0, .int .i64 0, .string ⟨#[]⟩, .slice none 0 0] 26)) ?_ ⟨e0, X.heap.size, e2, rfl, hB.alloc hB.size _, (fun h => ⟨(h0 h).1, (h0 h).2.al _⟩), (fun _ => ⟨hB.size, by rw [if_neg (show ¬ updF S 10 13 = true from fun h => absurd (i1 h) (by rw [hs]; simp))]; exact Bk.new X [.int .i64 0, .int .i64 0, .string ⟨#[]⟩, .slice none 0 0] 26⟩), (fun h => ⟨(h2 h).1, (h2 h).2.al _⟩), i0, (fun _ => rfl), i2, (fun h _ => Nat.ne_of_lt (h0 h).2.lt), n02, (fun _ h => (Nat.ne_of_lt (h2 h).2.lt).symm)⟩
   simp [execOp, go_sem]
  ·cases ho
   rw [if_pos (show Region.wanted _ _ = true from rfl)]
   refine wp_val (v := .pointer (some ⟨X.heap.size, 0, none⟩)) (w' := X.alloc (.cells #[.int .i64 0, .int .i64 0, .string ⟨#[]⟩, .slice none 0 0] 26)) ?_ ⟨e0, e1, X.heap.size, rfl, hB.alloc hB.size _, (fun h => ⟨(h0 h).1, (h0 h).2.al _⟩), (fun h => ⟨(h1 h).1, (h1 h).2.al _⟩), (fun _ => ⟨hB.size, by rw [if_neg (show ¬ updF S 11 14 = true from fun h => absurd (i2 h) (by rw [hs]; simp))]; exact Bk.new X [.int .i64 0, .int .i64 0, .string ⟨#[]⟩, .slice none 0 0] 26⟩), i0, i1, (fun _ => rfl), n01, (fun h _ => Nat.ne_of_lt (h0 h).2.lt), (fun h _ => Nat.ne_of_lt (h1 h).2.lt)⟩
   simp [execOp, go_sem]
  ·cases ho
   rw [if_pos (show Region.wanted _ _ = true from rfl)]
   have s9 : S 9 = true := hp ⟨9, .data⟩ (by simp) rfl
   have s2 : S 2 = true := hp ⟨2, .data⟩ (by simp) rfl
   have hk := (h0 s9).2
   rw [if_neg (by rw [hs]; simp)] at hk
   have z0 := hk.c 0 (.int .i64 0) rfl
   have f0 := hk.f 0
   have z1 := hk.c 1 (.int .i64 0) rfl
   have f1 := hk.f 1
   have z2 := hk.c 2 (.string ⟨#[]⟩) rfl
   have f2 := hk.f 2
   have z3 := hk.c 3 (.slice none 0 0) rfl
   have f3 := hk.f 3
   refine wp_skp (w' := ((((X.setCell ⟨e0, 0, none⟩ (.int .i64 p.kind)).setCell ⟨e0, 1, none⟩ (.int .i64 p.num)).setCell ⟨e0, 2, none⟩ (.string p.name)).setCell ⟨e0, 3, none⟩ (.slice PA p.args.length pc))) ?_ ⟨e0, e1, e2, rfl, ((((hB.setCell (p := ⟨_, _, none⟩) (h0 s9).1 _).setCell (p := ⟨_, _, none⟩) (h0 s9).1 _).setCell (p := ⟨_, _, none⟩) (h0 s9).1 _).setCell (p := ⟨_, _, none⟩) (h0 s9).1 _), (fun h => ⟨(h0 s9).1, by rw [if_pos (show updF S 12 12 = true from rfl)]; exact ((((hk.set 0 (.int .i64 p.kind)).set 1 (.int .i64 p.num)).set 2 (.string p.name)).set 3 (.slice PA p.args.length pc))⟩), (fun h => ⟨(h1 h).1, (((((h1 h).2.other ((n01 s9 h).symm) 0 _).other ((n01 s9 h).symm) 1 _).other ((n01 s9 h).symm) 2 _).other ((n01 s9 h).symm) 3 _)⟩), (fun h => ⟨(h2 h).1, (((((h2 h).2.other ((n02 s9 h).symm) 0 _).other ((n02 s9 h).symm) 1 _).other ((n02 s9 h).symm) 2 _).other ((n02 s9 h).symm) 3 _)⟩), (fun _ => s9), i1, i2, n01, n02, n12⟩
   simp [execOp, go_sem, Act.eval, loT, s9, s2, z0, z1, z2, z3, f0, f1, f2, f3]
  ·cases ho
   rw [if_pos (show Region.wanted _ _ = true from rfl)]
   have s9 : S 10 = true := hp ⟨10, .data⟩ (by simp) rfl
   have s2 : S 5 = true := hp ⟨5, .data⟩ (by simp) rfl
   have hk := (h1 s9).2
   rw [if_neg (by rw [hs]; simp)] at hk
   have z0 := hk.c 0 (.int .i64 0) rfl
   have f0 := hk.f 0
   have z1 := hk.c 1 (.int .i64 0) rfl
   have f1 := hk.f 1
   have z2 := hk.c 2 (.string ⟨#[]⟩) rfl
   have f2 := hk.f 2
   have z3 := hk.c 3 (.slice none 0 0) rfl
   have f3 := hk.f 3
   refine wp_skp (w' := ((((X.setCell ⟨e1, 0, none⟩ (.int .i64 t.kind)).setCell ⟨e1, 1, none⟩ (.int .i64 t.num)).setCell ⟨e1, 2, none⟩ (.string t.name)).setCell ⟨e1, 3, none⟩ (.slice TA t.args.length tc))) ?_ ⟨e0, e1, e2, rfl, ((((hB.setCell (p := ⟨_, _, none⟩) (h1 s9).1 _).setCell (p := ⟨_, _, none⟩) (h1 s9).1 _).setCell (p := ⟨_, _, none⟩) (h1 s9).1 _).setCell (p := ⟨_, _, none⟩) (h1 s9).1 _), (fun h => ⟨(h0 h).1, (((((h0 h).2.other (n01 h s9) 0 _).other (n01 h s9) 1 _).other (n01 h s9) 2 _).other (n01 h s9) 3 _)⟩), (fun h => ⟨(h1 s9).1, by rw [if_pos (show updF S 13 13 = true from rfl)]; exact ((((hk.set 0 (.int .i64 t.kind)).set 1 (.int .i64 t.num)).set 2 (.string t.name)).set 3 (.slice TA t.args.length tc))⟩), (fun h => ⟨(h2 h).1, (((((h2 h).2.other ((n12 s9 h).symm) 0 _).other ((n12 s9 h).symm) 1 _).other ((n12 s9 h).symm) 2 _).other ((n12 s9 h).symm) 3 _)⟩), i0, (fun _ => s9), i2, n01, n02, n12⟩
   simp [execOp, go_sem, Act.eval, loT, s9, s2, z0, z1, z2, z3, f0, f1, f2, f3]
  ·cases ho
   rw [if_pos (show Region.wanted _ _ = true from rfl)]
   have s9 : S 11 = true := hp ⟨11, .data⟩ (by simp) rfl
   have s2 : S 8 = true := hp ⟨8, .data⟩ (by simp) rfl
   have hk := (h2 s9).2
   rw [if_neg (by rw [hs]; simp)] at hk
   have z0 := hk.c 0 (.int .i64 0) rfl
   have f0 := hk.f 0
   have z1 := hk.c 1 (.int .i64 0) rfl
   have f1 := hk.f 1
   have z2 := hk.c 2 (.string ⟨#[]⟩) rfl
   have f2 := hk.f 2
   have z3 := hk.c 3 (.slice none 0 0) rfl
   have f3 := hk.f 3
   refine wp_skp (w' := ((((X.setCell ⟨e2, 0, none⟩ (.int .i64 n.kind)).setCell ⟨e2, 1, none⟩ (.int .i64 n.num)).setCell ⟨e2, 2, none⟩ (.string n.name)).setCell ⟨e2, 3, none⟩ (.slice NA n.args.length nc))) ?_ ⟨e0, e1, e2, rfl, ((((hB.setCell (p := ⟨_, _, none⟩) (h2 s9).1 _).setCell (p := ⟨_, _, none⟩) (h2 s9).1 _).setCell (p := ⟨_, _, none⟩) (h2 s9).1 _).setCell (p := ⟨_, _, none⟩) (h2 s9).1 _), (fun h => ⟨(h0 h).1, (((((h0 h).2.other (n02 h s9) 0 _).other (n02 h s9) 1 _).other (n02 h s9) 2 _).other (n02 h s9) 3 _)⟩), (fun h => ⟨(h1 h).1, (((((h1 h).2.other (n12 h s9) 0 _).other (n12 h s9) 1 _).other (n12 h s9) 2 _).other (n12 h s9) 3 _)⟩), (fun h => ⟨(h2 s9).1, by rw [if_pos (show updF S 14 14 = true from rfl)]; exact ((((hk.set 0 (.int .i64 n.kind)).set 1 (.int .i64 n.num)).set 2 (.string n.name)).set 3 (.slice NA n.args.length nc))⟩), i0, i1, (fun _ => s9), n01, n02, n12⟩
   simp [execOp, go_sem, Act.eval, loT, s9, s2, z0, z1, z2, z3, f0, f1, f2, f3]
 case fin =>
  rintro S a Y0 hall ⟨e0, e1, e2, rfl, hB, h0, h1, h2, -, -, -, n01, n02, n12⟩
  have s0 := hall 0 (show 0 < 15 by omega)
  have s1 := hall 1 (show 1 < 15 by omega)
  have s2 := hall 2 (show 2 < 15 by omega)
  have s3 := hall 3 (show 3 < 15 by omega)
  have s4 := hall 4 (show 4 < 15 by omega)
  have s5 := hall 5 (show 5 < 15 by omega)
  have s6 := hall 6 (show 6 < 15 by omega)
  have s7 := hall 7 (show 7 < 15 by omega)
  have s8 := hall 8 (show 8 < 15 by omega)
  have s9 := hall 9 (show 9 < 15 by omega)
  have s10 := hall 10 (show 10 < 15 by omega)
  have s11 := hall 11 (show 11 < 15 by omega)
  have s12 := hall 12 (show 12 < 15 by omega)
  have s13 := hall 13 (show 13 < 15 by omega)
  have s14 := hall 14 (show 14 < 15 by omega)
  have HE0 := (h0 s9).2
  have HE1 := (h1 s10).2
  have HE2 := (h2 s11).2
  rw [if_pos s12] at HE0
  rw [if_pos s13] at HE1
  rw [if_pos s14] at HE2
  have HE0 := Lib.hid HE0
  have HE1 := Lib.hid HE1
  have HE2 := Lib.hid HE2
  have le0 := (h0 s9).1
  have le1 := (h1 s10).1
  have le2 := (h2 s11).1
  have HBLX := Lib.hid (HBL0.out.trans (hB.mono HBL0.out.size))
  have HBKX := Lib.hid (HBK0.out.keep fun x hx => hB.block x.1 (HBK0.out.bk x hx).lt)
  refine hK0 _ _ ?_
  simp only [loT, s0, s1, s2, s3, s4, s5, s6, s7, s8, s9, s10, s11, if_true]
  clear hall h0 h1 h2 hB HBL0 HBK0 hK0 s0 s1 s2 s3 s4 s5 s6 s7 s8 s9 s10 s11 s12 s13 s14 p0 p1 p2 p3 t0 t1 t2 t3 n0 n1 n2 n3
  have x0 : Y0.cell? ⟨e0, 0, none⟩ = some (.int .i64 p.kind) := HE0.out.c 0 _ rfl
  have x1 : Y0.cell? ⟨e0, 1, none⟩ = some (.int .i64 p.num) := HE0.out.c 1 _ rfl
  have x2 : Y0.cell? ⟨e0, 2, none⟩ = some (.string p.name) := HE0.out.c 2 _ rfl
  have x3 : Y0.cell? ⟨e0, 3, none⟩ = some (.slice PA p.args.length pc) := HE0.out.c 3 _ rfl
  have y0 : Y0.cell? ⟨e1, 0, none⟩ = some (.int .i64 t.kind) := HE1.out.c 0 _ rfl
  have y1 : Y0.cell? ⟨e1, 1, none⟩ = some (.int .i64 t.num) := HE1.out.c 1 _ rfl
  have y2 : Y0.cell? ⟨e1, 2, none⟩ = some (.string t.name) := HE1.out.c 2 _ rfl
  have y3 : Y0.cell? ⟨e1, 3, none⟩ = some (.slice TA t.args.length tc) := HE1.out.c 3 _ rfl
  have z0 : Y0.cell? ⟨e2, 0, none⟩ = some (.int .i64 n.kind) := HE2.out.c 0 _ rfl
  have z1 : Y0.cell? ⟨e2, 1, none⟩ = some (.int .i64 n.num) := HE2.out.c 1 _ rfl
  have z2 : Y0.cell? ⟨e2, 2, none⟩ = some (.string n.name) := HE2.out.c 2 _ rfl
  have z3 : Y0.cell? ⟨e2, 3, none⟩ = some (.slice NA n.args.length nc) := HE2.out.c 3 _ rfl
  have HBLY0 := HBLX
  have HBKY0 := HBKX
  have HQ1 := Lib.hid (HUP.out Y0 _ HBLY0.out rfl)
  go_wp2_with fail
  refine HQ1.out.mono ?_; rintro e w1 ⟨rfl, hB⟩
  have hBB : Below Y0.heap.size Y0 w1 := ((Below.refl _ _).alloc (Nat.le_refl _) _).trans (hB.mono (by simp))
  have HBLw1 := Lib.hid (HBLY0.out.trans (hBB.mono HBLY0.out.size))
  have HBKw1 := Lib.hid (HBKY0.out.call hBB)
  have HT1 := Lib.hid (HE1.out.call hBB)
  have HN1 := Lib.hid (HE2.out.call hBB)
  clear hB hBB HQ1 HBLX HBKX HBLY0 HBKY0 HE0 HE1 HE2 HUP x0 x1 x2 x3 y0 y1 y2 y3 z0 z1 z2 z3
  have y0 : w1.cell? ⟨e1, 0, none⟩ = some (.int .i64 t.kind) := HT1.out.c 0 _ rfl
  have y1 : w1.cell? ⟨e1, 1, none⟩ = some (.int .i64 t.num) := HT1.out.c 1 _ rfl
  have y2 : w1.cell? ⟨e1, 2, none⟩ = some (.string t.name) := HT1.out.c 2 _ rfl
  have y3 : w1.cell? ⟨e1, 3, none⟩ = some (.slice TA t.args.length tc) := HT1.out.c 3 _ rfl
  have HQ2 := Lib.hid (HUT.out w1 _ HBLw1.out rfl)
  go_wp2_with fail
  refine HQ2.out.mono ?_; rintro e w2 ⟨rfl, hB⟩
  have hBB : Below w1.heap.size w1 w2 := ((Below.refl _ _).alloc (Nat.le_refl _) _).trans (hB.mono (by simp))
  have HBLw2 := Lib.hid (HBLw1.out.trans (hBB.mono HBLw1.out.size))
  have HBKw2 := Lib.hid (HBKw1.out.call hBB)
  have HN2 := Lib.hid (HN1.out.call hBB)
  clear hB hBB HQ2 HBLw1 HBKw1 HT1 HN1 HUT y0 y1 y2 y3
  have z0 : w2.cell? ⟨e2, 0, none⟩ = some (.int .i64 n.kind) := HN2.out.c 0 _ rfl
  have z1 : w2.cell? ⟨e2, 1, none⟩ = some (.int .i64 n.num) := HN2.out.c 1 _ rfl
  have z2 : w2.cell? ⟨e2, 2, none⟩ = some (.string n.name) := HN2.out.c 2 _ rfl
  have z3 : w2.cell? ⟨e2, 3, none⟩ = some (.slice NA n.args.length nc) := HN2.out.c 3 _ rfl
  have HQ3 := Lib.hid (HUN.out w2 _ HBLw2.out rfl)
  go_wp2_with fail
  refine HQ3.out.mono ?_; rintro e w3 ⟨rfl, hB⟩
  have hBB : Below w2.heap.size w2 w3 := ((Below.refl _ _).alloc (Nat.le_refl _) _).trans (hB.mono (by simp))
  have HBLw3 := Lib.hid (HBLw2.out.trans (hBB.mono HBLw2.out.size))
  have HBKw3 := Lib.hid (HBKw2.out.call hBB)
  clear hB hBB HQ3 HBLw2 HBKw2 HN2 HUN z0 z1 z2 z3
  have e0_0 := HBKw3.out.cell 3 0 rfl rfl
  have e0_1 := HBKw3.out.cell 3 1 rfl rfl
  have e0_2 := HBKw3.out.cell 3 2 rfl rfl
  have e0_3 := HBKw3.out.cell 3 3 rfl rfl
  have e0_4 := HBKw3.out.cell 3 4 rfl rfl
  have e0_5 := HBKw3.out.cell 3 5 rfl rfl
  have hel : w.heap.size < w3.heap.size := HBKw3.out.lt 3 rfl
  have HTB3 := Lib.hid (HTAB.out.below HBLw3.out)
  go_wp2_with fail
  go_loopw [13, 81] (fun v i wr => ∃ (k : Nat) (rs : List TR), k ≤ on ∧ i = .int .i64 k ∧ Hid (Below w3.heap.size w3 wr) ∧ Hid (OwnR w3.heap.size 26 wr v rs) ∧ Hid (rs.map (·.1) = (l.take k).map opT)) (fun _ i _ => on - (intOf i).toNat)
  case atStart => exact ⟨0, [], Nat.zero_le _, rfl, Lib.hid (Below.refl _ _), Lib.hid (OwnR.nul _ _ _), Lib.hid rfl⟩
  case round =>
   obtain ⟨k, rs, hk, rfl, HB, HO, HR⟩ := hrel
   obtain ⟨v, hvv⟩ : ∃ v, v = u13 := ⟨_, rfl⟩
   subst hvv
   by_cases hlt : k < on
   ·have hkl : k < l.length := by have := HTB3.out.len; omega
    obtain ⟨ob, oo, eA, hob, o0, o1, o2⟩ := HTB3.out.ops k hkl
    have o0 := (HB.out.cell (p := ⟨ob, _, none⟩) hob).trans o0
    have o1 := (HB.out.cell (p := ⟨ob, _, none⟩) hob).trans o1
    have o2 := (HB.out.cell (p := ⟨ob, _, none⟩) hob).trans o2
    have hobw : ob < wr.heap.size := Nat.lt_of_lt_of_le hob HB.out.size
    have hk0 : (0 : Int) ≤ (k : Int) := by omega
    have hk1 : (k : Int) < (on : Int) := by omega
    have hkm : on ≤ maxLen := by have := HON.out; unfold maxLen; omega
    have HNK := Lib.hid (HNM.out l[k] (List.getElem_mem hkl))
    obtain ⟨op, HOP⟩ : ∃ op, Hid (op = l[k]) := ⟨_, Lib.hid rfl⟩
    rw [← HOP.out] at o0 o1 o2 HNK
    cases eA
    have HTN := Lib.hid (ops_typeName op.typ (wr.alloc (.cells #[.string op.name, .int .i64 op.typ, .int .i64 op.prec] 82)))
    obtain ⟨tn, HTNE⟩ : ∃ tn, Hid (tn = tyNm op.typ) := ⟨_, Lib.hid rfl⟩
    rw [← HTNE.out] at HTN
    go_wp2_with fail
    refine HTN.out.mono ?_; rintro e w4 ⟨rfl, hB4⟩
    have HK4 : Hid (Bk w4 wr.heap.size [.string op.name, .int .i64 op.typ, .int .i64 op.prec]) := Lib.hid ((Bk.new wr [.string op.name, .int .i64 op.typ, .int .i64 op.prec] 82).call hB4)
    have hBB : Below wr.heap.size wr w4 := ((Below.refl _ _).alloc (Nat.le_refl _) _).trans (hB4.mono (by simp))
    have HB4 := Lib.hid (HB.out.trans (hBB.mono HB.out.size))
    have HO4 := Lib.hid (HO.out.below hBB)
    generalize tyOk op.typ = tk at *
    clear hB4 hBB HTN o0 o1 o2 hob hobw
    have gg0 := HK4.out.c 0 (.string op.name) rfl
    have gg1 := HK4.out.c 1 (.int .i64 op.typ) rfl
    have gg2 := HK4.out.c 2 (.int .i64 op.prec) rfl
    have hl4 := HK4.out.lt
    go_wp2_with fail
    rename_i K9 hK9
    obtain ⟨x, HXE⟩ : ∃ x, Hid (x = opT op) := ⟨_, Lib.hid rfl⟩
    have HINT : Hid (∀ W, Calls Tryz.prog 93 #[.int .i64 op.prec] W fun e w' => ∃ v, e = .returned v ∧ (v = .agg #[.int .i64 1, .int .i64 op.prec, .string ⟨#[]⟩, .slice none 0 0] ∧ Below W.heap.size W w')) := Lib.hid fun W => (t_int op.prec W).mono fun e w' h => ⟨_, h.1, rfl, h.2⟩
    have HAT1 : Hid (∀ W, Calls Tryz.prog 85 #[.string tn] W fun e w' => ∃ v, e = .returned v ∧ ((∃ A c, v = Value.agg #[.int .i64 2, .int .i64 0, .string tn, .slice A 0 c]) ∧ Below W.heap.size W w')) := Lib.hid fun W => (t_atom tn (by rw [HTNE.out]; exact tyNm_small _) W).mono fun e w' h => by
     obtain ⟨A, c, he, hB⟩ := h
     exact ⟨_, he, ⟨A, c, rfl⟩, hB⟩
    have HAT2 : Hid (∀ W, Calls Tryz.prog 85 #[.string op.name] W fun e w' => ∃ v, e = .returned v ∧ ((∃ A c, v = Value.agg #[.int .i64 2, .int .i64 0, .string op.name, .slice A 0 c]) ∧ Below W.heap.size W w')) := Lib.hid fun W => (t_atom op.name HNK.out W).mono fun e w' h => by
     obtain ⟨A, c, he, hB⟩ := h
     exact ⟨_, he, ⟨A, c, rfl⟩, hB⟩
    have HSTR : Hid (∀ W g, TmsAt W.heap.size W (some ⟨g, 0, none⟩) [.mk 1 op.prec ⟨#[]⟩ [], atomT tn, atomT op.name] → Calls Tryz.prog 159 #[.string ⟨#[99, 117, 114, 114, 101, 110, 116, 95, 111, 112]⟩, .slice (some ⟨g, 0, none⟩) 3 3] W fun e w' => ∃ v, e = .returned v ∧ ((∃ A c, v = Value.agg #[.int .i64 x.kind, .int .i64 x.num, .string x.name, .slice A x.args.length c] ∧ NewT W w' A x.args) ∧ Below W.heap.size W w')) := Lib.hid fun W g hT => by
     have := t_struct ⟨#[99, 117, 114, 114, 101, 110, 116, 95, 111, 112]⟩ (some ⟨g, 0, none⟩) 3 _ W (by decide) hT
     rw [HTNE.out, show structT ⟨#[99, 117, 114, 114, 101, 110, 116, 95, 111, 112]⟩ [.mk 1 op.prec ⟨#[]⟩ [], atomT (tyNm op.typ), atomT op.name] = x from HXE.out.symm] at this
     exact this.mono fun e w' h => by
      obtain ⟨A, c, he, hB, hN⟩ := h
      exact ⟨_, he, ⟨A, c, rfl, hN⟩, hB⟩
    have HVO : Hid (∀ b, v.ownBlock = some b → b < wr.heap.size ∧ b < w4.heap.size) := Lib.hid fun b e => by
     have := (HO.out.own.lt b e).2
     omega
    have HWW : Hid (w3.heap.size ≤ w4.heap.size) := Lib.hid HB4.out.size
    have HRL : Hid (rs.length ≤ 100000) := Lib.hid (by
     have := congrArg List.length HR.out
     simp at this
     have := HON.out
     omega)
    refine wp_region_any (by kernel_rfl) ?_
    refine wpAny_inv (fun S a X => ∃ (A2 : Option Addr) (c2 : Nat) (A3 : Option Addr) (c3 : Nat) (xA : Option Addr) (xc g1 g2 : Nat) (v2 v3 : Value), a = (⟨#[.agg #[.slice (some ⟨ob, oo, none⟩) on oc, .int .i64 q, .int .i64 u, .bool c, .bool d, .slice CA cn cc], .slice (some ⟨b, off, none⟩) 3 ac, .agg #[.int .i64 gk, .int .i64 gn, .string gs, .slice (some ⟨b, off, none⟩) 3 ac], .pointer (some ⟨w.heap.size, 0, none⟩), undef, .pointer (some ⟨w.heap.size + 1, 0, none⟩), .pointer (some ⟨w.heap.size + 1 + 1, 0, none⟩), .slice none 0 0, .pointer (some ⟨w.heap.size + 1 + 1 + 1, 0, none⟩), .int .i64 0, .pointer (some ⟨e0, 0, none⟩), .pointer (some ⟨e1, 0, none⟩), .pointer (some ⟨e2, 0, none⟩), if S 13 = true then v3 else v, undef, .pointer (some ⟨wr.heap.size, 0, none⟩), .string tn, .bool tk, .slice (some ⟨b, off, none⟩) 3 ac, .pointer (some ⟨b, off, none⟩), .agg #[.int .i64 p.kind, .int .i64 p.num, .string p.name, .slice PA p.args.length pc], .slice (some ⟨b, off, none⟩) 3 ac, .pointer (some ⟨b, off + 4, none⟩), .agg #[.int .i64 t.kind, .int .i64 t.num, .string t.name, .slice TA t.args.length tc], .slice (some ⟨b, off, none⟩) 3 ac, .pointer (some ⟨b, off + 8, none⟩), .agg #[.int .i64 n.kind, .int .i64 n.num, .string n.name, .slice NA n.args.length nc], .bool false, .agg #[.int .i64 p.kind, .int .i64 p.num, .string p.name, .slice PA p.args.length pc], .slice (some ⟨Y0.heap.size, 0, none⟩) 1 1, .bool true, .bool false, .bool false, undef, undef, undef, .bool false, undef, undef, undef, undef, undef, undef, undef, .bool false, .agg #[.int .i64 t.kind, .int .i64 t.num, .string t.name, .slice TA t.args.length tc], .slice (some ⟨w1.heap.size, 0, none⟩) 1 1, .bool true, .bool false, .bool false, undef, undef, undef, .bool false, undef, undef, undef, undef, undef, undef, undef, .bool false, .agg #[.int .i64 n.kind, .int .i64 n.num, .string n.name, .slice NA n.args.length nc], .slice (some ⟨w2.heap.size, 0, none⟩) 1 1, .bool true, .bool false, .bool false, undef, undef, undef, .bool false, undef, undef, undef, undef, undef, undef, undef, .pointer (some ⟨w.heap.size, 0, none⟩), .slice (some ⟨ob, oo, none⟩) on oc, .int .i64 (on : Int), .int .i64 (k : Int), .bool true, .pointer (some ⟨ob, oo + k * 3, none⟩), .agg #[.string op.name, .int .i64 op.typ, .int .i64 op.prec], .tuple #[.string tn, .bool tk], .pointer (some ⟨wr.heap.size, 1, none⟩), .int .i64 op.typ, .tuple #[.string tn, .bool tk], .string tn, .bool tk, if S 0 = true then v else u91, if S 1 = true then .pointer (some ⟨wr.heap.size, 2, none⟩) else u92, if S 2 = true then .int .i64 op.prec else u93, if S 3 = true then .agg #[.int .i64 1, .int .i64 op.prec, .string ⟨#[]⟩, .slice none 0 0] else u94, if S 4 = true then .string tn else u95, if S 5 = true then .agg #[.int .i64 2, .int .i64 0, .string tn, .slice A2 0 c2] else u96, if S 6 = true then .pointer (some ⟨wr.heap.size, 0, none⟩) else u97, if S 7 = true then .string op.name else u98, if S 8 = true then .agg #[.int .i64 2, .int .i64 0, .string op.name, .slice A3 0 c3] else u99, if S 9 = true then .slice (some ⟨g1, 0, none⟩) 3 3 else u100, if S 10 = true then .agg #[.int .i64 x.kind, .int .i64 x.num, .string x.name, .slice xA x.args.length xc] else u101, if S 11 = true then .slice (some ⟨g2, 0, none⟩) 1 1 else u102, if S 12 = true then v2 else u103, u104, undef, undef, undef], []⟩ : Act) ∧ ApI 26 w3 w4 wr.heap.size [.string op.name, .int .i64 op.typ, .int .i64 op.prec] v rs x [.mk 1 op.prec ⟨#[]⟩ [], atomT tn, atomT op.name] X v2 xA xc g1 g2 (S 9) (S 10) (S 11) (S 12) ∧ (S 12 = true → S 0 = true) ∧ (S 13 = true → S 12 = true) ∧ (S 13 = true → v3 = v2)) (by kernel_rfl) ?step ?fin 14 (fun _ => false) _ _ (by decide) ⟨none, 0, none, 0, none, 0, 0, 0, v, v, rfl, ApI.start x _ v none 0 0 0 HB4.out HK4.out HO4.out, fun h => (by cases h), fun h => (by cases h), fun h => (by cases h)⟩
    case step =>
     rintro S j o a X ho hs hp ⟨A2, c2, A3, c3, xA, xc, g1, g2, v2, v3, rfl, hI, j12, j13, jv⟩
     have hlt : j < 14 := (Array.getElem?_eq_some_iff.1 ho).1
     rcases (show j = 0 ∨ j = 1 ∨ j = 2 ∨ j = 3 ∨ j = 4 ∨ j = 5 ∨ j = 6 ∨ j = 7 ∨ j = 8 ∨ j = 9 ∨ j = 10 ∨ j = 11 ∨ j = 12 ∨ j = 13 by omega) with rfl | rfl | rfl | rfl | rfl | rfl | rfl | rfl | rfl | rfl | rfl | rfl | rfl | rfl
     ·cases ho
      have h13 : S 13 = false := by
       cases h : S 13 with
       | false => rfl
       | true => exact absurd (j12 (j13 h)) (by rw [hs]; simp)
      rw [if_pos (show Region.wanted _ _ = true from rfl)]
      refine wp_val (v := v) (w' := X) ?_ ⟨A2, c2, A3, c3, xA, xc, g1, g2, v2, v3, rfl, hI, fun _ => rfl, j13, jv⟩
      simp [execOp, go_sem, Act.eval, h13]
     ·cases ho
      rw [if_pos (show Region.wanted _ _ = true from rfl)]
      refine wp_val (v := .pointer (some ⟨wr.heap.size, 2, none⟩)) (w' := X) ?_ ⟨A2, c2, A3, c3, xA, xc, g1, g2, v2, v3, rfl, hI, j12, j13, jv⟩
      simp [execOp, go_sem, Act.eval]
     ·cases ho
      have s1 : S 1 = true := hp ⟨1, .data⟩ (by simp) rfl
      have bc2 := hI.box.c 2 (.int .i64 op.prec) rfl
      rw [if_pos (show Region.wanted _ _ = true from rfl)]
      refine wp_val (v := .int .i64 op.prec) (w' := X) ?_ ⟨A2, c2, A3, c3, xA, xc, g1, g2, v2, v3, rfl, hI, j12, j13, jv⟩
      simp [execOp, go_sem, Act.eval, s1, bc2]
     ·cases ho
      have s2 : S 2 = true := hp ⟨2, .data⟩ (by simp) rfl
      rw [if_pos (show Region.wanted _ _ = true from rfl)]
      refine wp_cal ?_ (HINT.out X) (fun v w' hR => ?_)
      ·simp [execOp, go_sem, Act.eval, s2]
       try rfl
      ·obtain ⟨rfl, hB'⟩ := hR
       exact ⟨A2, c2, A3, c3, xA, xc, g1, g2, v2, v3, rfl, hI.call hB', j12, j13, jv⟩
     ·cases ho
      rw [if_pos (show Region.wanted _ _ = true from rfl)]
      refine wp_val (v := .string tn) (w' := X) ?_ ⟨A2, c2, A3, c3, xA, xc, g1, g2, v2, v3, rfl, hI, j12, j13, jv⟩
      simp [execOp, go_sem, Act.eval]
     ·cases ho
      have s4 : S 4 = true := hp ⟨4, .data⟩ (by simp) rfl
      rw [if_pos (show Region.wanted _ _ = true from rfl)]
      refine wp_cal ?_ (HAT1.out X) (fun v w' hR => ?_)
      ·simp [execOp, go_sem, Act.eval, s4]
       try rfl
      ·obtain ⟨⟨A', c', rfl⟩, hB'⟩ := hR
       exact ⟨A', c', A3, c3, xA, xc, g1, g2, v2, v3, rfl, hI.call hB', j12, j13, jv⟩
     ·cases ho
      rw [if_pos (show Region.wanted _ _ = true from rfl)]
      refine wp_val (v := .pointer (some ⟨wr.heap.size, 0, none⟩)) (w' := X) ?_ ⟨A2, c2, A3, c3, xA, xc, g1, g2, v2, v3, rfl, hI, j12, j13, jv⟩
      simp [execOp, go_sem, Act.eval]
     ·cases ho
      have s6 : S 6 = true := hp ⟨6, .data⟩ (by simp) rfl
      have bc0 := hI.box.c 0 (.string op.name) rfl
      rw [if_pos (show Region.wanted _ _ = true from rfl)]
      refine wp_val (v := .string op.name) (w' := X) ?_ ⟨A2, c2, A3, c3, xA, xc, g1, g2, v2, v3, rfl, hI, j12, j13, jv⟩
      simp [execOp, go_sem, Act.eval, s6, bc0]
     ·cases ho
      have s7 : S 7 = true := hp ⟨7, .data⟩ (by simp) rfl
      rw [if_pos (show Region.wanted _ _ = true from rfl)]
      refine wp_cal ?_ (HAT2.out X) (fun v w' hR => ?_)
      ·simp [execOp, go_sem, Act.eval, s7]
       try rfl
      ·obtain ⟨⟨A', c', rfl⟩, hB'⟩ := hR
       exact ⟨A2, c2, A', c', xA, xc, g1, g2, v2, v3, rfl, hI.call hB', j12, j13, jv⟩
     ·cases ho
      have s3 : S 3 = true := hp ⟨3, .data⟩ (by simp) rfl
      have s5 : S 5 = true := hp ⟨5, .data⟩ (by simp) rfl
      have s8 : S 8 = true := hp ⟨8, .data⟩ (by simp) rfl
      rw [if_pos (show Region.wanted _ _ = true from rfl)]
      refine wp_val (v := .slice (some ⟨X.heap.size, 0, none⟩) 3 3) (w' := X.alloc (.cells #[.int .i64 1, .int .i64 op.prec, .string ⟨#[]⟩, .slice none 0 0, .int .i64 2, .int .i64 0, .string tn, .slice A2 0 c2, .int .i64 2, .int .i64 0, .string op.name, .slice A3 0 c3] 26)) ?_ ⟨A2, c2, A3, c3, xA, xc, X.heap.size, g2, v2, v3, rfl, hI.rowd [(.mk 1 op.prec ⟨#[]⟩ [], none, 0), (atomT tn, A2, c2), (atomT op.name, A3, c3)] 26 rfl (by simp [maxLen]) (fun r hr => by simp only [List.mem_cons, List.mem_nil_iff, or_false] at hr; rcases hr with rfl | rfl | rfl <;> exact TmsK.nil), j12, j13, jv⟩
      simp [execOp, go_sem, Act.eval, s3, s5, s8]
     ·cases ho
      have s9 : S 9 = true := hp ⟨9, .data⟩ (by simp) rfl
      rw [if_pos (show Region.wanted _ _ = true from rfl)]
      refine wp_cal ?_ (HSTR.out X g1 (hI.row s9 hs)) (fun v w' hR => ?_)
      ·simp [execOp, go_sem, Act.eval, s9]
       try rfl
      ·obtain ⟨⟨A', c', rfl, hN⟩, hB'⟩ := hR
       exact ⟨A2, c2, A3, c3, A', c', g1, g2, v2, v3, rfl, hI.strd hs A' c' hB' hN, j12, j13, jv⟩
     ·cases ho
      have s10 : S 10 = true := hp ⟨10, .data⟩ (by simp) rfl
      rw [if_pos (show Region.wanted _ _ = true from rfl)]
      refine wp_val (v := .slice (some ⟨X.heap.size, 0, none⟩) 1 1) (w' := X.alloc (.cells #[.int .i64 x.kind, .int .i64 x.num, .string x.name, .slice xA x.args.length xc] 26)) ?_ ⟨A2, c2, A3, c3, xA, xc, g1, X.heap.size, v2, v3, rfl, hI.oned s10 26, j12, j13, jv⟩
      simp [execOp, go_sem, Act.eval, s10]
     ·cases ho
      have s0 : S 0 = true := hp ⟨0, .data⟩ (by simp) rfl
      have s11 : S 11 = true := hp ⟨11, .data⟩ (by simp) rfl
      rw [if_pos (show Region.wanted _ _ = true from rfl)]
      have h13 : S 13 = false := by
       cases h : S 13 with
       | false => rfl
       | true => exact absurd (j13 h) (by rw [hs]; simp)
      have s10 : S 10 = true := hI.i11 s11
      have hg2 := hI.one s11 hs
      refine wp_appR (.tmp 91) (.tmp 102) rfl w3.heap.size v rs (x, xA, xc) g2 1 (by simp [Act.eval, s0]) (hI.own hs) (by simp [Act.eval, s11]) hg2 ((hI.str s10).keep (fun _ _ => rfl) (fun b hb => ⟨Nat.le_trans HWW.out hb.1, hb.2, fun e => by have := (HVO.out b e).2; have := hb.1; omega⟩)) HRL.out hI.bel.size (fun v' w' ho hg => ⟨A2, c2, A3, c3, xA, xc, g1, g2, v', v3, rfl, hI.appd s10 s11 hs HVO.out ho hg, fun _ => s0, fun h => absurd (show S 13 = true from h) (by rw [h13]; simp), fun h => absurd (show S 13 = true from h) (by rw [h13]; simp)⟩)
     ·cases ho
      have s12 : S 12 = true := hp ⟨12, .data⟩ (by simp) rfl
      rw [if_pos (show Region.wanted _ _ = true from rfl)]
      refine wp_val (v := v2) (w' := X) ?_ ⟨A2, c2, A3, c3, xA, xc, g1, g2, v2, v2, rfl, hI, j12, fun _ => s12, fun _ => rfl⟩
      simp [execOp, go_sem, Act.eval, s12]
    case fin =>
     rintro S a X9 hall ⟨A2, c2, A3, c3, xA, xc, g1, g2, v2, v3, rfl, hI, -, -, jv⟩
     have s0 := hall 0 (show 0 < 14 by omega)
     have s1 := hall 1 (show 1 < 14 by omega)
     have s2 := hall 2 (show 2 < 14 by omega)
     have s3 := hall 3 (show 3 < 14 by omega)
     have s4 := hall 4 (show 4 < 14 by omega)
     have s5 := hall 5 (show 5 < 14 by omega)
     have s6 := hall 6 (show 6 < 14 by omega)
     have s7 := hall 7 (show 7 < 14 by omega)
     have s8 := hall 8 (show 8 < 14 by omega)
     have s9 := hall 9 (show 9 < 14 by omega)
     have s10 := hall 10 (show 10 < 14 by omega)
     have s11 := hall 11 (show 11 < 14 by omega)
     have s12 := hall 12 (show 12 < 14 by omega)
     have s13 := hall 13 (show 13 < 14 by omega)
     have hvv := jv s13
     subst hvv
     have HO9 := Lib.hid (hI.own2 s12)
     have HB9 := Lib.hid hI.bel
     have HR9 : Hid ((rs ++ [(x, xA, xc)]).map (·.1) = (l.take (k + 1)).map opT) := Lib.hid (by
      rw [List.map_append, HR.out, List.take_succ_eq_append_getElem hkl, List.map_append]
      simp [HXE.out, HOP.out])
     refine hK9 _ _ ?_
     simp only [s0, s1, s2, s3, s4, s5, s6, s7, s8, s9, s10, s11, s12, s13, if_true]
     clear hall hI jv hK9 s0 s1 s2 s3 s4 s5 s6 s7 s8 s9 s10 s11 s12 s13 HINT HAT1 HAT2 HSTR HVO HWW HRL HO4 HB4 HK4 HO HB HR gg0 gg1 gg2
     have hon4 := HON.out
     have hk5 : (k : Int) + 1 ≤ 400 := by omega
     go_wp2_with fail
     go_roundw
     case rel => exact ⟨k + 1, _, by omega, by go_num, HB9, HO9, HR9⟩
     case measure => simp [intOf] <;> omega
   ·have hkL : on = k := by omega
    subst hkL
    obtain ⟨RA, rc, hve, hTR⟩ := HO.out.tms
    have hrl : rs.length = on := by
     have := congrArg List.length HR.out
     rw [List.length_map, List.length_map, List.length_take] at this
     have := HTB3.out.len
     omega
    rw [hrl] at hve
    subst hve
    have hra : rs.map (·.1) = l.map opT := by rw [HR.out, show on = l.length from HTB3.out.len, List.take_length]
    rw [hra] at hTR
    have HTR := Lib.hid hTR
    have HBLr := Lib.hid (HBLw3.out.trans (HB.out.mono HBLw3.out.size))
    have HBKr : Hid (Bks wr [(w.heap.size + 1 + 1 + 1, [.int .i64 0, .int .i64 0, .string ⟨#[]⟩, .slice none 0 0]), (w.heap.size + 1 + 1, [.slice none 0 0, .int .i64 0, .int .i64 0, .bool false, .bool false, .slice none 0 0]), (w.heap.size + 1, [.int .i64 gk, .int .i64 gn, .string gs, .slice (some ⟨b, off, none⟩) 3 ac]), (w.heap.size, [.slice OA on oc, .int .i64 q, .int .i64 u, .bool c, .bool d, .slice CA cn cc])]) := Lib.hid (HBKw3.out.call HB.out)
    have HL3 : Hid (w.heap.size + 1 + 1 + 1 < w3.heap.size) := Lib.hid (HBKw3.out.lt 0 rfl)
    clear hTR hra hrl HO HB
    have f0_0 := HBKr.out.cell 3 0 rfl rfl
    have f0_1 := HBKr.out.cell 3 1 rfl rfl
    have f0_2 := HBKr.out.cell 3 2 rfl rfl
    have f0_3 := HBKr.out.cell 3 3 rfl rfl
    have f0_4 := HBKr.out.cell 3 4 rfl rfl
    have f0_5 := HBKr.out.cell 3 5 rfl rfl
    have f2_0 := HBKr.out.cell 1 0 rfl rfl
    have f2_1 := HBKr.out.cell 1 1 rfl rfl
    have f2_2 := HBKr.out.cell 1 2 rfl rfl
    have f2_3 := HBKr.out.cell 1 3 rfl rfl
    have f2_4 := HBKr.out.cell 1 4 rfl rfl
    have f2_5 := HBKr.out.cell 1 5 rfl rfl
    have f3_0 := HBKr.out.cell 0 0 rfl rfl
    have f3_1 := HBKr.out.cell 0 1 rfl rfl
    have f3_2 := HBKr.out.cell 0 2 rfl rfl
    have f3_3 := HBKr.out.cell 0 3 rfl rfl
    have f2f0 := HBKr.out.fz 1 0 rfl
    have f2f1 := HBKr.out.fz 1 1 rfl
    have f2f2 := HBKr.out.fz 1 2 rfl
    have f2f3 := HBKr.out.fz 1 3 rfl
    have f2f4 := HBKr.out.fz 1 4 rfl
    have f2f5 := HBKr.out.fz 1 5 rfl
    have f3f0 := HBKr.out.fz 0 0 rfl
    have f3f1 := HBKr.out.fz 0 1 rfl
    have f3f2 := HBKr.out.fz 0 2 rfl
    have f3f3 := HBKr.out.fz 0 3 rfl
    have f0l : w.heap.size < wr.heap.size := HBKr.out.lt 3 rfl
    have f2l : w.heap.size + 1 + 1 < wr.heap.size := HBKr.out.lt 1 rfl
    have f3l : w.heap.size + 1 + 1 + 1 < wr.heap.size := HBKr.out.lt 0 rfl
    have HBKZ : Hid (Bks (((((((((((wr.setCell ⟨w.heap.size + 1 + 1, 0, none⟩ (.slice OA on oc)).setCell ⟨w.heap.size + 1 + 1, 1, none⟩ (.int .i64 q)).setCell ⟨w.heap.size + 1 + 1, 2, none⟩ (.int .i64 u)).setCell ⟨w.heap.size + 1 + 1, 3, none⟩ (.bool c)).setCell ⟨w.heap.size + 1 + 1, 4, none⟩ (.bool d)).setCell ⟨w.heap.size + 1 + 1, 5, none⟩ (.slice CA cn cc)).setCell ⟨w.heap.size + 1 + 1 + 1, 0, none⟩ (.int .i64 0)).setCell ⟨w.heap.size + 1 + 1 + 1, 1, none⟩ (.int .i64 0)).setCell ⟨w.heap.size + 1 + 1 + 1, 2, none⟩ (.string ⟨#[]⟩)).setCell ⟨w.heap.size + 1 + 1 + 1, 3, none⟩ (.slice none 0 0))) [(w.heap.size + 1 + 1 + 1, [.int .i64 0, .int .i64 0, .string ⟨#[]⟩, .slice none 0 0]), (w.heap.size + 1 + 1, [.slice OA on oc, .int .i64 q, .int .i64 u, .bool c, .bool d, .slice CA cn cc]), (w.heap.size + 1, [.int .i64 gk, .int .i64 gn, .string gs, .slice (some ⟨b, off, none⟩) 3 ac]), (w.heap.size, [.slice OA on oc, .int .i64 q, .int .i64 u, .bool c, .bool d, .slice CA cn cc])]) := Lib.hid ((HBKr.out.set6 1 rfl (.slice OA on oc) (.int .i64 q) (.int .i64 u) (.bool c) (.bool d) (.slice CA cn cc)).set4 0 rfl (.int .i64 0) (.int .i64 0) (.string ⟨#[]⟩) (.slice none 0 0))
    have HBLZ : Hid (Below w.heap.size w (((((((((((wr.setCell ⟨w.heap.size + 1 + 1, 0, none⟩ (.slice OA on oc)).setCell ⟨w.heap.size + 1 + 1, 1, none⟩ (.int .i64 q)).setCell ⟨w.heap.size + 1 + 1, 2, none⟩ (.int .i64 u)).setCell ⟨w.heap.size + 1 + 1, 3, none⟩ (.bool c)).setCell ⟨w.heap.size + 1 + 1, 4, none⟩ (.bool d)).setCell ⟨w.heap.size + 1 + 1, 5, none⟩ (.slice CA cn cc)).setCell ⟨w.heap.size + 1 + 1 + 1, 0, none⟩ (.int .i64 0)).setCell ⟨w.heap.size + 1 + 1 + 1, 1, none⟩ (.int .i64 0)).setCell ⟨w.heap.size + 1 + 1 + 1, 2, none⟩ (.string ⟨#[]⟩)).setCell ⟨w.heap.size + 1 + 1 + 1, 3, none⟩ (.slice none 0 0)))) := Lib.hid ((((((((((HBLr.out.setCell (p := ⟨w.heap.size + 1 + 1, _, none⟩) (show w.heap.size ≤ w.heap.size + 1 + 1 by omega) _).setCell (p := ⟨w.heap.size + 1 + 1, _, none⟩) (show w.heap.size ≤ w.heap.size + 1 + 1 by omega) _).setCell (p := ⟨w.heap.size + 1 + 1, _, none⟩) (show w.heap.size ≤ w.heap.size + 1 + 1 by omega) _).setCell (p := ⟨w.heap.size + 1 + 1, _, none⟩) (show w.heap.size ≤ w.heap.size + 1 + 1 by omega) _).setCell (p := ⟨w.heap.size + 1 + 1, _, none⟩) (show w.heap.size ≤ w.heap.size + 1 + 1 by omega) _).setCell (p := ⟨w.heap.size + 1 + 1, _, none⟩) (show w.heap.size ≤ w.heap.size + 1 + 1 by omega) _).setCell (p := ⟨w.heap.size + 1 + 1 + 1, _, none⟩) (show w.heap.size ≤ w.heap.size + 1 + 1 + 1 by omega) _).setCell (p := ⟨w.heap.size + 1 + 1 + 1, _, none⟩) (show w.heap.size ≤ w.heap.size + 1 + 1 + 1 by omega) _).setCell (p := ⟨w.heap.size + 1 + 1 + 1, _, none⟩) (show w.heap.size ≤ w.heap.size + 1 + 1 + 1 by omega) _).setCell (p := ⟨w.heap.size + 1 + 1 + 1, _, none⟩) (show w.heap.size ≤ w.heap.size + 1 + 1 + 1 by omega) _)
    have hkk : ∀ k, k ≠ w.heap.size + 1 + 1 → k ≠ w.heap.size + 1 + 1 + 1 → (((((((((((wr.setCell ⟨w.heap.size + 1 + 1, 0, none⟩ (.slice OA on oc)).setCell ⟨w.heap.size + 1 + 1, 1, none⟩ (.int .i64 q)).setCell ⟨w.heap.size + 1 + 1, 2, none⟩ (.int .i64 u)).setCell ⟨w.heap.size + 1 + 1, 3, none⟩ (.bool c)).setCell ⟨w.heap.size + 1 + 1, 4, none⟩ (.bool d)).setCell ⟨w.heap.size + 1 + 1, 5, none⟩ (.slice CA cn cc)).setCell ⟨w.heap.size + 1 + 1 + 1, 0, none⟩ (.int .i64 0)).setCell ⟨w.heap.size + 1 + 1 + 1, 1, none⟩ (.int .i64 0)).setCell ⟨w.heap.size + 1 + 1 + 1, 2, none⟩ (.string ⟨#[]⟩)).setCell ⟨w.heap.size + 1 + 1 + 1, 3, none⟩ (.slice none 0 0))).heap[k]? = wr.heap[k]? := fun k h2 h3 => by
     rw [heap_setCell_other _ _ _ _ h3, heap_setCell_other _ _ _ _ h3, heap_setCell_other _ _ _ _ h3, heap_setCell_other _ _ _ _ h3, heap_setCell_other _ _ _ _ h2, heap_setCell_other _ _ _ _ h2, heap_setCell_other _ _ _ _ h2, heap_setCell_other _ _ _ _ h2, heap_setCell_other _ _ _ _ h2, heap_setCell_other _ _ _ _ h2]
    have hNZ : NewT w (((((((((((wr.setCell ⟨w.heap.size + 1 + 1, 0, none⟩ (.slice OA on oc)).setCell ⟨w.heap.size + 1 + 1, 1, none⟩ (.int .i64 q)).setCell ⟨w.heap.size + 1 + 1, 2, none⟩ (.int .i64 u)).setCell ⟨w.heap.size + 1 + 1, 3, none⟩ (.bool c)).setCell ⟨w.heap.size + 1 + 1, 4, none⟩ (.bool d)).setCell ⟨w.heap.size + 1 + 1, 5, none⟩ (.slice CA cn cc)).setCell ⟨w.heap.size + 1 + 1 + 1, 0, none⟩ (.int .i64 0)).setCell ⟨w.heap.size + 1 + 1 + 1, 1, none⟩ (.int .i64 0)).setCell ⟨w.heap.size + 1 + 1 + 1, 2, none⟩ (.string ⟨#[]⟩)).setCell ⟨w.heap.size + 1 + 1 + 1, 3, none⟩ (.slice none 0 0))) RA (l.map opT) := HTR.out.keep (fun b hb => hkk b (by have := HL3.out; omega) (by have := HL3.out; omega)) (fun b hb => ⟨by have := HL3.out; omega, by simpa using hb.2⟩)
    obtain ⟨wz, HWZ⟩ : ∃ wz, Hid (wz = ((((((((((wr.setCell ⟨w.heap.size + 1 + 1, 0, none⟩ (.slice OA on oc)).setCell ⟨w.heap.size + 1 + 1, 1, none⟩ (.int .i64 q)).setCell ⟨w.heap.size + 1 + 1, 2, none⟩ (.int .i64 u)).setCell ⟨w.heap.size + 1 + 1, 3, none⟩ (.bool c)).setCell ⟨w.heap.size + 1 + 1, 4, none⟩ (.bool d)).setCell ⟨w.heap.size + 1 + 1, 5, none⟩ (.slice CA cn cc)).setCell ⟨w.heap.size + 1 + 1 + 1, 0, none⟩ (.int .i64 0)).setCell ⟨w.heap.size + 1 + 1 + 1, 1, none⟩ (.int .i64 0)).setCell ⟨w.heap.size + 1 + 1 + 1, 2, none⟩ (.string ⟨#[]⟩)).setCell ⟨w.heap.size + 1 + 1 + 1, 3, none⟩ (.slice none 0 0))) := ⟨_, Lib.hid rfl⟩
    rw [← HWZ.out] at HBKZ HBLZ hNZ
    have HNZ := Lib.hid hNZ
    clear hNZ hkk
    go_wp2_with fail
    rw [← HWZ.out]
    have m2_0 := HBKZ.out.cell 1 0 rfl rfl
    have m2_1 := HBKZ.out.cell 1 1 rfl rfl
    have m2_2 := HBKZ.out.cell 1 2 rfl rfl
    have m2_3 := HBKZ.out.cell 1 3 rfl rfl
    have m2_4 := HBKZ.out.cell 1 4 rfl rfl
    have m2_5 := HBKZ.out.cell 1 5 rfl rfl
    have m3_0 := HBKZ.out.cell 0 0 rfl rfl
    have m3_1 := HBKZ.out.cell 0 1 rfl rfl
    have m3_2 := HBKZ.out.cell 0 2 rfl rfl
    have m3_3 := HBKZ.out.cell 0 3 rfl rfl
    exact bodyPost_ret (v := .tuple #[.agg #[.slice OA on oc, .int .i64 q, .int .i64 u, .bool c, .bool d, .slice CA cn cc], .slice RA on rc, .agg #[.int .i64 0, .int .i64 0, .string ⟨#[]⟩, .slice none 0 0], .int .i64 0]) (by simp [results, Tryz.results114, go_sem, m2_0, m2_1, m2_2, m2_3, m2_4, m2_5, m3_0, m3_1, m3_2, m3_3]) rfl ⟨RA, rc, rfl, HBLZ.out, HNZ.out⟩
end Go.Proofs.YtfkhcpeahdkafaaGreat
