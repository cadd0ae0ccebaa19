/- Flags: appending a term in a drawn region; current_op with three variables. -/
import Derived.Test.YtfkhcpeahdkafaaGreatH20
import Derived.Test.YtfkhcpeahdkafaaGreatH10
import Derived.Test.YtfkhcpeahdkafaaGreatH06
namespace Hb
open Go Go.RowKit
theorem wp_app {P : Program} {X : World} {o : Oper} {a : Act} {K : Act → World → Prop} {Q : Exit → Act → World → Prop} (s x : Operand) (t : TypeId)
  (ho : o.op = .call { callee := .builtin .append, args := #[s, x], argTypes := #[t, t] })
  (base : Nat) (e : TypeId) (i : TypeInfo) (z : Value) (size bytes : Nat) (ht : P.underlying t = some (.slice e)) (hi : P.info? e = some i) (hz : i.zero = some z)
  (hsize : i.size = size) (hby : i.bytes = bytes) (hzs : z.cells.size = size) (hsz : 0 < size)
  (v : Value) (n : Nat) (xs : List Value) (hs : a.eval s = v) (hown : X.ownsRow base e size v n xs)
  (ad : Addr) (m c : Nat) (news : List Value) (hx : a.eval x = .slice (some ad) m c) (hl : news.length = m * size) (hnews : ∀ j u, news[j]? = some u → X.cell? (ad.add j) = some u) (h1 : ∀ u ∈ news, u.oneCell' = true)
  (h63 : n + m ≤ maxLen) (hbytes : (n + m) * bytes ≤ 140737488355328) (hbase : base ≤ X.heap.size)
  (h : ∀ v' w', w'.ownsRow base e size v' (n + m) (xs ++ news) → X.grownBy w' v.ownBlock → (v'.ownBlock = v.ownBlock ∨ v'.ownBlock = some X.heap.size) → K (a.put o.dst v') w') : o.wp P a X K Q := by
 obtain ⟨v', w', hr, h2, h3, _, h5⟩ := run_append_own_at (P := P) X base t o.type e i z size bytes ht hi hz hsize hby hzs hsz v n xs hown ad m c news hl hnews h1 h63 hbytes hbase
 unfold Oper.wp execOp
 simp only [ho, resolve, invoke, builtin, Sem.run_bind, Sem.run_pure, Result.andThen_ok, List.map_toArray, List.map_cons, List.map_nil, hs, hx, hr]
 exact h v' w' h2 h3 h5
theorem below_grown {lo : Nat} {a X Y : World} {v : Value} {e size n : Nat} {xs : List Value} (h : Below lo a X) (hl : lo ≤ X.heap.size) (hown : X.ownsRow lo e size v n xs) (hg : X.grownBy Y v.ownBlock) : Below lo a Y := h.grown hg hl (fun k hk => (hown.lt k hk).1)
structure ApI (e : TypeId) (wl W4 : World) (bx : Nat) (bc : List Value) (v : Value) (rs : List TR) (x : Tm) (ag : List Tm) (X : World) (v2 : Value) (xA : Option Addr) (xc g1 g2 : Nat) (s9 s10 s11 s12 : Bool) : Prop where
 bel : Below wl.heap.size wl X
 siz : W4.heap.size ≤ X.heap.size
 box : Bk X bx bc
 own : s12 = false → OwnR wl.heap.size e X v rs
 own2 : s12 = true → OwnR wl.heap.size e X v2 (rs ++ [(x, xA, xc)])
 row : s9 = true → s10 = false → TmsAt X.heap.size X (some ⟨g1, 0, none⟩) ag
 str : s10 = true → TmsK (fun b => W4.heap.size ≤ b ∧ b < X.heap.size) X xA x.args
 one : s11 = true → s12 = false → Bk X g2 (rowC (x, xA, xc))
 i11 : s11 = true → s10 = true
 i12 : s12 = true → s11 = true
theorem ApI.call {e : TypeId} {wl W4 : World} {bx : Nat} {bc : List Value} {v : Value} {rs : List TR} {x : Tm} {ag : List Tm} {X X' : World} {v2 : Value} {xA : Option Addr} {xc g1 g2 : Nat} {s9 s10 s11 s12 : Bool} (h : ApI e wl W4 bx bc v rs x ag X v2 xA xc g1 g2 s9 s10 s11 s12) (hB : Below X.heap.size X X') : ApI e wl W4 bx bc v rs x ag X' v2 xA xc g1 g2 s9 s10 s11 s12 :=
 ⟨h.bel.trans (hB.mono h.bel.size), Nat.le_trans h.siz hB.size, h.box.call hB, fun s => (h.own s).below hB, fun s => (h.own2 s).below hB, fun s t => ((h.row s t).keep hB).mono hB.size, fun s => (h.str s).keep (fun b hb => hB.block b hb.2) (fun _ hb => ⟨hb.1, Nat.lt_of_lt_of_le hb.2 hB.size⟩), fun s t => (h.one s t).call hB, h.i11, h.i12⟩
theorem ApI.start {e : TypeId} {wl W4 : World} {bx : Nat} {bc : List Value} {v : Value} {rs : List TR} (x : Tm) (ag : List Tm) (v2 : Value) (xA : Option Addr) (xc g1 g2 : Nat) (hB : Below wl.heap.size wl W4) (hb : Bk W4 bx bc) (ho : OwnR wl.heap.size e W4 v rs) : ApI e wl W4 bx bc v rs x ag W4.drew v2 xA xc g1 g2 false false false false :=
 (⟨hB, Nat.le_refl _, hb, fun _ => ho, fun s => (by cases s), fun s => (by cases s), fun s => (by cases s), fun s => (by cases s), fun s => (by cases s), fun s => (by cases s)⟩ : ApI e wl W4 bx bc v rs x ag W4 v2 xA xc g1 g2 false false false false).call (Below.refl _ _).drew
theorem ApI.rowd {e : TypeId} {wl W4 : World} {bx : Nat} {bc : List Value} {v : Value} {rs : List TR} {x : Tm} {ag : List Tm} {X : World} {v2 : Value} {xA : Option Addr} {xc g1 g2 : Nat} {s9 s10 s11 s12 : Bool} (h : ApI e wl W4 bx bc v rs x ag X v2 xA xc g1 g2 s9 s10 s11 s12) (l : List TR) (e' : TypeId) (hl : l.map (·.1) = ag) (hm : l.length ≤ maxLen) (ha : ∀ r ∈ l, TmsAt X.heap.size X r.2.1 r.1.args) : ApI e wl W4 bx bc v rs x ag (X.alloc (.cells (rowsC l).toArray e')) v2 xA xc X.heap.size g2 true s10 s11 s12 := by
 have hB := (Below.refl X.heap.size X).alloc (Nat.le_refl _) (.cells (rowsC l).toArray e')
 have h' := h.call hB
 refine ⟨h'.bel, h'.siz, h'.box, h'.own, h'.own2, fun _ _ => ?_, h'.str, h'.one, h'.i11, h'.i12⟩
 have hr := TmsK.rows (K := fun b => b < X.heap.size + 1) (w := X) (rs := l) (e := e') (by omega) hm (fun r hr => ((ha r hr).keep hB).mono (by omega))
 rw [hl] at hr
 exact TmsK.at' hr
theorem ApI.strd {e : TypeId} {wl W4 : World} {bx : Nat} {bc : List Value} {v : Value} {rs : List TR} {x : Tm} {ag : List Tm} {X X' : World} {v2 : Value} {xA : Option Addr} {xc g1 g2 : Nat} {s9 s10 s11 s12 : Bool} (h : ApI e wl W4 bx bc v rs x ag X v2 xA xc g1 g2 s9 s10 s11 s12) (h10 : s10 = false) (yA : Option Addr) (yc : Nat) (hB : Below X.heap.size X X') (hN : NewT X X' yA x.args) : ApI e wl W4 bx bc v rs x ag X' v2 yA yc g1 g2 s9 true s11 s12 := by
 subst h10
 have h' := h.call hB
 have h11 : s11 = false := by
  cases e : s11 with
  | false => rfl
  | true => exact absurd (h.i11 e) (by simp)
 have h12 : s12 = false := by
  cases e : s12 with
  | false => rfl
  | true => exact absurd (h.i12 e) (by rw [h11]; simp)
 subst h11; subst h12
 exact ⟨h'.bel, h'.siz, h'.box, h'.own, fun s => (by cases s), fun _ s => (by cases s), fun _ => hN.keep (fun _ _ => rfl) (fun b hb => ⟨Nat.le_trans h.siz hb.1, hb.2⟩), fun s => (by cases s), fun _ => rfl, fun s => (by cases s)⟩
theorem ApI.oned {e : TypeId} {wl W4 : World} {bx : Nat} {bc : List Value} {v : Value} {rs : List TR} {x : Tm} {ag : List Tm} {X : World} {v2 : Value} {xA : Option Addr} {xc g1 g2 : Nat} {s9 s10 s11 s12 : Bool} (h : ApI e wl W4 bx bc v rs x ag X v2 xA xc g1 g2 s9 s10 s11 s12) (h10 : s10 = true) (e' : TypeId) : ApI e wl W4 bx bc v rs x ag (X.alloc (.cells (rowC (x, xA, xc)).toArray e')) v2 xA xc g1 X.heap.size s9 s10 true s12 := by
 have h' := h.call ((Below.refl X.heap.size X).alloc (Nat.le_refl _) (.cells (rowC (x, xA, xc)).toArray e'))
 exact ⟨h'.bel, h'.siz, h'.box, h'.own, h'.own2, h'.row, h'.str, fun _ _ => Bk.new X _ e', fun _ => h10, fun _ => rfl⟩
theorem ApI.appd {e : TypeId} {wl W4 : World} {bx : Nat} {bc : List Value} {v : Value} {rs : List TR} {x : Tm} {ag : List Tm} {X X' : World} {v2 v' : Value} {xA : Option Addr} {xc g1 g2 : Nat} {s9 s10 s11 s12 : Bool} (h : ApI e wl W4 bx bc v rs x ag X v2 xA xc g1 g2 s9 s10 s11 s12) (h10 : s10 = true) (h11 : s11 = true) (h12 : s12 = false) (hv : ∀ b, v.ownBlock = some b → b < bx ∧ b < W4.heap.size) (ho : OwnR wl.heap.size e X' v' (rs ++ [(x, xA, xc)])) (hg : X.grownBy X' v.ownBlock) : ApI e wl W4 bx bc v rs x ag X' v' xA xc g1 g2 s9 s10 s11 true :=
 ⟨below_grown h.bel h.bel.size (h.own h12).own hg, Nat.le_trans h.siz hg.size, h.box.keeps (hg.block _ h.box.lt (fun e' => by have := (hv _ e'.symm).1; omega)), fun s => (by cases s), fun _ => ho, fun _ s => (by rw [h10] at s; cases s), fun s => (h.str s).keep (fun b hb => hg.block b hb.2 (fun e' => by have := (hv _ e'.symm).2; omega)) (fun b hb => ⟨hb.1, Nat.lt_of_lt_of_le hb.2 hg.size⟩), fun _ t => (by cases t), fun _ => h10, fun _ => h11⟩
end Hb
namespace Go.Proofs.YtfkhcpeahdkafaaGreat
open Go.RowKit Hb
set_option maxRecDepth 100000
theorem wp_appR {X : World} {o : Oper} {a : Act} {K : Act → World → Prop} {Q : Exit → Act → World → Prop} (s x : Operand)
  (ho : o.op = .call { callee := .builtin .append, args := #[s, x], argTypes := #[24, 24] }) (lo : Nat) (v : Value) (rs : List TR) (r : TR) (g c : Nat) (hs : a.eval s = v) (hown : OwnR lo 26 X v rs)
  (hx : a.eval x = .slice (some ⟨g, 0, none⟩) 1 c) (hg : Bk X g (rowC r)) (hr : TmsK (fun b => lo ≤ b ∧ b < X.heap.size ∧ v.ownBlock ≠ some b) X r.2.1 r.1.args) (hn : rs.length ≤ 100000) (hlo : lo ≤ X.heap.size)
  (h : ∀ v' w', OwnR lo 26 w' v' (rs ++ [r]) → X.grownBy w' v.ownBlock → K (a.put o.dst v') w') : o.wp Tryz.prog a X K Q := by
 obtain ⟨i, hi, hz0, hz1, hz2⟩ := info_parts infoTm
 refine wp_app s x 24 ho lo 26 i _ 4 56 Tryz.underlying24 hi hz0 hz1 hz2 rfl (by decide) v rs.length (rowsC rs) hs hown.own ⟨g, 0, none⟩ 1 c (rowC r) hx rfl ?_ (rowC_one _) (by unfold maxLen; omega) (by omega) hlo fun v' w' h1 h2 h3 => ?_
 ·intro j u hu
  have e1 : (⟨g, 0, none⟩ : Addr).add j = ⟨g, j, none⟩ := by unfold Addr.add; split <;> simp_all
  rw [e1]
  exact hg.c j u hu
 ·exact h v' w' (hown.snoc r hr h1 h2 h3) h2
end Go.Proofs.YtfkhcpeahdkafaaGreat
