/- Flags: Names. Flags: Get. Flags: the functions that set a flag. -/
import Derived.Test.YtfkhcpeahdkafaaGreatH12
import Derived.Test.YtfkhcpeahdkafaaGreatH04
namespace Hb
open Go Go.RowKit
def OwnS (e : TypeId) (b : Nat) (w : World) (v : Value) (l : List ByteArray) : Prop := w.ownsRow b e 1 v l.length (l.map Value.string)
theorem OwnS.below {e b : Nat} {w w' : World} {v : Value} {l : List ByteArray} (h : OwnS e b w v l) (hB : Below w.heap.size w w') : OwnS e b w' v l := own_below h hB
theorem OwnS.mono {e b c : Nat} {w : World} {v : Value} {l : List ByteArray} (h : OwnS e b w v l) (hc : c ≤ b) : OwnS e c w v l := by
 refine ⟨h.1, ?_⟩
 rcases h.2 with hn | ⟨g, cap, cur, hv, hbg, rest⟩
 ·exact .inl hn
 ·exact .inr ⟨g, cap, cur, hv, Nat.le_trans hc hbg, rest⟩
theorem szA (W : World) (o : Obj) : W.heap.size + 1 = (W.alloc o).heap.size := by simp
theorem fN_take (k : Nat) (hk : k < 9) : fNmL.take (k + 1) = fNmL.take k ++ [fN k] := by
 rw [List.take_add_one, List.getElem?_eq_getElem (by show k < 9; exact hk)]
 show _ = _ ++ [fNmL.getD k _]
 rw [List.getD_eq_getElem?_getD, List.getElem?_eq_getElem (by show k < 9; exact hk)]; rfl
end Hb
namespace Go.Proofs.YtfkhcpeahdkafaaGreat
open Go.RowKit Hb
set_option maxRecDepth 100000
theorem at_appSS {ops : Array Oper} {rest : List Oper} {a : Act} {Q : Exit → Act → World → Prop} {w : World} {d t p f x g} (h : wpList Tryz.prog ops Q (⟨d, .call { callee := .builtin .append, args := x, argTypes := #[29, 29] }, t, p, f, g⟩ :: rest) a w) : wpList Tryz.prog ops Q (⟨d, .call { callee := .builtin .append, args := x, argTypes := #[29, 29] }, t, p, f, g⟩ :: rest) a w := h
set_option maxHeartbeats 3200000 in
theorem f_names (w : World) : Calls Tryz.prog 14 #[] w fun e w' => ∃ v, e = .returned v ∧ Below w.heap.size w w' ∧ OwnS 9 w.heap.size w' v fNmL := by
 go_enter Tryz.func14, Tryz.ntmps14
 go_wp2_with fail
 refine (f_table _).mono ?_; rintro e w1 ⟨g, rfl, hB1, hT1⟩
 have HB1 := Lib.hid hB1
 have HT1 := Lib.hid hT1
 have HO1 : Hid (OwnS 9 w1.heap.size w1 (.slice none 0 0) (fNmL.take 0)) := Lib.hid ⟨by simp, .inl ⟨rfl, rfl⟩⟩
 clear hB1 hT1
 go_wp2_with fail
 go_loopw [0, 5] (fun v i wr => ∃ k : Nat, k ≤ 9 ∧ i = .int .i64 k ∧ Hid (OwnS 9 w1.heap.size wr v (fNmL.take k)) ∧ Hid (Below w1.heap.size w1 wr)) (fun _ i _ => 9 - (intOf i).toNat)
 case atStart => exact ⟨0, by decide, rfl, HO1, Lib.hid (Below.refl _ _)⟩
 case round =>
  obtain ⟨k, hk, rfl, HO, HB⟩ := hrel
  by_cases hlt : k < 9
  ·obtain ⟨A, c, u, hv, c0, c1, c2, c3, c4, c5, c6, c7⟩ := (HT1.out.below HB.out).get k hlt
   have hgs := fF_cases k hlt
   obtain ⟨B, bn, bc, rfl⟩ := VRow_slice hv
   have hk0 : (0 : Int) ≤ (k : Int) := by omega
   have hk1 : (k : Int) < 9 := by omega
   have HTK := Lib.hid (fN_take k hlt)
   have HLK : Hid ((fNmL.take k).length = k) := Lib.hid (by rw [List.length_take]; show min k 9 = k; omega)
   generalize fN k = nm at *
   generalize fFx k = fx at *
   generalize fGF k = gf at *
   generalize fSF k = sf at *
   clear hv
   rcases hgs with ⟨rfl, rfl⟩ | ⟨fa, fb, rfl, rfl⟩
   all_goals
    go_wp2_with ((with_reducible refine at_appSS ?_); go_must (refine wpList_append_one rfl _ _ 29 9 rfl Tryz.underlying29 _ 1 16 infoStr rfl (by decide) w1.heap.size _ _ _ rfl _ (HO.out.below ((Below.refl wr.heap.size wr).alloc (Nat.le_refl _) _)) #[.string nm] rfl (by simp [Value.oneCell']) rfl (congrArg (fun n => Value.slice (some ⟨n, 0, none⟩) 1 1) (szA _ _)) (by rw [HLK.out]; omega) (by rw [HLK.out]; omega) (by simp; have := HB.out.size; omega) ?_; intro v3 w3 ho3 hB3 hg3; have HO3 := Lib.hid ho3; have HB3 := Lib.hid hB3; clear ho3 hB3))
    go_roundw
    case rel =>
     refine ⟨k + 1, by omega, by go_num, ?_, ?_⟩
     ·rw [HTK.out]
      refine Lib.hid ?_
      unfold OwnS
      rw [show (fNmL.take k ++ [nm]).length = (fNmL.take k).length + 1 by simp, show (fNmL.take k ++ [nm]).map Value.string = (fNmL.take k).map Value.string ++ #[Value.string nm].toList by simp]
      exact HO3.out
     ·exact Lib.hid ((HB.out.alloc HB.out.size _).trans HB3.out)
    case measure => simp [intOf] <;> omega
  ·have hk9 : k = 9 := by omega
   subst hk9
   go_wp2_with fail
   go_ret
   exact ⟨_, rfl, HB1.out.trans (HB.out.mono HB1.out.size), HO.out.mono HB1.out.size⟩
end Go.Proofs.YtfkhcpeahdkafaaGreat
namespace Go.Proofs.YtfkhcpeahdkafaaGreat
open Go.RowKit Hb
set_option maxRecDepth 100000
theorem _root_.Hb.R4.after {w0 w : World} {g : Nat} (h : R4 w0 w g) (x0 x1 x2 x3 : Value) (o : Obj) : (((((w.setCell ⟨g, 0, none⟩ x0).setCell ⟨g, 1, none⟩ x1).setCell ⟨g, 2, none⟩ x2).setCell ⟨g, 3, none⟩ x3).alloc o).cell? ⟨g, 0, none⟩ = some x0 ∧ (((((w.setCell ⟨g, 0, none⟩ x0).setCell ⟨g, 1, none⟩ x1).setCell ⟨g, 2, none⟩ x2).setCell ⟨g, 3, none⟩ x3).alloc o).cell? ⟨g, 1, none⟩ = some x1 ∧ (((((w.setCell ⟨g, 0, none⟩ x0).setCell ⟨g, 1, none⟩ x1).setCell ⟨g, 2, none⟩ x2).setCell ⟨g, 3, none⟩ x3).alloc o).cell? ⟨g, 2, none⟩ = some x2 ∧ (((((w.setCell ⟨g, 0, none⟩ x0).setCell ⟨g, 1, none⟩ x1).setCell ⟨g, 2, none⟩ x2).setCell ⟨g, 3, none⟩ x3).alloc o).cell? ⟨g, 3, none⟩ = some x3 ∧ Below w0.heap.size w0 (((((w.setCell ⟨g, 0, none⟩ x0).setCell ⟨g, 1, none⟩ x1).setCell ⟨g, 2, none⟩ x2).setCell ⟨g, 3, none⟩ x3).alloc o) := by
 have hz : ((((w.setCell ⟨g, 0, none⟩ x0).setCell ⟨g, 1, none⟩ x1).setCell ⟨g, 2, none⟩ x2).setCell ⟨g, 3, none⟩ x3).heap.size = w.heap.size := by simp
 have hp : ∀ j, (((((w.setCell ⟨g, 0, none⟩ x0).setCell ⟨g, 1, none⟩ x1).setCell ⟨g, 2, none⟩ x2).setCell ⟨g, 3, none⟩ x3).alloc o).cell? ⟨g, j, none⟩ = ((((w.setCell ⟨g, 0, none⟩ x0).setCell ⟨g, 1, none⟩ x1).setCell ⟨g, 2, none⟩ x2).setCell ⟨g, 3, none⟩ x3).cell? ⟨g, j, none⟩ := fun j => World.cell?_alloc_past o g j (by rw [hz]; exact h.lt)
 have hb := h.put x0 x1 x2 x3
 have h0 : ((((w.setCell ⟨g, 0, none⟩ x0).setCell ⟨g, 1, none⟩ x1).setCell ⟨g, 2, none⟩ x2).setCell ⟨g, 3, none⟩ x3).cell? ⟨g, 0, none⟩ = some x0 := by
  obtain ⟨y, hy⟩ := h.r0
  exact (sc_ne8 _ _ 3 0 _ (by decide)).trans ((sc_ne8 _ _ 2 0 _ (by decide)).trans ((sc_ne8 _ _ 1 0 _ (by decide)).trans (World.cell?_setCell_same _ _ _ hy)))
 have h1 : ((((w.setCell ⟨g, 0, none⟩ x0).setCell ⟨g, 1, none⟩ x1).setCell ⟨g, 2, none⟩ x2).setCell ⟨g, 3, none⟩ x3).cell? ⟨g, 1, none⟩ = some x1 := by
  obtain ⟨y, hy⟩ := sc_ex8 _ _ 0 1 _ (h.r1)
  exact (sc_ne8 _ _ 3 1 _ (by decide)).trans ((sc_ne8 _ _ 2 1 _ (by decide)).trans (World.cell?_setCell_same _ _ _ hy))
 have h2 : ((((w.setCell ⟨g, 0, none⟩ x0).setCell ⟨g, 1, none⟩ x1).setCell ⟨g, 2, none⟩ x2).setCell ⟨g, 3, none⟩ x3).cell? ⟨g, 2, none⟩ = some x2 := by
  obtain ⟨y, hy⟩ := sc_ex8 _ _ 1 2 _ (sc_ex8 _ _ 0 2 _ (h.r2))
  exact (sc_ne8 _ _ 3 2 _ (by decide)).trans (World.cell?_setCell_same _ _ _ hy)
 have h3 : ((((w.setCell ⟨g, 0, none⟩ x0).setCell ⟨g, 1, none⟩ x1).setCell ⟨g, 2, none⟩ x2).setCell ⟨g, 3, none⟩ x3).cell? ⟨g, 3, none⟩ = some x3 := by
  obtain ⟨y, hy⟩ := sc_ex8 _ _ 2 3 _ (sc_ex8 _ _ 1 3 _ (sc_ex8 _ _ 0 3 _ (h.r3)))
  exact World.cell?_setCell_same _ _ _ hy
 exact ⟨(hp 0).trans h0, (hp 1).trans h1, (hp 2).trans h2, (hp 3).trans h3, hb.alloc hb.size _⟩
structure GB (w0 : World) (f : FlR) (X : World) : Prop where
 r : R4 w0 X (w0.heap.size + 1)
 c0 : X.cell? ⟨w0.heap.size, 0, none⟩ = some (.int .i64 f.q)
 c1 : X.cell? ⟨w0.heap.size, 1, none⟩ = some (.int .i64 f.u)
 c2 : X.cell? ⟨w0.heap.size, 2, none⟩ = some (.bool f.c)
 c3 : X.cell? ⟨w0.heap.size, 3, none⟩ = some (.bool f.d)
theorem GB.call {w0 : World} {f : FlR} {X X' : World} (h : GB w0 f X) (hB : Below X.heap.size X X') : GB w0 f X' := by
 have hl : w0.heap.size < X.heap.size := Nat.lt_of_succ_lt h.r.lt
 exact ⟨h.r.call hB, (hB.cell (p := ⟨_, _, none⟩) hl).trans h.c0, (hB.cell (p := ⟨_, _, none⟩) hl).trans h.c1, (hB.cell (p := ⟨_, _, none⟩) hl).trans h.c2, (hB.cell (p := ⟨_, _, none⟩) hl).trans h.c3⟩
theorem GB.start (w : World) (f : FlR) (e1 e2 : TypeId) : GB w f ((w.alloc (.cells #[.int .i64 f.q, .int .i64 f.u, .bool f.c, .bool f.d] e1)).alloc (.cells #[.int .i64 0, .int .i64 0, .string ⟨#[]⟩, .slice none 0 0] e2)) := by
 have hr := R4.start (w0 := w) (w := w.alloc (.cells #[.int .i64 f.q, .int .i64 f.u, .bool f.c, .bool f.d] e1)) ((Below.refl _ _).alloc (Nat.le_refl _) _) (.int .i64 0) (.int .i64 0) (.string ⟨#[]⟩) (.slice none 0 0) e2
 refine ⟨by simpa using hr, ?_, ?_, ?_, ?_⟩ <;> simp [go_sem, World.cell?_alloc_past, World.cell?_alloc_at]
set_option maxHeartbeats 3200000 in
theorem f_get (f : FlR) (s : ByteArray) (w : World) : Calls Tryz.prog 16 #[flV f, .string s] w fun e w' => ∃ A' c', e = .returned (.tuple #[tmV (getT f s) A' c', .int .i64 (getE f s)]) ∧ Below w.heap.size w w' := by
 have hG0 := Lib.hid (GB.start w f 23 26)
 have HV := Lib.hid (fun W => f_valid f W)
 have HVL := Lib.hid (fun (hf : flOk f = true) (k : Nat) (hk : k < 9) A c u (W : World) (lo : Nat) (hv : VRow lo W k u) => f_value f hf k hk A c u W hv)
 have HE0 : Hid (∀ A' c', tmV tm0 A' c' = .agg #[.int .i64 0, .int .i64 0, .string ⟨#[]⟩, .slice A' 0 c']) := Lib.hid fun _ _ => rfl
 have HR : Hid (getT f s = if flOk f = true then (if fIx s < 9 then fVal f (fIx s) else tm0) else tm0) := Lib.hid rfl
 have HRE : Hid (getE f s = if flOk f = true then (if fIx s < 9 then 0 else 4) else 1) := Lib.hid rfl
 have HFB : Hid (∀ X, GB w f X → X.cell? ⟨w.heap.size, 0, none⟩ = some (.int .i64 f.q) ∧ X.cell? ⟨w.heap.size, 1, none⟩ = some (.int .i64 f.u) ∧ X.cell? ⟨w.heap.size, 2, none⟩ = some (.bool f.c) ∧ X.cell? ⟨w.heap.size, 3, none⟩ = some (.bool f.d)) := Lib.hid fun X h => ⟨h.c0, h.c1, h.c2, h.c3⟩
 have HFV : Hid (flV f = .agg #[.int .i64 f.q, .int .i64 f.u, .bool f.c, .bool f.d]) := Lib.hid rfl
 rw [HFV.out] at HV HVL
 rw [HFV.out]
 generalize f.q = q at *
 generalize f.u = u at *
 generalize f.c = cc at *
 generalize f.d = dd at *
 go_enter Tryz.func16, Tryz.ntmps16
 go_wp2_with fail
 refine (HV.out _).mono ?_; rintro e w1 ⟨rfl, hB1⟩
 have HG1 := Lib.hid (hG0.out.call hB1)
 obtain ⟨b0, b1, b2, b3⟩ := HFB.out _ HG1.out
 clear hG0 hB1
 by_cases hf : flOk f = true
 ·rw [hf]
  go_wp2_with fail
  refine (f_find s _).mono ?_; rintro e w2 ⟨⟨v, rfl, hv1, hv2⟩, hB2⟩
  have HG2 := Lib.hid (HG1.out.call hB2)
  obtain ⟨d0, d1, d2, d3⟩ := HFB.out _ HG2.out
  have hlt1 : w.heap.size + 1 < w2.heap.size := HG2.out.r.lt
  have hlt2 : w.heap.size < w2.heap.size := Nat.lt_of_succ_lt HG2.out.r.lt
  clear hB2
  by_cases hix : fIx s < 9
  ·obtain ⟨A, c, u', rfl, hv⟩ := hv1 hix
   have HRR : Hid (getT f s = fVal f (fIx s) ∧ getE f s = 0) := Lib.hid ⟨by rw [HR.out, if_pos hf, if_pos hix], by rw [HRE.out, if_pos hf, if_pos hix]⟩
   have hgs := fF_cases _ hix
   obtain ⟨B, bn, bc, rfl⟩ := VRow_slice hv
   have hdt : decide (fIx s < 9) = true := decide_eq_true hix
   rw [hdt]
   have HVC := Lib.hid (fun W (h : Below w2.heap.size w2 W) => HVL.out hf (fIx s) hix A c (.slice B bn bc) W _ (hv.below h))
   clear HVL HV hv hdt hv1 hv2
   unfold flagV at HVC ⊢
   generalize fN (fIx s) = nm at *
   generalize fFx (fIx s) = fx at *
   generalize fGF (fIx s) = gf at *
   generalize fSF (fIx s) = sf at *
   generalize fVal f (fIx s) = vt at *
   clear HR HRE
   rcases hgs with ⟨rfl, rfl⟩ | ⟨fa, fb, rfl, rfl⟩
   all_goals
    go_wp2_with fail
    refine (HVC.out _ ((Below.refl w2.heap.size w2).alloc (Nat.le_refl _) _)).mono ?_; rintro e w3 ⟨A3, c3, rfl, hB3⟩
    have HG3 := HG2.out.call (((Below.refl w2.heap.size w2).alloc (Nat.le_refl _) _).trans (hB3.mono (by simp)))
    clear HG2 HG1
    obtain ⟨u0, r0⟩ := HG3.r.r0
    obtain ⟨u1, r1⟩ := HG3.r.r1
    obtain ⟨u2, r2⟩ := HG3.r.r2
    obtain ⟨u3, r3⟩ := HG3.r.r3
    have f0 := HG3.r.fr 0
    have f1 := HG3.r.fr 1
    have f2 := HG3.r.fr 2
    have f3 := HG3.r.fr 3
    have HP := Lib.hid (HG3.r.put (.int .i64 vt.kind) (.int .i64 vt.num) (.string vt.name) (.slice A3 vt.args.length c3))
    clear HG3 hB3 HVC
    unfold tmV
    go_wp2_with fail
    exact bodyPost_ret (v := .tuple #[.agg #[.int .i64 vt.kind, .int .i64 vt.num, .string vt.name, .slice A3 vt.args.length c3], .int .i64 0]) (by simp [results, Tryz.results16, go_sem, r0, r1, r2, r3]) rfl ⟨A3, c3, by rw [HRR.out.1, HRR.out.2]; rfl, HP.out⟩
  ·have hv := hv2 hix
   subst hv
   have HRR : Hid (getT f s = tm0 ∧ getE f s = 4) := Lib.hid ⟨by rw [HR.out, if_pos hf, if_neg hix], by rw [HRE.out, if_pos hf, if_neg hix]⟩
   rw [decide_eq_false hix]
   clear HR HRE hv1 hv2 HVL HV
   unfold flagZ
   obtain ⟨u0, r0⟩ := HG2.out.r.r0
   obtain ⟨u1, r1⟩ := HG2.out.r.r1
   obtain ⟨u2, r2⟩ := HG2.out.r.r2
   obtain ⟨u3, r3⟩ := HG2.out.r.r3
   have f0 := HG2.out.r.fr 0
   have f1 := HG2.out.r.fr 1
   have f2 := HG2.out.r.fr 2
   have f3 := HG2.out.r.fr 3
   obtain ⟨q0, q1, q2, q3, hP⟩ := HG2.out.r.after (.int .i64 0) (.int .i64 0) (.string ⟨#[]⟩) (.slice none 0 0) (.cells #[.string ⟨#[]⟩, .int .i64 0, .int .i64 0, .string ⟨#[]⟩, .slice none 0 0, .slice none 0 0, .nilFunc, .nilFunc] 72)
   have HP := Lib.hid hP
   clear hP HG2 HG1
   go_wp2_with fail
   exact bodyPost_ret (v := .tuple #[.agg #[.int .i64 0, .int .i64 0, .string ⟨#[]⟩, .slice none 0 0], .int .i64 4]) (by simp [results, Tryz.results16, go_sem, q0, q1, q2, q3]) rfl ⟨none, 0, by rw [HRR.out.1, HRR.out.2]; rfl, HP.out⟩
 ·have hf' : flOk f = false := by simpa using hf
  have HRR : Hid (getT f s = tm0 ∧ getE f s = 1) := Lib.hid ⟨by rw [HR.out, if_neg hf], by rw [HRE.out, if_neg hf]⟩
  rw [hf']
  have HG3 := HG1.out
  obtain ⟨u0, r0⟩ := HG3.r.r0
  obtain ⟨u1, r1⟩ := HG3.r.r1
  obtain ⟨u2, r2⟩ := HG3.r.r2
  obtain ⟨u3, r3⟩ := HG3.r.r3
  have f0 := HG3.r.fr 0
  have f1 := HG3.r.fr 1
  have f2 := HG3.r.fr 2
  have f3 := HG3.r.fr 3
  have HP := Lib.hid (HG3.r.put (.int .i64 0) (.int .i64 0) (.string ⟨#[]⟩) (.slice none 0 0))
  clear HG3 HG1 HR HRE HVL HV
  go_wp2_with fail
  exact bodyPost_ret (v := .tuple #[.agg #[.int .i64 0, .int .i64 0, .string ⟨#[]⟩, .slice none 0 0], .int .i64 1]) (by simp [results, Tryz.results16, go_sem, r0, r1, r2, r3]) rfl ⟨none, 0, by rw [HRR.out.1, HRR.out.2]; rfl, HP.out⟩
end Go.Proofs.YtfkhcpeahdkafaaGreat
namespace Go.Proofs.YtfkhcpeahdkafaaGreat
open Go.RowKit Hb
set_option maxRecDepth 100000
theorem fset_1 (g : Nat) (i : Int) (y : Value) (W : World) (hc : W.cell? ⟨g, 2, none⟩ = some y) (hf : W.frozen? ⟨g, 2, none⟩ = false) : Calls Tryz.prog 88 #[.pointer (some ⟨g, 0, none⟩), .int .i64 i] W fun e w' => e = .returned (.tuple #[]) ∧ w' = W.setCell ⟨g, 2, none⟩ (.bool (i == 1)) := by
 go_enter Tryz.func88, Tryz.ntmps88
 go_wp2_with fail
 go_end0
 exact ⟨rfl, rfl⟩
theorem fset_2 (g : Nat) (i : Int) (y : Value) (W : World) (hc : W.cell? ⟨g, 3, none⟩ = some y) (hf : W.frozen? ⟨g, 3, none⟩ = false) : Calls Tryz.prog 90 #[.pointer (some ⟨g, 0, none⟩), .int .i64 i] W fun e w' => e = .returned (.tuple #[]) ∧ w' = W.setCell ⟨g, 3, none⟩ (.bool (i == 1)) := by
 go_enter Tryz.func90, Tryz.ntmps90
 go_wp2_with fail
 go_end0
 exact ⟨rfl, rfl⟩
theorem fset_3 (g : Nat) (i : Int) (y : Value) (W : World) (h0 : 0 ≤ i) (h1 : i ≤ 100) (hc : W.cell? ⟨g, 0, none⟩ = some y) (hf : W.frozen? ⟨g, 0, none⟩ = false) : Calls Tryz.prog 92 #[.pointer (some ⟨g, 0, none⟩), .int .i64 i] W fun e w' => e = .returned (.tuple #[]) ∧ w' = W.setCell ⟨g, 0, none⟩ (.int .i64 (i + 1)) := by
 go_enter Tryz.func92, Tryz.ntmps92
 go_wp2_with fail
 go_end0
 exact ⟨rfl, rfl⟩
theorem fset_8 (g : Nat) (i : Int) (y : Value) (W : World) (h0 : 0 ≤ i) (h1 : i ≤ 100) (hc : W.cell? ⟨g, 1, none⟩ = some y) (hf : W.frozen? ⟨g, 1, none⟩ = false) : Calls Tryz.prog 95 #[.pointer (some ⟨g, 0, none⟩), .int .i64 i] W fun e w' => e = .returned (.tuple #[]) ∧ w' = W.setCell ⟨g, 1, none⟩ (.int .i64 (i + 1)) := by
 go_enter Tryz.func95, Tryz.ntmps95
 go_wp2_with fail
 go_end0
 exact ⟨rfl, rfl⟩
end Go.Proofs.YtfkhcpeahdkafaaGreat
