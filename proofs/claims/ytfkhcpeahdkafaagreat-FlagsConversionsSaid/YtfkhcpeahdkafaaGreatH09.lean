/- Flags: the check of op's arguments, where nothing is wrong. -/
import Derived.Test.YtfkhcpeahdkafaaGreatH08
namespace Hb
open Go Go.RowKit
def ckB (g : Nat) (pv tv nv : List Value) : List (Nat × List Value) := [(g + 1 + 1 + 1 + 1, [.bool false]), (g + 1 + 1 + 1, [.int .i64 0, .int .i64 0, .string ⟨#[]⟩, .slice none 0 0]), (g + 1 + 1, nv), (g + 1, tv), (g, pv)]
structure ChkOk (p t n : Tm) : Prop where
 v1 : anyVar [p, t, tailT n] = false
 v2 : (isNilT (tailT n) && anyVar (elemsT n)) = false
 ta : isAtomT t = true
 na : (isAtomT n || isNilT (tailT n)) = true
 all : ∀ x ∈ nmL n, isAtomT x = true
 pr : isPrioT p = true
 ty : isTypeT t = true
end Hb
namespace Go.Proofs.YtfkhcpeahdkafaaGreat
open Go.RowKit Hb Go.Shelf
attribute [local go_sem] Oper.semAt_some
set_option maxRecDepth 100000
set_option maxHeartbeats 3200000 in
theorem f_checkOps (p t n : Tm) (PA TA NA : Option Addr) (pc tc nc : Nat) (w : World) (hv : validT n = true) (hP : TmsAt w.heap.size w PA p.args) (hT : TmsAt w.heap.size w TA t.args) (hN : TmsAt w.heap.size w NA n.args) (hok : ChkOk p t n) :
  Calls Tryz.prog 145 #[tmV p PA pc, tmV t TA tc, tmV n NA nc] w fun e w' => e = .returned (.tuple #[.agg #[.int .i64 0, .int .i64 0, .string ⟨#[]⟩, .slice none 0 0], .bool true]) ∧ Below w.heap.size w w' := by
 have HOK := Lib.hid hok
 have HVN := Lib.hid hv
 have HPA := Lib.hid hP
 have HTA := Lib.hid hT
 have HNA := Lib.hid hN
 have hpk : p.kind = 1 := by
  have := hok.pr
  unfold isPrioT at this
  rw [Bool.and_eq_true] at this
  simpa using this.1
 clear hok hv hP hT hN
 obtain ⟨pk, pn, ps, pl⟩ := p
 have hpk : pk = 1 := hpk
 subst hpk
 have HBL : Hid (Below w.heap.size w (((((w.alloc (.cells #[.int .i64 1, .int .i64 pn, .string ps, .slice PA pl.length pc] 26)).alloc (.cells #[.int .i64 t.kind, .int .i64 t.num, .string t.name, .slice TA t.args.length tc] 26)).alloc (.cells #[.int .i64 n.kind, .int .i64 n.num, .string n.name, .slice NA n.args.length nc] 26)).alloc (.cells #[.int .i64 0, .int .i64 0, .string ⟨#[]⟩, .slice none 0 0] 26)).alloc (.cells #[.bool false] 4))) := Lib.hid (((((Below.refl _ w).alloc (Nat.le_refl _) _).alloc (by simp) _).alloc (by simp; omega) _).alloc (by simp; omega) _ |>.alloc (by simp; omega) _)
 have HBK : Hid (Bks (((((w.alloc (.cells #[.int .i64 1, .int .i64 pn, .string ps, .slice PA pl.length pc] 26)).alloc (.cells #[.int .i64 t.kind, .int .i64 t.num, .string t.name, .slice TA t.args.length tc] 26)).alloc (.cells #[.int .i64 n.kind, .int .i64 n.num, .string n.name, .slice NA n.args.length nc] 26)).alloc (.cells #[.int .i64 0, .int .i64 0, .string ⟨#[]⟩, .slice none 0 0] 26)).alloc (.cells #[.bool false] 4)) (ckB w.heap.size [.int .i64 1, .int .i64 pn, .string ps, .slice PA pl.length pc] [.int .i64 t.kind, .int .i64 t.num, .string t.name, .slice TA t.args.length tc] [.int .i64 n.kind, .int .i64 n.num, .string n.name, .slice NA n.args.length nc])) := Lib.hid ((((((Bks.nil w).new [.int .i64 1, .int .i64 pn, .string ps, .slice PA pl.length pc] 26 rfl).new [.int .i64 t.kind, .int .i64 t.num, .string t.name, .slice TA t.args.length tc] 26 (by simp)).new [.int .i64 n.kind, .int .i64 n.num, .string n.name, .slice NA n.args.length nc] 26 (by simp)).new [.int .i64 0, .int .i64 0, .string ⟨#[]⟩, .slice none 0 0] 26 (by simp)).new [.bool false] 4 (by simp))
 have HEL : Hid (∀ (W : World), Below w.heap.size w W → Calls Tryz.prog 184 #[.agg #[.int .i64 n.kind, .int .i64 n.num, .string n.name, .slice NA n.args.length nc]] W fun e w' => ∃ A1 c1 A2 c2, e = .returned (.tuple #[.slice A1 (elemsT n).length c1, tmV (tailT n) A2 c2]) ∧ Below W.heap.size W w' ∧ NewT W w' A1 (elemsT n) ∧ NewT W w' A2 (tailT n).args) := Lib.hid fun W hW => t_elems n NA nc W ((HNA.out.keep hW).mono hW.size) HVN.out
 have HIAT : Hid (∀ W, Calls Tryz.prog 156 #[.agg #[.int .i64 t.kind, .int .i64 t.num, .string t.name, .slice TA t.args.length tc]] W fun e w' => e = .returned (.bool true) ∧ Below W.heap.size W w') := Lib.hid fun W => by have := f_isAtom t TA tc W; rwa [HOK.out.ta] at this
 have HIAN : Hid (∀ W, Calls Tryz.prog 156 #[.agg #[.int .i64 n.kind, .int .i64 n.num, .string n.name, .slice NA n.args.length nc]] W fun e w' => e = .returned (.bool (isAtomT n)) ∧ Below W.heap.size W w') := Lib.hid fun W => f_isAtom n NA nc W
 have HPRI : Hid (∀ W, Calls Tryz.prog 153 #[.agg #[.int .i64 1, .int .i64 pn, .string ps, .slice PA pl.length pc]] W fun e w' => e = .returned (.bool true) ∧ Below W.heap.size W w') := Lib.hid fun W => by have := f_isPriority (.mk 1 pn ps pl) PA pc W; rwa [HOK.out.pr] at this
 have HTYP : Hid (∀ W, Calls Tryz.prog 155 #[.agg #[.int .i64 t.kind, .int .i64 t.num, .string t.name, .slice TA t.args.length tc]] W fun e w' => e = .returned (.bool true) ∧ Below W.heap.size W w') := Lib.hid fun W => by have := f_isType t TA tc W; rwa [HOK.out.ty] at this
 have HSEQ : Hid (∀ W, Calls Tryz.prog 148 #[.agg #[.int .i64 n.kind, .int .i64 n.num, .string n.name, .slice NA n.args.length nc]] W fun e w' => e = .returned (.func (.func 186) #[] #[.pointer (some ⟨W.heap.size, 0, none⟩)]) ∧ TBx w' W.heap.size n NA nc ∧ w' = W.alloc (.cells #[.int .i64 n.kind, .int .i64 n.num, .string n.name, .slice NA n.args.length nc] 26)) := Lib.hid fun W => f_nameSeq n NA nc W
 refine (callsIn_wide (n := 8)).1 ?_
 refine callsIn_of_wp_marks Tryz.func145 rfl trivial ?_ rfl
 rw [show tmV (.mk 1 pn ps pl) PA pc = .agg #[.int .i64 1, .int .i64 pn, .string ps, .slice PA pl.length pc] from rfl]
 unfold tmV
 simp only [Tryz.ntmps145, List.size_toArray, List.length_cons, List.length_nil, Nat.reduceAdd, Nat.reduceSub, Array.replicate_succ, Array.replicate_zero, List.push_toArray, List.append_toArray, List.nil_append, List.cons_append]
 gi_wp2
 refine ⟨trivial, (callsIn_wide.2 (HEL.out _ HBL.out)).mono ?_⟩
 rintro e w1 ⟨A1, k1, EA, ec, rfl, hB1, hN1, hN2⟩
 have HBL1 := Lib.hid (HBL.out.trans (hB1.mono HBL.out.size))
 have HBK1 := Lib.hid (HBK.out.call hB1)
 have HR1 := Lib.hid hN1
 have HR2 := Lib.hid hN2
 clear HEL HBK HBL hN1 hN2
 have bp_0 := HBK1.out.cell 4 0 rfl rfl
 have bp_1 := HBK1.out.cell 4 1 rfl rfl
 have bp_2 := HBK1.out.cell 4 2 rfl rfl
 have bp_3 := HBK1.out.cell 4 3 rfl rfl
 have bt_0 := HBK1.out.cell 3 0 rfl rfl
 have bt_1 := HBK1.out.cell 3 1 rfl rfl
 have bt_2 := HBK1.out.cell 3 2 rfl rfl
 have bt_3 := HBK1.out.cell 3 3 rfl rfl
 have bn_0 := HBK1.out.cell 2 0 rfl rfl
 have bn_1 := HBK1.out.cell 2 1 rfl rfl
 have bn_2 := HBK1.out.cell 2 2 rfl rfl
 have bn_3 := HBK1.out.cell 2 3 rfl rfl
 have lp := HBK1.out.lt 4 rfl
 have lt := HBK1.out.lt 3 rfl
 have ln := HBK1.out.lt 2 rfl
 obtain ⟨ta, HTE⟩ : ∃ ta, Hid (ta = tailT n) := ⟨_, Lib.hid rfl⟩
 rw [← HTE.out] at HR2 ⊢
 obtain ⟨NL, HNL⟩ : ∃ NL, Hid (NL = (elemsT n).length) := ⟨_, Lib.hid rfl⟩
 rw [← HNL.out]
 unfold tmV
 have HIN := Lib.hid (f_isNil ta EA ec (w1.alloc (.cells #[.int .i64 ta.kind, .int .i64 ta.num, .string ta.name, .slice EA ta.args.length ec] 26)))
 have HV2 := Lib.hid HOK.out.v2
 have HNAI := Lib.hid HOK.out.na
 rw [← HTE.out] at HV2 HNAI
 obtain ⟨nl, HNLT⟩ : ∃ nl, Hid (nl = isNilT ta) := ⟨_, Lib.hid rfl⟩
 obtain ⟨ian, HIANE⟩ : ∃ ian, Hid (ian = isAtomT n) := ⟨_, Lib.hid rfl⟩
 rw [← HNLT.out] at HIN HV2 HNAI
 rw [← HIANE.out] at HIAN HNAI
 gi_wp2
 refine ⟨trivial, (callsIn_wide.2 HIN.out).mono ?_⟩
 rintro e w2 ⟨rfl, hB2⟩
 have hB12 : Below w1.heap.size w1 w2 := ((Below.refl w1.heap.size w1).alloc (Nat.le_refl _) _).trans (hB2.mono (by simp))
 have HBL2 := Lib.hid (HBL1.out.trans (hB12.mono HBL1.out.size))
 have HBK2 := Lib.hid ((HBK1.out.new [.int .i64 ta.kind, .int .i64 ta.num, .string ta.name, .slice EA ta.args.length ec] 26 rfl).call hB2)
 have HR1b := Lib.hid (HR1.out.keep (fun b hb => hB12.block b hb.2) (fun b hb => Nat.lt_of_lt_of_le hb.2 hB12.size))
 have HR2b := Lib.hid (HR2.out.keep (fun b hb => hB12.block b hb.2) (fun b hb => Nat.lt_of_lt_of_le hb.2 hB12.size))
 have hsz2 := hB2.size
 rw [World.size_alloc] at hsz2
 have cp_0 := HBK2.out.cell 5 0 rfl rfl
 have cp_1 := HBK2.out.cell 5 1 rfl rfl
 have cp_2 := HBK2.out.cell 5 2 rfl rfl
 have cp_3 := HBK2.out.cell 5 3 rfl rfl
 have ct_0 := HBK2.out.cell 4 0 rfl rfl
 have ct_1 := HBK2.out.cell 4 1 rfl rfl
 have ct_2 := HBK2.out.cell 4 2 rfl rfl
 have ct_3 := HBK2.out.cell 4 3 rfl rfl
 have cn_0 := HBK2.out.cell 3 0 rfl rfl
 have cn_1 := HBK2.out.cell 3 1 rfl rfl
 have cn_2 := HBK2.out.cell 3 2 rfl rfl
 have cn_3 := HBK2.out.cell 3 3 rfl rfl
 have cx_0 := HBK2.out.cell 0 0 rfl rfl
 have cx_1 := HBK2.out.cell 0 1 rfl rfl
 have cx_2 := HBK2.out.cell 0 2 rfl rfl
 have cx_3 := HBK2.out.cell 0 3 rfl rfl
 have HUB : Hid (Calls Tryz.prog 152 #[.slice (some ⟨w2.heap.size, 0, none⟩) 3 3] (w2.alloc (.cells #[.int .i64 1, .int .i64 pn, .string ps, .slice PA pl.length pc, .int .i64 t.kind, .int .i64 t.num, .string t.name, .slice TA t.args.length tc, .int .i64 ta.kind, .int .i64 ta.num, .string ta.name, .slice EA ta.args.length ec] 26)) fun e w' => e = .returned (.bool false) ∧ Below (w2.alloc (.cells #[.int .i64 1, .int .i64 pn, .string ps, .slice PA pl.length pc, .int .i64 t.kind, .int .i64 t.num, .string t.name, .slice TA t.args.length tc, .int .i64 ta.kind, .int .i64 ta.num, .string ta.name, .slice EA ta.args.length ec] 26)).heap.size (w2.alloc (.cells #[.int .i64 1, .int .i64 pn, .string ps, .slice PA pl.length pc, .int .i64 t.kind, .int .i64 t.num, .string t.name, .slice TA t.args.length tc, .int .i64 ta.kind, .int .i64 ta.num, .string ta.name, .slice EA ta.args.length ec] 26)) w') := Lib.hid (by
  have hr := TmsK.rows (K := fun b => b < w2.heap.size + 1) (w := w2) (rs := [(.mk 1 pn ps pl, PA, pc), (t, TA, tc), (ta, EA, ec)]) (e := 26) (by omega) (by simp [maxLen]) (fun x hx => by
   have hal := Below.alloc (Below.refl w2.heap.size w2) (Nat.le_refl _) (.cells (rowsC [(Tm.mk 1 pn ps pl, PA, pc), (t, TA, tc), (ta, EA, ec)]).toArray 26)
   simp only [List.mem_cons, List.mem_nil_iff, or_false] at hx
   rcases hx with rfl | rfl | rfl
   ·exact ((HPA.out.keep HBL2.out).mono HBL2.out.size |>.keep hal).mono (by omega)
   ·exact ((HTA.out.keep HBL2.out).mono HBL2.out.size |>.keep hal).mono (by omega)
   ·exact (TmsAt.keep (B := w2.heap.size) HR2b.out hal).mono (by omega))
  have := f_unbound _ _ 3 _ (TmsK.at' hr)
  have hv := HOK.out.v1
  rw [← HTE.out] at hv
  rw [show ([(Tm.mk 1 pn ps pl, PA, pc), (t, TA, tc), (ta, EA, ec)] : List TR).map (fun x : TR => x.1) = [Tm.mk 1 pn ps pl, t, ta] from rfl, hv] at this
  exact this)
 clear hB2 hB12
 gi_wp2
 refine ⟨trivial, (callsIn_wide.2 HUB.out).mono ?_⟩
 rintro e w3 ⟨rfl, hB3⟩
 have hB23 : Below w2.heap.size w2 w3 := ((Below.refl w2.heap.size w2).alloc (Nat.le_refl _) _).trans (hB3.mono (by simp))
 have HBL3 := Lib.hid (HBL2.out.trans (hB23.mono HBL2.out.size))
 have HBK3 := Lib.hid (HBK2.out.call hB23)
 have HR3 := Lib.hid (HR1b.out.keep (fun b hb => hB23.block b hb) (fun b hb => Nat.lt_of_lt_of_le hb hB23.size))
 clear hB3 hB23 HUB HBK2 HBL2 HBK1 HBL1 HR1 HR2 HR1b HR2b cp_0 cp_1 cp_2 cp_3 ct_0 ct_1 ct_2 ct_3 cn_0 cn_1 cn_2 cn_3 cx_0 cx_1 cx_2 cx_3 bp_0 bp_1 bp_2 bp_3 bt_0 bt_1 bt_2 bt_3 bn_0 bn_1 bn_2 bn_3
 have dp_0 := HBK3.out.cell 5 0 rfl rfl
 have dp_1 := HBK3.out.cell 5 1 rfl rfl
 have dp_2 := HBK3.out.cell 5 2 rfl rfl
 have dp_3 := HBK3.out.cell 5 3 rfl rfl
 have dt_0 := HBK3.out.cell 4 0 rfl rfl
 have dt_1 := HBK3.out.cell 4 1 rfl rfl
 have dt_2 := HBK3.out.cell 4 2 rfl rfl
 have dt_3 := HBK3.out.cell 4 3 rfl rfl
 have dn_0 := HBK3.out.cell 3 0 rfl rfl
 have dn_1 := HBK3.out.cell 3 1 rfl rfl
 have dn_2 := HBK3.out.cell 3 2 rfl rfl
 have dn_3 := HBK3.out.cell 3 3 rfl rfl
 cases nl
 ·cases ian
  ·exact absurd HNAI.out (by simp)
  gi_wp2
  refine ⟨trivial, ?_⟩
  gi_wp2
  refine ⟨trivial, (callsIn_wide.2 (HIAT.out _)).mono ?_⟩
  rintro e w4 ⟨rfl, hB4⟩
  have HBL4 := Lib.hid (HBL3.out.trans (hB4.mono HBL3.out.size))
  have HBK4 := Lib.hid (HBK3.out.call hB4)
  clear hB4 HBL3 HBK3 dp_0 dp_1 dp_2 dp_3 dt_0 dt_1 dt_2 dt_3 dn_0 dn_1 dn_2 dn_3
  have ep_0 := HBK4.out.cell 5 0 rfl rfl
  have ep_1 := HBK4.out.cell 5 1 rfl rfl
  have ep_2 := HBK4.out.cell 5 2 rfl rfl
  have ep_3 := HBK4.out.cell 5 3 rfl rfl
  have et_0 := HBK4.out.cell 4 0 rfl rfl
  have et_1 := HBK4.out.cell 4 1 rfl rfl
  have et_2 := HBK4.out.cell 4 2 rfl rfl
  have et_3 := HBK4.out.cell 4 3 rfl rfl
  have en_0 := HBK4.out.cell 3 0 rfl rfl
  have en_1 := HBK4.out.cell 3 1 rfl rfl
  have en_2 := HBK4.out.cell 3 2 rfl rfl
  have en_3 := HBK4.out.cell 3 3 rfl rfl
  gi_wp2
  refine ⟨trivial, (callsIn_wide.2 (HIAN.out _)).mono ?_⟩
  rintro e w5 ⟨rfl, hB5⟩
  have HBL5 := Lib.hid (HBL4.out.trans (hB5.mono HBL4.out.size))
  have HBK5 := Lib.hid (HBK4.out.call hB5)
  clear hB5 HBL4 HBK4 ep_0 ep_1 ep_2 ep_3 et_0 et_1 et_2 et_3 en_0 en_1 en_2 en_3
  have fp_0 := HBK5.out.cell 5 0 rfl rfl
  have fp_1 := HBK5.out.cell 5 1 rfl rfl
  have fp_2 := HBK5.out.cell 5 2 rfl rfl
  have fp_3 := HBK5.out.cell 5 3 rfl rfl
  have ft_0 := HBK5.out.cell 4 0 rfl rfl
  have ft_1 := HBK5.out.cell 4 1 rfl rfl
  have ft_2 := HBK5.out.cell 4 2 rfl rfl
  have ft_3 := HBK5.out.cell 4 3 rfl rfl
  have fn_0 := HBK5.out.cell 3 0 rfl rfl
  have fn_1 := HBK5.out.cell 3 1 rfl rfl
  have fn_2 := HBK5.out.cell 3 2 rfl rfl
  have fn_3 := HBK5.out.cell 3 3 rfl rfl
  gi_wp2
  refine ⟨trivial, (callsIn_wide.2 (HSEQ.out _)).mono ?_⟩
  rintro e w6 ⟨rfl, hX6, hw6⟩
  have hs56 : w5.heap.size < w6.heap.size := by rw [hw6]; simp
  have HBL6 : Hid (Below w.heap.size w w6) := Lib.hid (by rw [hw6]; exact HBL5.out.alloc HBL5.out.size _)
  have HBK6 : Hid (Bks w6 (ckB w.heap.size [.int .i64 1, .int .i64 pn, .string ps, .slice PA pl.length pc] [.int .i64 t.kind, .int .i64 t.num, .string t.name, .slice TA t.args.length tc] [.int .i64 n.kind, .int .i64 n.num, .string n.name, .slice NA n.args.length nc])) := Lib.hid (by rw [hw6]; exact (HBK5.out.al _).tl)
  have HSQ := Lib.hid (names_stops 7 n NA nc w5.heap.size w6 HVN.out hX6 hs56 ((HNA.out.keep HBL6.out).mono HBL6.out.size))
  have HALL := Lib.hid HOK.out.all
  clear hw6 hX6 HBL5 HBK5 fp_0 fp_1 fp_2 fp_3 ft_0 ft_1 ft_2 ft_3 fn_0 fn_1 fn_2 fn_3
  gi_wp2
  refine wpIn_rangeX rfl (by omega) (gf := 186) (lb := #[.pointer (some ⟨w5.heap.size, 0, none⟩)]) rfl trivial (enters_of Tryz.func186 (by kernel_rfl) rfl) HSQ.out (fun h k => h.trans k) (fun W l o o' _ h hc => KpC.put W l o o' h hc) (fun _ => rfl)
   (fun _ W => Below w.heap.size w W ∧ Bks W (ckB w.heap.size [.int .i64 1, .int .i64 pn, .string ps, .slice PA pl.length pc] [.int .i64 t.kind, .int .i64 t.num, .string t.name, .slice TA t.args.length tc] [.int .i64 n.kind, .int .i64 n.num, .string n.name, .slice NA n.args.length nc])) (fun _ _ _ => False)
   (OwnFrom.and (ownFrom_below (Nat.le_refl _) HBL6.out.size) (Bks.own _ (fun _ => ckB w.heap.size [.int .i64 1, .int .i64 pn, .string ps, .slice PA pl.length pc] [.int .i64 t.kind, .int .i64 t.num, .string t.name, .slice TA t.args.length tc] [.int .i64 n.kind, .int .i64 n.num, .string n.name, .slice NA n.args.length nc]))) (fun _ _ _ _ _ hs _ _ => hs) ⟨HBL6.out, HBK6.out⟩ ?round ?done ?stop
  case round =>
   rintro l pre ⟨a, XA, xc⟩ W hl hlW - ⟨hb, hk⟩ hx hsp
   have hat : isAtomT a = true := HALL.out a (mem_of_pre (by simpa using hsp))
   have HAT : Hid (∀ W, Calls Tryz.prog 156 #[.agg #[.int .i64 a.kind, .int .i64 a.num, .string a.name, .slice XA a.args.length xc]] W fun e w' => e = .returned (.bool true) ∧ Below W.heap.size W w') := Lib.hid fun W => by have := f_isAtom a XA xc W; rwa [hat] at this
   have hBa := (Below.refl W.heap.size W).alloc (Nat.le_refl _) (.cells #[.int .i64 a.kind, .int .i64 a.num, .string a.name, .slice XA a.args.length xc] 26)
   have hk1 := hk.new [.int .i64 a.kind, .int .i64 a.num, .string a.name, .slice XA a.args.length xc] 26 rfl
   have hb1 := hb.trans (hBa.mono hb.size)
   have HBA := Lib.hid hBa
   have HKB := Lib.hid hk1
   have HBB := Lib.hid hb1
   have h6l : ∀ x ∈ ckB w.heap.size [.int .i64 1, .int .i64 pn, .string ps, .slice PA pl.length pc] [.int .i64 t.kind, .int .i64 t.num, .string t.name, .slice TA t.args.length tc] [.int .i64 n.kind, .int .i64 n.num, .string n.name, .slice NA n.args.length nc], x.1 < w6.heap.size := fun x hx => (HBK6.out.bk x hx).lt
   have H6L := Lib.hid h6l
   have h06 := HBL6.out.size
   clear hBa hk1 hb1 hat hk hb h6l hx hsp
   unfold tmV
   gi_wp2
   refine ⟨keeps_below HBA.out, KpC.below HBA.out, fun W2 hX2 => ?_⟩
   have HBK2 := Lib.hid (HKB.out.bx hX2 (fun x hx => by
    rcases List.mem_cons.1 hx with rfl | hx
    ·exact fun e => absurd e (by omega)
    ·have := H6L.out x hx
     omega) (fun x hx => (HKB.out.bk x hx).lt))
   have HBL2 := Lib.hid (HBB.out.trans (hX2.under (B := w.heap.size) (by omega) HBB.out.size))
   clear hX2
   have ra_0 := HBK2.out.cell 0 0 rfl rfl
   have ra_1 := HBK2.out.cell 0 1 rfl rfl
   have ra_2 := HBK2.out.cell 0 2 rfl rfl
   have ra_3 := HBK2.out.cell 0 3 rfl rfl
   gi_wp2
   refine ⟨trivial, (CallsIn.inRound l (callsIn_wide.2 (HAT.out _))).mono ?_⟩
   rintro e W3 ⟨rfl, hB3⟩
   have HB3 := Lib.hid hB3
   clear hB3
   gi_wp2
   exact ⟨keeps_below HB3.out, KpC.below HB3.out, HBL2.out.trans (HB3.out.mono HBL2.out.size), (HBK2.out.call HB3.out).tl⟩
  case done =>
   rintro D xs W hD hS ⟨hb, hk⟩ hK
   have HBL7 := Lib.hid hb
   have HBK7 := Lib.hid hk
   have HK := Lib.hid hK
   have hDW : D < W.heap.size := (Array.getElem?_eq_some_iff.1 hK).1
   clear hb hk hK hS
   have gp_0 := HBK7.out.cell 4 0 rfl rfl
   have gp_1 := HBK7.out.cell 4 1 rfl rfl
   have gp_2 := HBK7.out.cell 4 2 rfl rfl
   have gp_3 := HBK7.out.cell 4 3 rfl rfl
   have gt_0 := HBK7.out.cell 3 0 rfl rfl
   have gt_1 := HBK7.out.cell 3 1 rfl rfl
   have gt_2 := HBK7.out.cell 3 2 rfl rfl
   have gt_3 := HBK7.out.cell 3 3 rfl rfl
   have gn_0 := HBK7.out.cell 2 0 rfl rfl
   have gn_1 := HBK7.out.cell 2 1 rfl rfl
   have gn_2 := HBK7.out.cell 2 2 rfl rfl
   have gn_3 := HBK7.out.cell 2 3 rfl rfl
   gi_wp2
   refine ⟨trivial, (callsIn_wide.2 (HPRI.out _)).mono ?_⟩
   rintro e w8 ⟨rfl, hB8⟩
   have HBL8 := Lib.hid (HBL7.out.trans (hB8.mono HBL7.out.size))
   have HBK8 := Lib.hid (HBK7.out.call hB8)
   have HK8 := Lib.hid ((hB8.block D hDW).trans HK.out)
   clear hB8 HBL7 HBK7 HK gp_0 gp_1 gp_2 gp_3 gt_0 gt_1 gt_2 gt_3 gn_0 gn_1 gn_2 gn_3
   have ht_0 := HBK8.out.cell 3 0 rfl rfl
   have ht_1 := HBK8.out.cell 3 1 rfl rfl
   have ht_2 := HBK8.out.cell 3 2 rfl rfl
   have ht_3 := HBK8.out.cell 3 3 rfl rfl
   gi_wp2
   refine ⟨trivial, (callsIn_wide.2 (HTYP.out _)).mono ?_⟩
   rintro e w9 ⟨rfl, hB9⟩
   have HBL9 := Lib.hid (HBL8.out.trans (hB9.mono HBL8.out.size))
   have HBK9 := Lib.hid (HBK8.out.call hB9)
   have HK9 := Lib.hid ((hB9.block D (Array.getElem?_eq_some_iff.1 HK8.out).1).trans HK8.out)
   clear hB9 HBL8 HBK8 HK8 ht_0 ht_1 ht_2 ht_3
   have iz_0 := HBK9.out.cell 1 0 rfl rfl
   have iz_1 := HBK9.out.cell 1 1 rfl rfl
   have iz_2 := HBK9.out.cell 1 2 rfl rfl
   have iz_3 := HBK9.out.cell 1 3 rfl rfl
   have ib_0 := HBK9.out.cell 0 0 rfl rfl
   have iz0 := HBK9.out.fz 1 0 rfl
   have iz1 := HBK9.out.fz 1 1 rfl
   have iz2 := HBK9.out.fz 1 2 rfl
   have iz3 := HBK9.out.fz 1 3 rfl
   have ib0 := HBK9.out.fz 0 0 rfl
   have HBKz : Hid (Bks (((((w9.setCell ⟨w.heap.size + 1 + 1 + 1, 0, none⟩ (.int .i64 0)).setCell ⟨w.heap.size + 1 + 1 + 1, 1, none⟩ (.int .i64 0)).setCell ⟨w.heap.size + 1 + 1 + 1, 2, none⟩ (.string ⟨#[]⟩)).setCell ⟨w.heap.size + 1 + 1 + 1, 3, none⟩ (.slice none 0 0)).setCell ⟨w.heap.size + 1 + 1 + 1 + 1, 0, none⟩ (.bool true)) ((ckB w.heap.size [.int .i64 1, .int .i64 pn, .string ps, .slice PA pl.length pc] [.int .i64 t.kind, .int .i64 t.num, .string t.name, .slice TA t.args.length tc] [.int .i64 n.kind, .int .i64 n.num, .string n.name, .slice NA n.args.length nc]).set 0 (w.heap.size + 1 + 1 + 1 + 1, [.bool true]))) := Lib.hid (by
    have h1 := (HBK9.out.set4 1 rfl (.int .i64 0) (.int .i64 0) (.string ⟨#[]⟩) (.slice none 0 0)).set 0 0 (g := w.heap.size + 1 + 1 + 1 + 1) (vs := [.bool false]) rfl (.bool true)
    exact h1)
   have hD4 : ∀ x ∈ ckB w.heap.size [.int .i64 1, .int .i64 pn, .string ps, .slice PA pl.length pc] [.int .i64 t.kind, .int .i64 t.num, .string t.name, .slice TA t.args.length tc] [.int .i64 n.kind, .int .i64 n.num, .string n.name, .slice NA n.args.length nc], x.1 ≠ D := fun x hx => by have := (HBK6.out.bk x hx).lt; omega
   have hDa : D ≠ w.heap.size + 1 + 1 + 1 + 1 := fun e => hD4 (_, [.bool false]) (by simp [ckB]) e.symm
   have hDb : D ≠ w.heap.size + 1 + 1 + 1 := fun e => hD4 (_, [.int .i64 0, .int .i64 0, .string ⟨#[]⟩, .slice none 0 0]) (by simp [ckB]) e.symm
   have HKz : Hid ((((((w9.setCell ⟨w.heap.size + 1 + 1 + 1, 0, none⟩ (.int .i64 0)).setCell ⟨w.heap.size + 1 + 1 + 1, 1, none⟩ (.int .i64 0)).setCell ⟨w.heap.size + 1 + 1 + 1, 2, none⟩ (.string ⟨#[]⟩)).setCell ⟨w.heap.size + 1 + 1 + 1, 3, none⟩ (.slice none 0 0)).setCell ⟨w.heap.size + 1 + 1 + 1 + 1, 0, none⟩ (.bool true)).heap[D]? = some (.deferred (some []))) := Lib.hid (by
    rw [heap_setCell_other _ _ _ _ hDa, heap_setCell_other _ _ _ _ hDb, heap_setCell_other _ _ _ _ hDb, heap_setCell_other _ _ _ _ hDb, heap_setCell_other _ _ _ _ hDb]; exact HK9.out)
   have HBLz : Hid (Below w.heap.size w (((((w9.setCell ⟨w.heap.size + 1 + 1 + 1, 0, none⟩ (.int .i64 0)).setCell ⟨w.heap.size + 1 + 1 + 1, 1, none⟩ (.int .i64 0)).setCell ⟨w.heap.size + 1 + 1 + 1, 2, none⟩ (.string ⟨#[]⟩)).setCell ⟨w.heap.size + 1 + 1 + 1, 3, none⟩ (.slice none 0 0)).setCell ⟨w.heap.size + 1 + 1 + 1 + 1, 0, none⟩ (.bool true))) := Lib.hid (((((HBL9.out.setCell (p := ⟨_, _, none⟩) (show w.heap.size ≤ w.heap.size + 1 + 1 + 1 by omega) _).setCell (p := ⟨_, _, none⟩) (show w.heap.size ≤ w.heap.size + 1 + 1 + 1 by omega) _).setCell (p := ⟨_, _, none⟩) (show w.heap.size ≤ w.heap.size + 1 + 1 + 1 by omega) _).setCell (p := ⟨_, _, none⟩) (show w.heap.size ≤ w.heap.size + 1 + 1 + 1 by omega) _).setCell (p := ⟨_, _, none⟩) (show w.heap.size ≤ w.heap.size + 1 + 1 + 1 + 1 by omega) _)
   have HBKy := Lib.hid (HBKz.out.putObj (q := D) (.deferred none) (fun x hx => by
    obtain ⟨y, hy, e⟩ := set_fst (l := ckB w.heap.size [.int .i64 1, .int .i64 pn, .string ps, .slice PA pl.length pc] [.int .i64 t.kind, .int .i64 t.num, .string t.name, .slice TA t.args.length tc] [.int .i64 n.kind, .int .i64 n.num, .string n.name, .slice NA n.args.length nc]) (j := 0) (vs := [.bool false]) _ rfl x hx
    rw [← e]; exact hD4 y hy))
   have HBLy := Lib.hid (below_putO HBLz.out (D := D) (Nat.le_trans HBL6.out.size hD) (.deferred none))
   have yz_0 := HBKy.out.cell 1 0 rfl rfl
   have yz_1 := HBKy.out.cell 1 1 rfl rfl
   have yz_2 := HBKy.out.cell 1 2 rfl rfl
   have yz_3 := HBKy.out.cell 1 3 rfl rfl
   have yb_0 := HBKy.out.cell 0 0 rfl rfl
   clear hD4 HBKy
   gi_wp2
   refine ⟨by simp, .inl ⟨_, _, rfl, run_takeDeferred HKz.out, ?_⟩⟩
   exact ⟨.tuple #[.agg #[.int .i64 0, .int .i64 0, .string ⟨#[]⟩, .slice none 0 0], .bool true], by simp [results, Tryz.results145, go_sem, yz_0, yz_1, yz_2, yz_3, yb_0], rfl, HBLy.out⟩
  case stop =>
   rintro D c pre W hD hS h hK
   exact h.elim
 ·have HU2 := Lib.hid (f_unbound (elemsT n) A1 k1 w3 HR3.out)
  rw [show anyVar (elemsT n) = false by simpa [Hid] using HV2, ← HNL.out] at HU2
  gi_wp2
  refine ⟨trivial, (callsIn_wide.2 HU2.out).mono ?_⟩
  rintro e w3' ⟨rfl, hB3⟩
  have HBL3 := Lib.hid (HBL3.out.trans (hB3.mono HBL3.out.size))
  have HBK3 := Lib.hid (HBK3.out.call hB3)
  clear hB3 dp_0 dp_1 dp_2 dp_3 dt_0 dt_1 dt_2 dt_3 dn_0 dn_1 dn_2 dn_3
  have dp_0 := HBK3.out.cell 5 0 rfl rfl
  have dp_1 := HBK3.out.cell 5 1 rfl rfl
  have dp_2 := HBK3.out.cell 5 2 rfl rfl
  have dp_3 := HBK3.out.cell 5 3 rfl rfl
  have dt_0 := HBK3.out.cell 4 0 rfl rfl
  have dt_1 := HBK3.out.cell 4 1 rfl rfl
  have dt_2 := HBK3.out.cell 4 2 rfl rfl
  have dt_3 := HBK3.out.cell 4 3 rfl rfl
  have dn_0 := HBK3.out.cell 3 0 rfl rfl
  have dn_1 := HBK3.out.cell 3 1 rfl rfl
  have dn_2 := HBK3.out.cell 3 2 rfl rfl
  have dn_3 := HBK3.out.cell 3 3 rfl rfl
  cases ian
  ·gi_wp2
   refine ⟨trivial, (callsIn_wide.2 (HIAT.out _)).mono ?_⟩
   rintro e w4 ⟨rfl, hB4⟩
   have HBL4 := Lib.hid (HBL3.out.trans (hB4.mono HBL3.out.size))
   have HBK4 := Lib.hid (HBK3.out.call hB4)
   clear hB4 HBL3 HBK3 dp_0 dp_1 dp_2 dp_3 dt_0 dt_1 dt_2 dt_3 dn_0 dn_1 dn_2 dn_3
   have ep_0 := HBK4.out.cell 5 0 rfl rfl
   have ep_1 := HBK4.out.cell 5 1 rfl rfl
   have ep_2 := HBK4.out.cell 5 2 rfl rfl
   have ep_3 := HBK4.out.cell 5 3 rfl rfl
   have et_0 := HBK4.out.cell 4 0 rfl rfl
   have et_1 := HBK4.out.cell 4 1 rfl rfl
   have et_2 := HBK4.out.cell 4 2 rfl rfl
   have et_3 := HBK4.out.cell 4 3 rfl rfl
   have en_0 := HBK4.out.cell 3 0 rfl rfl
   have en_1 := HBK4.out.cell 3 1 rfl rfl
   have en_2 := HBK4.out.cell 3 2 rfl rfl
   have en_3 := HBK4.out.cell 3 3 rfl rfl
   gi_wp2
   refine ⟨trivial, (callsIn_wide.2 (HIAN.out _)).mono ?_⟩
   rintro e w5 ⟨rfl, hB5⟩
   have HBL5 := Lib.hid (HBL4.out.trans (hB5.mono HBL4.out.size))
   have HBK5 := Lib.hid (HBK4.out.call hB5)
   clear hB5 HBL4 HBK4 ep_0 ep_1 ep_2 ep_3 et_0 et_1 et_2 et_3 en_0 en_1 en_2 en_3
   have fp_0 := HBK5.out.cell 5 0 rfl rfl
   have fp_1 := HBK5.out.cell 5 1 rfl rfl
   have fp_2 := HBK5.out.cell 5 2 rfl rfl
   have fp_3 := HBK5.out.cell 5 3 rfl rfl
   have ft_0 := HBK5.out.cell 4 0 rfl rfl
   have ft_1 := HBK5.out.cell 4 1 rfl rfl
   have ft_2 := HBK5.out.cell 4 2 rfl rfl
   have ft_3 := HBK5.out.cell 4 3 rfl rfl
   have fn_0 := HBK5.out.cell 3 0 rfl rfl
   have fn_1 := HBK5.out.cell 3 1 rfl rfl
   have fn_2 := HBK5.out.cell 3 2 rfl rfl
   have fn_3 := HBK5.out.cell 3 3 rfl rfl
   gi_wp2
   refine ⟨trivial, (callsIn_wide.2 (HSEQ.out _)).mono ?_⟩
   rintro e w6 ⟨rfl, hX6, hw6⟩
   have hs56 : w5.heap.size < w6.heap.size := by rw [hw6]; simp
   have HBL6 : Hid (Below w.heap.size w w6) := Lib.hid (by rw [hw6]; exact HBL5.out.alloc HBL5.out.size _)
   have HBK6 : Hid (Bks w6 (ckB w.heap.size [.int .i64 1, .int .i64 pn, .string ps, .slice PA pl.length pc] [.int .i64 t.kind, .int .i64 t.num, .string t.name, .slice TA t.args.length tc] [.int .i64 n.kind, .int .i64 n.num, .string n.name, .slice NA n.args.length nc])) := Lib.hid (by rw [hw6]; exact (HBK5.out.al _).tl)
   have HSQ := Lib.hid (names_stops 7 n NA nc w5.heap.size w6 HVN.out hX6 hs56 ((HNA.out.keep HBL6.out).mono HBL6.out.size))
   have HALL := Lib.hid HOK.out.all
   clear hw6 hX6 HBL5 HBK5 fp_0 fp_1 fp_2 fp_3 ft_0 ft_1 ft_2 ft_3 fn_0 fn_1 fn_2 fn_3
   gi_wp2
   refine wpIn_rangeX rfl (by omega) (gf := 186) (lb := #[.pointer (some ⟨w5.heap.size, 0, none⟩)]) rfl trivial (enters_of Tryz.func186 (by kernel_rfl) rfl) HSQ.out (fun h k => h.trans k) (fun W l o o' _ h hc => KpC.put W l o o' h hc) (fun _ => rfl)
    (fun _ W => Below w.heap.size w W ∧ Bks W (ckB w.heap.size [.int .i64 1, .int .i64 pn, .string ps, .slice PA pl.length pc] [.int .i64 t.kind, .int .i64 t.num, .string t.name, .slice TA t.args.length tc] [.int .i64 n.kind, .int .i64 n.num, .string n.name, .slice NA n.args.length nc])) (fun _ _ _ => False)
    (OwnFrom.and (ownFrom_below (Nat.le_refl _) HBL6.out.size) (Bks.own _ (fun _ => ckB w.heap.size [.int .i64 1, .int .i64 pn, .string ps, .slice PA pl.length pc] [.int .i64 t.kind, .int .i64 t.num, .string t.name, .slice TA t.args.length tc] [.int .i64 n.kind, .int .i64 n.num, .string n.name, .slice NA n.args.length nc]))) (fun _ _ _ _ _ hs _ _ => hs) ⟨HBL6.out, HBK6.out⟩ ?round ?done ?stop
   case round =>
    rintro l pre ⟨a, XA, xc⟩ W hl hlW - ⟨hb, hk⟩ hx hsp
    have hat : isAtomT a = true := HALL.out a (mem_of_pre (by simpa using hsp))
    have HAT : Hid (∀ W, Calls Tryz.prog 156 #[.agg #[.int .i64 a.kind, .int .i64 a.num, .string a.name, .slice XA a.args.length xc]] W fun e w' => e = .returned (.bool true) ∧ Below W.heap.size W w') := Lib.hid fun W => by have := f_isAtom a XA xc W; rwa [hat] at this
    have hBa := (Below.refl W.heap.size W).alloc (Nat.le_refl _) (.cells #[.int .i64 a.kind, .int .i64 a.num, .string a.name, .slice XA a.args.length xc] 26)
    have hk1 := hk.new [.int .i64 a.kind, .int .i64 a.num, .string a.name, .slice XA a.args.length xc] 26 rfl
    have hb1 := hb.trans (hBa.mono hb.size)
    have HBA := Lib.hid hBa
    have HKB := Lib.hid hk1
    have HBB := Lib.hid hb1
    have h6l : ∀ x ∈ ckB w.heap.size [.int .i64 1, .int .i64 pn, .string ps, .slice PA pl.length pc] [.int .i64 t.kind, .int .i64 t.num, .string t.name, .slice TA t.args.length tc] [.int .i64 n.kind, .int .i64 n.num, .string n.name, .slice NA n.args.length nc], x.1 < w6.heap.size := fun x hx => (HBK6.out.bk x hx).lt
    have H6L := Lib.hid h6l
    have h06 := HBL6.out.size
    clear hBa hk1 hb1 hat hk hb h6l hx hsp
    unfold tmV
    gi_wp2
    refine ⟨keeps_below HBA.out, KpC.below HBA.out, fun W2 hX2 => ?_⟩
    have HBK2 := Lib.hid (HKB.out.bx hX2 (fun x hx => by
     rcases List.mem_cons.1 hx with rfl | hx
     ·exact fun e => absurd e (by omega)
     ·have := H6L.out x hx
      omega) (fun x hx => (HKB.out.bk x hx).lt))
    have HBL2 := Lib.hid (HBB.out.trans (hX2.under (B := w.heap.size) (by omega) HBB.out.size))
    clear hX2
    have ra_0 := HBK2.out.cell 0 0 rfl rfl
    have ra_1 := HBK2.out.cell 0 1 rfl rfl
    have ra_2 := HBK2.out.cell 0 2 rfl rfl
    have ra_3 := HBK2.out.cell 0 3 rfl rfl
    gi_wp2
    refine ⟨trivial, (CallsIn.inRound l (callsIn_wide.2 (HAT.out _))).mono ?_⟩
    rintro e W3 ⟨rfl, hB3⟩
    have HB3 := Lib.hid hB3
    clear hB3
    gi_wp2
    exact ⟨keeps_below HB3.out, KpC.below HB3.out, HBL2.out.trans (HB3.out.mono HBL2.out.size), (HBK2.out.call HB3.out).tl⟩
   case done =>
    rintro D xs W hD hS ⟨hb, hk⟩ hK
    have HBL7 := Lib.hid hb
    have HBK7 := Lib.hid hk
    have HK := Lib.hid hK
    have hDW : D < W.heap.size := (Array.getElem?_eq_some_iff.1 hK).1
    clear hb hk hK hS
    have gp_0 := HBK7.out.cell 4 0 rfl rfl
    have gp_1 := HBK7.out.cell 4 1 rfl rfl
    have gp_2 := HBK7.out.cell 4 2 rfl rfl
    have gp_3 := HBK7.out.cell 4 3 rfl rfl
    have gt_0 := HBK7.out.cell 3 0 rfl rfl
    have gt_1 := HBK7.out.cell 3 1 rfl rfl
    have gt_2 := HBK7.out.cell 3 2 rfl rfl
    have gt_3 := HBK7.out.cell 3 3 rfl rfl
    have gn_0 := HBK7.out.cell 2 0 rfl rfl
    have gn_1 := HBK7.out.cell 2 1 rfl rfl
    have gn_2 := HBK7.out.cell 2 2 rfl rfl
    have gn_3 := HBK7.out.cell 2 3 rfl rfl
    gi_wp2
    refine ⟨trivial, (callsIn_wide.2 (HPRI.out _)).mono ?_⟩
    rintro e w8 ⟨rfl, hB8⟩
    have HBL8 := Lib.hid (HBL7.out.trans (hB8.mono HBL7.out.size))
    have HBK8 := Lib.hid (HBK7.out.call hB8)
    have HK8 := Lib.hid ((hB8.block D hDW).trans HK.out)
    clear hB8 HBL7 HBK7 HK gp_0 gp_1 gp_2 gp_3 gt_0 gt_1 gt_2 gt_3 gn_0 gn_1 gn_2 gn_3
    have ht_0 := HBK8.out.cell 3 0 rfl rfl
    have ht_1 := HBK8.out.cell 3 1 rfl rfl
    have ht_2 := HBK8.out.cell 3 2 rfl rfl
    have ht_3 := HBK8.out.cell 3 3 rfl rfl
    gi_wp2
    refine ⟨trivial, (callsIn_wide.2 (HTYP.out _)).mono ?_⟩
    rintro e w9 ⟨rfl, hB9⟩
    have HBL9 := Lib.hid (HBL8.out.trans (hB9.mono HBL8.out.size))
    have HBK9 := Lib.hid (HBK8.out.call hB9)
    have HK9 := Lib.hid ((hB9.block D (Array.getElem?_eq_some_iff.1 HK8.out).1).trans HK8.out)
    clear hB9 HBL8 HBK8 HK8 ht_0 ht_1 ht_2 ht_3
    have iz_0 := HBK9.out.cell 1 0 rfl rfl
    have iz_1 := HBK9.out.cell 1 1 rfl rfl
    have iz_2 := HBK9.out.cell 1 2 rfl rfl
    have iz_3 := HBK9.out.cell 1 3 rfl rfl
    have ib_0 := HBK9.out.cell 0 0 rfl rfl
    have iz0 := HBK9.out.fz 1 0 rfl
    have iz1 := HBK9.out.fz 1 1 rfl
    have iz2 := HBK9.out.fz 1 2 rfl
    have iz3 := HBK9.out.fz 1 3 rfl
    have ib0 := HBK9.out.fz 0 0 rfl
    have HBKz : Hid (Bks (((((w9.setCell ⟨w.heap.size + 1 + 1 + 1, 0, none⟩ (.int .i64 0)).setCell ⟨w.heap.size + 1 + 1 + 1, 1, none⟩ (.int .i64 0)).setCell ⟨w.heap.size + 1 + 1 + 1, 2, none⟩ (.string ⟨#[]⟩)).setCell ⟨w.heap.size + 1 + 1 + 1, 3, none⟩ (.slice none 0 0)).setCell ⟨w.heap.size + 1 + 1 + 1 + 1, 0, none⟩ (.bool true)) ((ckB w.heap.size [.int .i64 1, .int .i64 pn, .string ps, .slice PA pl.length pc] [.int .i64 t.kind, .int .i64 t.num, .string t.name, .slice TA t.args.length tc] [.int .i64 n.kind, .int .i64 n.num, .string n.name, .slice NA n.args.length nc]).set 0 (w.heap.size + 1 + 1 + 1 + 1, [.bool true]))) := Lib.hid (by
     have h1 := (HBK9.out.set4 1 rfl (.int .i64 0) (.int .i64 0) (.string ⟨#[]⟩) (.slice none 0 0)).set 0 0 (g := w.heap.size + 1 + 1 + 1 + 1) (vs := [.bool false]) rfl (.bool true)
     exact h1)
    have hD4 : ∀ x ∈ ckB w.heap.size [.int .i64 1, .int .i64 pn, .string ps, .slice PA pl.length pc] [.int .i64 t.kind, .int .i64 t.num, .string t.name, .slice TA t.args.length tc] [.int .i64 n.kind, .int .i64 n.num, .string n.name, .slice NA n.args.length nc], x.1 ≠ D := fun x hx => by have := (HBK6.out.bk x hx).lt; omega
    have hDa : D ≠ w.heap.size + 1 + 1 + 1 + 1 := fun e => hD4 (_, [.bool false]) (by simp [ckB]) e.symm
    have hDb : D ≠ w.heap.size + 1 + 1 + 1 := fun e => hD4 (_, [.int .i64 0, .int .i64 0, .string ⟨#[]⟩, .slice none 0 0]) (by simp [ckB]) e.symm
    have HKz : Hid ((((((w9.setCell ⟨w.heap.size + 1 + 1 + 1, 0, none⟩ (.int .i64 0)).setCell ⟨w.heap.size + 1 + 1 + 1, 1, none⟩ (.int .i64 0)).setCell ⟨w.heap.size + 1 + 1 + 1, 2, none⟩ (.string ⟨#[]⟩)).setCell ⟨w.heap.size + 1 + 1 + 1, 3, none⟩ (.slice none 0 0)).setCell ⟨w.heap.size + 1 + 1 + 1 + 1, 0, none⟩ (.bool true)).heap[D]? = some (.deferred (some []))) := Lib.hid (by
     rw [heap_setCell_other _ _ _ _ hDa, heap_setCell_other _ _ _ _ hDb, heap_setCell_other _ _ _ _ hDb, heap_setCell_other _ _ _ _ hDb, heap_setCell_other _ _ _ _ hDb]; exact HK9.out)
    have HBLz : Hid (Below w.heap.size w (((((w9.setCell ⟨w.heap.size + 1 + 1 + 1, 0, none⟩ (.int .i64 0)).setCell ⟨w.heap.size + 1 + 1 + 1, 1, none⟩ (.int .i64 0)).setCell ⟨w.heap.size + 1 + 1 + 1, 2, none⟩ (.string ⟨#[]⟩)).setCell ⟨w.heap.size + 1 + 1 + 1, 3, none⟩ (.slice none 0 0)).setCell ⟨w.heap.size + 1 + 1 + 1 + 1, 0, none⟩ (.bool true))) := Lib.hid (((((HBL9.out.setCell (p := ⟨_, _, none⟩) (show w.heap.size ≤ w.heap.size + 1 + 1 + 1 by omega) _).setCell (p := ⟨_, _, none⟩) (show w.heap.size ≤ w.heap.size + 1 + 1 + 1 by omega) _).setCell (p := ⟨_, _, none⟩) (show w.heap.size ≤ w.heap.size + 1 + 1 + 1 by omega) _).setCell (p := ⟨_, _, none⟩) (show w.heap.size ≤ w.heap.size + 1 + 1 + 1 by omega) _).setCell (p := ⟨_, _, none⟩) (show w.heap.size ≤ w.heap.size + 1 + 1 + 1 + 1 by omega) _)
    have HBKy := Lib.hid (HBKz.out.putObj (q := D) (.deferred none) (fun x hx => by
     obtain ⟨y, hy, e⟩ := set_fst (l := ckB w.heap.size [.int .i64 1, .int .i64 pn, .string ps, .slice PA pl.length pc] [.int .i64 t.kind, .int .i64 t.num, .string t.name, .slice TA t.args.length tc] [.int .i64 n.kind, .int .i64 n.num, .string n.name, .slice NA n.args.length nc]) (j := 0) (vs := [.bool false]) _ rfl x hx
     rw [← e]; exact hD4 y hy))
    have HBLy := Lib.hid (below_putO HBLz.out (D := D) (Nat.le_trans HBL6.out.size hD) (.deferred none))
    have yz_0 := HBKy.out.cell 1 0 rfl rfl
    have yz_1 := HBKy.out.cell 1 1 rfl rfl
    have yz_2 := HBKy.out.cell 1 2 rfl rfl
    have yz_3 := HBKy.out.cell 1 3 rfl rfl
    have yb_0 := HBKy.out.cell 0 0 rfl rfl
    clear hD4 HBKy
    gi_wp2
    refine ⟨by simp, .inl ⟨_, _, rfl, run_takeDeferred HKz.out, ?_⟩⟩
    exact ⟨.tuple #[.agg #[.int .i64 0, .int .i64 0, .string ⟨#[]⟩, .slice none 0 0], .bool true], by simp [results, Tryz.results145, go_sem, yz_0, yz_1, yz_2, yz_3, yb_0], rfl, HBLy.out⟩
   case stop =>
    rintro D c pre W hD hS h hK
    exact h.elim
  ·gi_wp2
   refine ⟨trivial, (callsIn_wide.2 (HIAT.out _)).mono ?_⟩
   rintro e w4 ⟨rfl, hB4⟩
   have HBL4 := Lib.hid (HBL3.out.trans (hB4.mono HBL3.out.size))
   have HBK4 := Lib.hid (HBK3.out.call hB4)
   clear hB4 HBL3 HBK3 dp_0 dp_1 dp_2 dp_3 dt_0 dt_1 dt_2 dt_3 dn_0 dn_1 dn_2 dn_3
   have ep_0 := HBK4.out.cell 5 0 rfl rfl
   have ep_1 := HBK4.out.cell 5 1 rfl rfl
   have ep_2 := HBK4.out.cell 5 2 rfl rfl
   have ep_3 := HBK4.out.cell 5 3 rfl rfl
   have et_0 := HBK4.out.cell 4 0 rfl rfl
   have et_1 := HBK4.out.cell 4 1 rfl rfl
   have et_2 := HBK4.out.cell 4 2 rfl rfl
   have et_3 := HBK4.out.cell 4 3 rfl rfl
   have en_0 := HBK4.out.cell 3 0 rfl rfl
   have en_1 := HBK4.out.cell 3 1 rfl rfl
   have en_2 := HBK4.out.cell 3 2 rfl rfl
   have en_3 := HBK4.out.cell 3 3 rfl rfl
   gi_wp2
   refine ⟨trivial, (callsIn_wide.2 (HIAN.out _)).mono ?_⟩
   rintro e w5 ⟨rfl, hB5⟩
   have HBL5 := Lib.hid (HBL4.out.trans (hB5.mono HBL4.out.size))
   have HBK5 := Lib.hid (HBK4.out.call hB5)
   clear hB5 HBL4 HBK4 ep_0 ep_1 ep_2 ep_3 et_0 et_1 et_2 et_3 en_0 en_1 en_2 en_3
   have fp_0 := HBK5.out.cell 5 0 rfl rfl
   have fp_1 := HBK5.out.cell 5 1 rfl rfl
   have fp_2 := HBK5.out.cell 5 2 rfl rfl
   have fp_3 := HBK5.out.cell 5 3 rfl rfl
   have ft_0 := HBK5.out.cell 4 0 rfl rfl
   have ft_1 := HBK5.out.cell 4 1 rfl rfl
   have ft_2 := HBK5.out.cell 4 2 rfl rfl
   have ft_3 := HBK5.out.cell 4 3 rfl rfl
   have fn_0 := HBK5.out.cell 3 0 rfl rfl
   have fn_1 := HBK5.out.cell 3 1 rfl rfl
   have fn_2 := HBK5.out.cell 3 2 rfl rfl
   have fn_3 := HBK5.out.cell 3 3 rfl rfl
   gi_wp2
   refine ⟨trivial, (callsIn_wide.2 (HSEQ.out _)).mono ?_⟩
   rintro e w6 ⟨rfl, hX6, hw6⟩
   have hs56 : w5.heap.size < w6.heap.size := by rw [hw6]; simp
   have HBL6 : Hid (Below w.heap.size w w6) := Lib.hid (by rw [hw6]; exact HBL5.out.alloc HBL5.out.size _)
   have HBK6 : Hid (Bks w6 (ckB w.heap.size [.int .i64 1, .int .i64 pn, .string ps, .slice PA pl.length pc] [.int .i64 t.kind, .int .i64 t.num, .string t.name, .slice TA t.args.length tc] [.int .i64 n.kind, .int .i64 n.num, .string n.name, .slice NA n.args.length nc])) := Lib.hid (by rw [hw6]; exact (HBK5.out.al _).tl)
   have HSQ := Lib.hid (names_stops 7 n NA nc w5.heap.size w6 HVN.out hX6 hs56 ((HNA.out.keep HBL6.out).mono HBL6.out.size))
   have HALL := Lib.hid HOK.out.all
   clear hw6 hX6 HBL5 HBK5 fp_0 fp_1 fp_2 fp_3 ft_0 ft_1 ft_2 ft_3 fn_0 fn_1 fn_2 fn_3
   gi_wp2
   refine wpIn_rangeX rfl (by omega) (gf := 186) (lb := #[.pointer (some ⟨w5.heap.size, 0, none⟩)]) rfl trivial (enters_of Tryz.func186 (by kernel_rfl) rfl) HSQ.out (fun h k => h.trans k) (fun W l o o' _ h hc => KpC.put W l o o' h hc) (fun _ => rfl)
    (fun _ W => Below w.heap.size w W ∧ Bks W (ckB w.heap.size [.int .i64 1, .int .i64 pn, .string ps, .slice PA pl.length pc] [.int .i64 t.kind, .int .i64 t.num, .string t.name, .slice TA t.args.length tc] [.int .i64 n.kind, .int .i64 n.num, .string n.name, .slice NA n.args.length nc])) (fun _ _ _ => False)
    (OwnFrom.and (ownFrom_below (Nat.le_refl _) HBL6.out.size) (Bks.own _ (fun _ => ckB w.heap.size [.int .i64 1, .int .i64 pn, .string ps, .slice PA pl.length pc] [.int .i64 t.kind, .int .i64 t.num, .string t.name, .slice TA t.args.length tc] [.int .i64 n.kind, .int .i64 n.num, .string n.name, .slice NA n.args.length nc]))) (fun _ _ _ _ _ hs _ _ => hs) ⟨HBL6.out, HBK6.out⟩ ?round ?done ?stop
   case round =>
    rintro l pre ⟨a, XA, xc⟩ W hl hlW - ⟨hb, hk⟩ hx hsp
    have hat : isAtomT a = true := HALL.out a (mem_of_pre (by simpa using hsp))
    have HAT : Hid (∀ W, Calls Tryz.prog 156 #[.agg #[.int .i64 a.kind, .int .i64 a.num, .string a.name, .slice XA a.args.length xc]] W fun e w' => e = .returned (.bool true) ∧ Below W.heap.size W w') := Lib.hid fun W => by have := f_isAtom a XA xc W; rwa [hat] at this
    have hBa := (Below.refl W.heap.size W).alloc (Nat.le_refl _) (.cells #[.int .i64 a.kind, .int .i64 a.num, .string a.name, .slice XA a.args.length xc] 26)
    have hk1 := hk.new [.int .i64 a.kind, .int .i64 a.num, .string a.name, .slice XA a.args.length xc] 26 rfl
    have hb1 := hb.trans (hBa.mono hb.size)
    have HBA := Lib.hid hBa
    have HKB := Lib.hid hk1
    have HBB := Lib.hid hb1
    have h6l : ∀ x ∈ ckB w.heap.size [.int .i64 1, .int .i64 pn, .string ps, .slice PA pl.length pc] [.int .i64 t.kind, .int .i64 t.num, .string t.name, .slice TA t.args.length tc] [.int .i64 n.kind, .int .i64 n.num, .string n.name, .slice NA n.args.length nc], x.1 < w6.heap.size := fun x hx => (HBK6.out.bk x hx).lt
    have H6L := Lib.hid h6l
    have h06 := HBL6.out.size
    clear hBa hk1 hb1 hat hk hb h6l hx hsp
    unfold tmV
    gi_wp2
    refine ⟨keeps_below HBA.out, KpC.below HBA.out, fun W2 hX2 => ?_⟩
    have HBK2 := Lib.hid (HKB.out.bx hX2 (fun x hx => by
     rcases List.mem_cons.1 hx with rfl | hx
     ·exact fun e => absurd e (by omega)
     ·have := H6L.out x hx
      omega) (fun x hx => (HKB.out.bk x hx).lt))
    have HBL2 := Lib.hid (HBB.out.trans (hX2.under (B := w.heap.size) (by omega) HBB.out.size))
    clear hX2
    have ra_0 := HBK2.out.cell 0 0 rfl rfl
    have ra_1 := HBK2.out.cell 0 1 rfl rfl
    have ra_2 := HBK2.out.cell 0 2 rfl rfl
    have ra_3 := HBK2.out.cell 0 3 rfl rfl
    gi_wp2
    refine ⟨trivial, (CallsIn.inRound l (callsIn_wide.2 (HAT.out _))).mono ?_⟩
    rintro e W3 ⟨rfl, hB3⟩
    have HB3 := Lib.hid hB3
    clear hB3
    gi_wp2
    exact ⟨keeps_below HB3.out, KpC.below HB3.out, HBL2.out.trans (HB3.out.mono HBL2.out.size), (HBK2.out.call HB3.out).tl⟩
   case done =>
    rintro D xs W hD hS ⟨hb, hk⟩ hK
    have HBL7 := Lib.hid hb
    have HBK7 := Lib.hid hk
    have HK := Lib.hid hK
    have hDW : D < W.heap.size := (Array.getElem?_eq_some_iff.1 hK).1
    clear hb hk hK hS
    have gp_0 := HBK7.out.cell 4 0 rfl rfl
    have gp_1 := HBK7.out.cell 4 1 rfl rfl
    have gp_2 := HBK7.out.cell 4 2 rfl rfl
    have gp_3 := HBK7.out.cell 4 3 rfl rfl
    have gt_0 := HBK7.out.cell 3 0 rfl rfl
    have gt_1 := HBK7.out.cell 3 1 rfl rfl
    have gt_2 := HBK7.out.cell 3 2 rfl rfl
    have gt_3 := HBK7.out.cell 3 3 rfl rfl
    have gn_0 := HBK7.out.cell 2 0 rfl rfl
    have gn_1 := HBK7.out.cell 2 1 rfl rfl
    have gn_2 := HBK7.out.cell 2 2 rfl rfl
    have gn_3 := HBK7.out.cell 2 3 rfl rfl
    gi_wp2
    refine ⟨trivial, (callsIn_wide.2 (HPRI.out _)).mono ?_⟩
    rintro e w8 ⟨rfl, hB8⟩
    have HBL8 := Lib.hid (HBL7.out.trans (hB8.mono HBL7.out.size))
    have HBK8 := Lib.hid (HBK7.out.call hB8)
    have HK8 := Lib.hid ((hB8.block D hDW).trans HK.out)
    clear hB8 HBL7 HBK7 HK gp_0 gp_1 gp_2 gp_3 gt_0 gt_1 gt_2 gt_3 gn_0 gn_1 gn_2 gn_3
    have ht_0 := HBK8.out.cell 3 0 rfl rfl
    have ht_1 := HBK8.out.cell 3 1 rfl rfl
    have ht_2 := HBK8.out.cell 3 2 rfl rfl
    have ht_3 := HBK8.out.cell 3 3 rfl rfl
    gi_wp2
    refine ⟨trivial, (callsIn_wide.2 (HTYP.out _)).mono ?_⟩
    rintro e w9 ⟨rfl, hB9⟩
    have HBL9 := Lib.hid (HBL8.out.trans (hB9.mono HBL8.out.size))
    have HBK9 := Lib.hid (HBK8.out.call hB9)
    have HK9 := Lib.hid ((hB9.block D (Array.getElem?_eq_some_iff.1 HK8.out).1).trans HK8.out)
    clear hB9 HBL8 HBK8 HK8 ht_0 ht_1 ht_2 ht_3
    have iz_0 := HBK9.out.cell 1 0 rfl rfl
    have iz_1 := HBK9.out.cell 1 1 rfl rfl
    have iz_2 := HBK9.out.cell 1 2 rfl rfl
    have iz_3 := HBK9.out.cell 1 3 rfl rfl
    have ib_0 := HBK9.out.cell 0 0 rfl rfl
    have iz0 := HBK9.out.fz 1 0 rfl
    have iz1 := HBK9.out.fz 1 1 rfl
    have iz2 := HBK9.out.fz 1 2 rfl
    have iz3 := HBK9.out.fz 1 3 rfl
    have ib0 := HBK9.out.fz 0 0 rfl
    have HBKz : Hid (Bks (((((w9.setCell ⟨w.heap.size + 1 + 1 + 1, 0, none⟩ (.int .i64 0)).setCell ⟨w.heap.size + 1 + 1 + 1, 1, none⟩ (.int .i64 0)).setCell ⟨w.heap.size + 1 + 1 + 1, 2, none⟩ (.string ⟨#[]⟩)).setCell ⟨w.heap.size + 1 + 1 + 1, 3, none⟩ (.slice none 0 0)).setCell ⟨w.heap.size + 1 + 1 + 1 + 1, 0, none⟩ (.bool true)) ((ckB w.heap.size [.int .i64 1, .int .i64 pn, .string ps, .slice PA pl.length pc] [.int .i64 t.kind, .int .i64 t.num, .string t.name, .slice TA t.args.length tc] [.int .i64 n.kind, .int .i64 n.num, .string n.name, .slice NA n.args.length nc]).set 0 (w.heap.size + 1 + 1 + 1 + 1, [.bool true]))) := Lib.hid (by
     have h1 := (HBK9.out.set4 1 rfl (.int .i64 0) (.int .i64 0) (.string ⟨#[]⟩) (.slice none 0 0)).set 0 0 (g := w.heap.size + 1 + 1 + 1 + 1) (vs := [.bool false]) rfl (.bool true)
     exact h1)
    have hD4 : ∀ x ∈ ckB w.heap.size [.int .i64 1, .int .i64 pn, .string ps, .slice PA pl.length pc] [.int .i64 t.kind, .int .i64 t.num, .string t.name, .slice TA t.args.length tc] [.int .i64 n.kind, .int .i64 n.num, .string n.name, .slice NA n.args.length nc], x.1 ≠ D := fun x hx => by have := (HBK6.out.bk x hx).lt; omega
    have hDa : D ≠ w.heap.size + 1 + 1 + 1 + 1 := fun e => hD4 (_, [.bool false]) (by simp [ckB]) e.symm
    have hDb : D ≠ w.heap.size + 1 + 1 + 1 := fun e => hD4 (_, [.int .i64 0, .int .i64 0, .string ⟨#[]⟩, .slice none 0 0]) (by simp [ckB]) e.symm
    have HKz : Hid ((((((w9.setCell ⟨w.heap.size + 1 + 1 + 1, 0, none⟩ (.int .i64 0)).setCell ⟨w.heap.size + 1 + 1 + 1, 1, none⟩ (.int .i64 0)).setCell ⟨w.heap.size + 1 + 1 + 1, 2, none⟩ (.string ⟨#[]⟩)).setCell ⟨w.heap.size + 1 + 1 + 1, 3, none⟩ (.slice none 0 0)).setCell ⟨w.heap.size + 1 + 1 + 1 + 1, 0, none⟩ (.bool true)).heap[D]? = some (.deferred (some []))) := Lib.hid (by
     rw [heap_setCell_other _ _ _ _ hDa, heap_setCell_other _ _ _ _ hDb, heap_setCell_other _ _ _ _ hDb, heap_setCell_other _ _ _ _ hDb, heap_setCell_other _ _ _ _ hDb]; exact HK9.out)
    have HBLz : Hid (Below w.heap.size w (((((w9.setCell ⟨w.heap.size + 1 + 1 + 1, 0, none⟩ (.int .i64 0)).setCell ⟨w.heap.size + 1 + 1 + 1, 1, none⟩ (.int .i64 0)).setCell ⟨w.heap.size + 1 + 1 + 1, 2, none⟩ (.string ⟨#[]⟩)).setCell ⟨w.heap.size + 1 + 1 + 1, 3, none⟩ (.slice none 0 0)).setCell ⟨w.heap.size + 1 + 1 + 1 + 1, 0, none⟩ (.bool true))) := Lib.hid (((((HBL9.out.setCell (p := ⟨_, _, none⟩) (show w.heap.size ≤ w.heap.size + 1 + 1 + 1 by omega) _).setCell (p := ⟨_, _, none⟩) (show w.heap.size ≤ w.heap.size + 1 + 1 + 1 by omega) _).setCell (p := ⟨_, _, none⟩) (show w.heap.size ≤ w.heap.size + 1 + 1 + 1 by omega) _).setCell (p := ⟨_, _, none⟩) (show w.heap.size ≤ w.heap.size + 1 + 1 + 1 by omega) _).setCell (p := ⟨_, _, none⟩) (show w.heap.size ≤ w.heap.size + 1 + 1 + 1 + 1 by omega) _)
    have HBKy := Lib.hid (HBKz.out.putObj (q := D) (.deferred none) (fun x hx => by
     obtain ⟨y, hy, e⟩ := set_fst (l := ckB w.heap.size [.int .i64 1, .int .i64 pn, .string ps, .slice PA pl.length pc] [.int .i64 t.kind, .int .i64 t.num, .string t.name, .slice TA t.args.length tc] [.int .i64 n.kind, .int .i64 n.num, .string n.name, .slice NA n.args.length nc]) (j := 0) (vs := [.bool false]) _ rfl x hx
     rw [← e]; exact hD4 y hy))
    have HBLy := Lib.hid (below_putO HBLz.out (D := D) (Nat.le_trans HBL6.out.size hD) (.deferred none))
    have yz_0 := HBKy.out.cell 1 0 rfl rfl
    have yz_1 := HBKy.out.cell 1 1 rfl rfl
    have yz_2 := HBKy.out.cell 1 2 rfl rfl
    have yz_3 := HBKy.out.cell 1 3 rfl rfl
    have yb_0 := HBKy.out.cell 0 0 rfl rfl
    clear hD4 HBKy
    gi_wp2
    refine ⟨by simp, .inl ⟨_, _, rfl, run_takeDeferred HKz.out, ?_⟩⟩
    exact ⟨.tuple #[.agg #[.int .i64 0, .int .i64 0, .string ⟨#[]⟩, .slice none 0 0], .bool true], by simp [results, Tryz.results145, go_sem, yz_0, yz_1, yz_2, yz_3, yb_0], rfl, HBLy.out⟩
   case stop =>
    rintro D c pre W hD hS h hK
    exact h.elim
end Go.Proofs.YtfkhcpeahdkafaaGreat
