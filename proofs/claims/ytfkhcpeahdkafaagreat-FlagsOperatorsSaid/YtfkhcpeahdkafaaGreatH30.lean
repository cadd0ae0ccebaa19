/- Flags: Call at op/3, where nothing is wrong (out of the general Call). Flags: the laws' example. -/
import Derived.Test.YtfkhcpeahdkafaaGreatH23
import Derived.Test.YtfkhcpeahdkafaaGreatH29
import Derived.Test.YtfkhcpeahdkafaaGreatH17
namespace Hb
open Go Go.RowKit
theorem chk_ok {p t n : Tm} (h : ChkOk p t n) : chkC p t n = none := by
 unfold chkC
 have hk : p.kind = 1 := by
  have := h.pr
  unfold isPrioT at this
  rw [Bool.and_eq_true, beq_iff_eq] at this
  exact this.1
 have hna := h.na
 rw [Bool.or_eq_true] at hna
 rw [if_neg (by rw [h.v1, h.v2]; decide), if_neg (by simp [hk]), if_neg (by rw [h.ta]; decide), if_neg (by intro e; rw [e.1, e.2] at hna; simp at hna), find_all h.all, h.pr, h.ty]
 rfl
theorem go_ok {ty pr : Int} : ∀ {xs : List Tm} {l : List OpR}, SetsOk ty pr l xs → opsGo ty pr l xs = .inr (setAll ty pr l xs)
 | [], _, _ => rfl
 | x :: xs, l, h => by
  have h0 : (setR l ⟨x.name, ty, pr⟩).2 = 0 := h [] x ⟨xs, rfl⟩
  have h1 : SetsOk ty pr (setR l ⟨x.name, ty, pr⟩).1 xs := fun pre y hy => h (x :: pre) y (by obtain ⟨r, e⟩ := hy; exact ⟨r, by rw [← e]; rfl⟩)
  have e : opsStep ty pr (.inr l) x = .inr (setR l ⟨x.name, ty, pr⟩).1 := by unfold opsStep; simp only [h0]; rfl
  have := go_ok h1
  unfold opsGo at this ⊢
  rw [List.foldl_cons, e, this]
  rfl
end Hb
namespace Go.Proofs.YtfkhcpeahdkafaaGreat
open Go.RowKit Hb
set_option maxRecDepth 100000
theorem f_call_op (OA : Option Addr) (on oc : Nat) (q u : Int) (c d : Bool) (gn : Int) (AA : Option Addr) (ac : Nat) (p t n : Tm) (l : List OpR) (w : World)
  (hTab : Tab w OA on oc l) (hon : on ≤ 400) (hov : opsValid l = true) (hfv : flOk ⟨q, u, c, d⟩ = true) (hA : TmsAt w.heap.size w AA [p, t, n]) (hg : validT (.mk 3 gn ⟨#[111, 112]⟩ [p, t, n]) = true) (hv : validT n = true) (hsm : sameT (.mk 3 gn ⟨#[111, 112]⟩ [p, t, n]) (canT (.mk 3 gn ⟨#[111, 112]⟩ [p, t, n])) = true) (hok : ChkOk p t n) (hset : SetsOk (tyOf t.name) p.num l (nmL n)) :
  Calls Tryz.prog 30 #[.agg #[.slice OA on oc, .int .i64 q, .int .i64 u, .bool c, .bool d, .slice none 0 0], .agg #[.int .i64 3, .int .i64 gn, .string ⟨#[111, 112]⟩, .slice AA 3 ac]] w fun e w' => ∃ OA' on' oc' CA' cc' rb rx, e = .returned (.tuple #[.agg #[.slice OA' on' oc', .int .i64 q, .int .i64 u, .bool c, .bool d, .slice CA' 0 cc'], .slice rb 1 rx, .agg #[.int .i64 0, .int .i64 0, .string ⟨#[]⟩, .slice none 0 0], .int .i64 0]) ∧ Below w.heap.size w w' ∧ Tab w' OA' on' oc' (setAll (tyOf t.name) p.num l (nmL n)) := by
 have hix : pIx ⟨#[111, 112]⟩ ((3 : Nat) : Int) = 0 := by kernel_rfl
 refine (f_call_run (fun _ w8 r => r.er = 0 ∧ r.q = q ∧ r.u = u ∧ r.c = c ∧ r.d = d ∧ r.cn = 0 ∧ r.rn = 1 ∧ Tab w8 r.oa r.on r.oc (setAll (tyOf t.name) p.num l (nmL n))) OA on oc q u c d none 0 0 gn ⟨#[111, 112]⟩ AA 3 ac [p, t, n] l [] w hTab hon hov hfv rfl rfl (fun j hj => absurd hj (by simp)) (fun _ => .inl rfl) (by decide) rfl (by decide) (by unfold maxLen; decide) hA hg hsm (by rw [hix]; decide) fun W OB oB CB cB hB hT hP hlt => ?_).mono fun e w' h => ?_
 ·rw [hix]
  refine (f_setOps_n 0 OB on oB q u c d CB 0 cB 3 gn ⟨#[111, 112]⟩ AA ac p t n l [] W hT hon (hP.mono (Nat.zero_le _)) ((hA.keep hB).mono hB.size) hg hv).mono fun e w' h => ?_
  obtain ⟨r, rfl, hB', hr⟩ := h
  unfold setOpsC at hr
  rw [chk_ok hok] at hr
  dsimp only at hr
  rw [go_ok hset] at hr
  obtain ⟨h1, h2, h3, h4, h5, _⟩ := hr
  dsimp only at h3
  injection h3 with g1 g2 g3 g4
  exact ⟨r, rfl, hB', h1, g1, g2, g3, g4, h4.len, h5, h2⟩
 ·obtain ⟨⟨oa, on1, oc1, q1, u1, c1, d1, ca, cn1, cc1, ra, rn, rc, bk, bn, bs, ba, bz, bc, er⟩, W, w8, rfl, hB, hN, h1, h2, h3, h4, h5, h6, h7, hT⟩ := h
  dsimp only at h1 h2 h3 h4 h5 h6 h7 hT
  subst h1 h2 h3 h4 h5 h6 h7
  exact ⟨oa, on1, oc1, ca, cc1, ra, rc, rfl, hB, hN.tab hT⟩
end Go.Proofs.YtfkhcpeahdkafaaGreat
namespace Go.Proofs.YtfkhcpeahdkafaaGreat
open Go.RowKit Hb
set_option maxRecDepth 100000
set_option maxHeartbeats 6400000 in
theorem law_example (w : World) : Calls Tryz.prog 22 #[] w fun e w' => e = .returned (.bool true) ∧ Below w.heap.size w w' := by
 have HG : Hid (∀ W, Calls Tryz.prog 16 #[.agg #[.int .i64 1, .int .i64 1, .bool false, .bool false], .string ⟨#[100, 111, 117, 98, 108, 101, 95, 113, 117, 111, 116, 101, 115]⟩] W fun e w' => ∃ A1 c1, e = .returned (.tuple #[.agg #[.int .i64 2, .int .i64 0, .string ⟨#[99, 111, 100, 101, 115]⟩, .slice A1 0 c1], .int .i64 0]) ∧ Below W.heap.size W w') := Lib.hid fun W => by
  have := f_get flDef ⟨#[100, 111, 117, 98, 108, 101, 95, 113, 117, 111, 116, 101, 115]⟩ W
  rw [ex_get, ex_getE] at this
  exact this
 have HS : Hid (∀ W, Calls Tryz.prog 20 #[.agg #[.int .i64 1, .int .i64 1, .bool false, .bool false], .string ⟨#[100, 101, 98, 117, 103]⟩, .agg #[.int .i64 2, .int .i64 0, .string ⟨#[111, 110]⟩, .slice none 0 0]] W fun e w' => e = .returned (.tuple #[.agg #[.int .i64 1, .int .i64 1, .bool false, .bool true], .int .i64 0]) ∧ Below W.heap.size W w') := Lib.hid fun W => by
  have := f_set flDef ⟨#[100, 101, 98, 117, 103]⟩ (atomT ⟨#[111, 110]⟩) none 0 W TmsK.nil
  rw [ex_setF, ex_setE] at this
  exact this
 have HF : Hid (∀ W A' n' c', Tab W A' n' c' (setR defL ⟨⟨#[105, 110]⟩, 1, 700⟩).1 → Calls Tryz.prog 55 #[.slice A' n' c', .int .i64 2, .string ⟨#[105, 110]⟩] W fun e w' => e = .returned (.tuple #[.agg #[.string ⟨#[105, 110]⟩, .int .i64 1, .int .i64 700], .bool true]) ∧ Below W.heap.size W w') := Lib.hid fun W A' n' c' h => by
  have := ref_find A' n' c' _ 2 ⟨#[105, 110]⟩ W (by rw [h.len, ex_setL]; omega) h
  rw [ex_find] at this
  exact this
 have HD : Hid (∀ W, Calls Tryz.prog 10 #[] W fun e w' => e = .returned (.agg #[.int .i64 1, .int .i64 1, .bool false, .bool false]) ∧ Below W.heap.size W w') := Lib.hid fun W => f_default W
 go_enter Tryz.func22, Tryz.ntmps22
 go_wp2_with fail
 refine (HD.out _).mono ?_; rintro e w1 ⟨rfl, hB1⟩
 have HB1 := Lib.hid hB1
 clear hB1
 go_wp2_with fail
 refine (HG.out _).mono ?_; rintro e w2 ⟨A1, c1, rfl, hB2⟩
 have HB2 := Lib.hid (HB1.out.trans (hB2.mono HB1.out.size))
 clear hB2 HB1
 go_wp2_with fail
 refine (HD.out _).mono ?_; rintro e w3 ⟨rfl, hB3⟩
 have HB3 := Lib.hid (HB2.out.trans (((Below.refl w2.heap.size w2).alloc (Nat.le_refl _) _ |>.trans (hB3.mono (by simp))).mono HB2.out.size))
 have HK1 := Lib.hid ((Bk.new w2 [.int .i64 2, .int .i64 0, .string ⟨#[99, 111, 100, 101, 115]⟩, .slice A1 0 c1] 26).call hB3)
 clear hB3 HB2
 go_wp2_with fail
 refine (law_atom _ _).mono ?_; rintro e w4 ⟨rfl, hB4⟩
 have HB4 := Lib.hid (HB3.out.trans (hB4.mono HB3.out.size))
 have HK1b := Lib.hid (HK1.out.call hB4)
 clear hB4 HB3 HK1
 go_wp2_with fail
 refine (HS.out _).mono ?_; rintro e w5 ⟨rfl, hB5⟩
 have HB5 := Lib.hid (HB4.out.trans (hB5.mono HB4.out.size))
 have HK1c := Lib.hid (HK1b.out.call hB5)
 clear hB5 HB4 HK1b
 go_wp2_with fail
 refine (f_start _).mono ?_; rintro e w6 ⟨sg, sc, rfl, hB6, hT6⟩
 have HB6 := Lib.hid (HB5.out.trans (((Below.refl w5.heap.size w5).alloc (Nat.le_refl _) _ |>.trans (hB6.mono (by simp))).mono HB5.out.size))
 have HK1d := Lib.hid ((HK1c.out.al _).call hB6)
 have HK3 := Lib.hid ((Bk.new w5 [.int .i64 1, .int .i64 1, .bool false, .bool true] 23).call hB6)
 have HT6 := Lib.hid hT6
 clear hB6 HB5 HK1c hT6
 go_wp2_with fail
 refine (law_number _ _).mono ?_; rintro e w7 ⟨rfl, hB7⟩
 have HB7 := Lib.hid (HB6.out.trans (hB7.mono HB6.out.size))
 have HK1e := Lib.hid (HK1d.out.call hB7)
 have HK3b := Lib.hid (HK3.out.call hB7)
 have HT7 := Lib.hid (HT6.out.below hB7)
 clear hB7 HB6 HK1d HK3 HT6
 go_wp2_with fail
 refine (law_atom _ _).mono ?_; rintro e w8 ⟨rfl, hB8⟩
 have HB8 := Lib.hid (HB7.out.trans (hB8.mono HB7.out.size))
 have HK1f := Lib.hid (HK1e.out.call hB8)
 have HK3c := Lib.hid (HK3b.out.call hB8)
 have HT8 := Lib.hid (HT7.out.below hB8)
 clear hB8 HB7 HK1e HK3b HT7
 go_wp2_with fail
 refine (law_atom _ _).mono ?_; rintro e w9 ⟨rfl, hB9⟩
 have HB9 := Lib.hid (HB8.out.trans (hB9.mono HB8.out.size))
 have HK1g := Lib.hid (HK1f.out.call hB9)
 have HK3d := Lib.hid (HK3c.out.call hB9)
 have HT9 := Lib.hid (HT8.out.below hB9)
 clear hB9 HB8 HK1f HK3c HT8
 go_wp2_with fail
 refine (law_goal _ _ _ _ _).mono ?_; rintro e w10 ⟨rfl, hB10⟩
 have hR : TmsK (fun b => b < w9.heap.size + 1) (w9.alloc (.cells #[.int .i64 1, .int .i64 700, .string ⟨#[]⟩, .slice none 0 0, .int .i64 2, .int .i64 0, .string ⟨#[120, 102, 120]⟩, .slice none 0 0, .int .i64 2, .int .i64 0, .string ⟨#[105, 110]⟩, .slice none 0 0] 26)) (some ⟨w9.heap.size, 0, none⟩) [(.mk 1 700 ⟨#[]⟩ []), (.mk 2 0 ⟨#[120, 102, 120]⟩ []), (.mk 2 0 ⟨#[105, 110]⟩ [])] := TmsK.rows (K := fun b => b < w9.heap.size + 1) (w := w9) (rs := [((.mk 1 700 ⟨#[]⟩ []), none, 0), ((.mk 2 0 ⟨#[120, 102, 120]⟩ []), none, 0), ((.mk 2 0 ⟨#[105, 110]⟩ []), none, 0)]) (e := 26) (by omega) (by simp [maxLen]) (fun x hx => by
  simp only [List.mem_cons, List.mem_nil_iff, or_false] at hx
  rcases hx with rfl | rfl | rfl <;> exact TmsK.nil)
 have HR10 := Lib.hid ((TmsK.at' hR).keep hB10 |>.mono hB10.size)
 have HB10 := Lib.hid (HB9.out.trans (((Below.refl w9.heap.size w9).alloc (Nat.le_refl _) _ |>.trans (hB10.mono (by simp))).mono HB9.out.size))
 have HK1h := Lib.hid ((HK1g.out.al _).call hB10)
 have HK3e := Lib.hid ((HK3d.out.al _).call hB10)
 have HT10 := Lib.hid ((HT9.out.below ((Below.refl _ _).alloc (Nat.le_refl _) _)).below hB10)
 clear hB10 HB9 HK1g HK3d HT9 hR
 have HCA := Lib.hid (f_call_op (some ⟨sg, 0, none⟩) 41 sc 1 1 false false 0 (some ⟨w9.heap.size, 0, none⟩) 3 (.mk 1 700 ⟨#[]⟩ []) (.mk 2 0 ⟨#[120, 102, 120]⟩ []) (.mk 2 0 ⟨#[105, 110]⟩ []) defL w10 HT10.out (by omega) ex_opsV rfl HR10.out ex_vg ex_vn ex_same ex_chk ex_sets)
 rw [show setAll (tyOf (Tm.mk 2 0 ⟨#[120, 102, 120]⟩ []).name) (Tm.mk 1 700 ⟨#[]⟩ []).num defL (nmL (.mk 2 0 ⟨#[105, 110]⟩ [])) = (setR defL ⟨⟨#[105, 110]⟩, 1, 700⟩).1 by rw [ex_names, show tyOf (Tm.mk 2 0 ⟨#[120, 102, 120]⟩ []).name = 1 from ex_ty]; rfl] at HCA
 go_wp2_with fail
 refine HCA.out.mono ?_; rintro e w11 ⟨OA', on', oc', CA', cc', rb, rx, rfl, hB11, hT11⟩
 have HB11 := Lib.hid (HB10.out.trans (hB11.mono HB10.out.size))
 have HK1i := Lib.hid (HK1h.out.call hB11)
 have HK3f := Lib.hid (HK3e.out.call hB11)
 have HT11 := Lib.hid hT11
 clear hB11 HB10 HK1h HK3e HT10 hT11 HR10 HCA
 go_wp2_with fail
 refine (HF.out _ OA' on' oc' (HT11.out.below (((Below.refl w11.heap.size w11).alloc (Nat.le_refl _) _).alloc (by simp) _))).mono ?_; rintro e w12 ⟨rfl, hB12⟩
 have HB12 := Lib.hid (HB11.out.trans ((((Below.refl w11.heap.size w11).alloc (Nat.le_refl _) _).alloc (by simp) _ |>.trans (hB12.mono (by simp; omega))).mono HB11.out.size))
 have HK1j := Lib.hid (((HK1i.out.al _).al _).call hB12)
 have HK3g := Lib.hid (((HK3f.out.al _).al _).call hB12)
 clear hB12 HB11 HK1i HK3f HT11
 go_wp2_with fail
 have HB0 := Lib.hid (HB12.out.alloc HB12.out.size (.cells #[.string ⟨#[105, 110]⟩, .int .i64 1, .int .i64 700] 82))
 have HK1 := Lib.hid (HK1j.out.al (.cells #[.string ⟨#[105, 110]⟩, .int .i64 1, .int .i64 700] 82))
 have HK3 := Lib.hid (HK3g.out.al (.cells #[.string ⟨#[105, 110]⟩, .int .i64 1, .int .i64 700] 82))
 have HK9 := Lib.hid (Bk.new w12 [.string ⟨#[105, 110]⟩, .int .i64 1, .int .i64 700] 82)
 obtain ⟨W0, HW0⟩ : ∃ W0, Hid (W0 = w12.alloc (.cells #[.string ⟨#[105, 110]⟩, .int .i64 1, .int .i64 700] 82)) := ⟨_, Lib.hid rfl⟩
 have hw9 : w12.alloc (.cells [.string ⟨#[105, 110]⟩, .int .i64 1, .int .i64 700].toArray 82) = w12.alloc (.cells #[.string ⟨#[105, 110]⟩, .int .i64 1, .int .i64 700] 82) := rfl
 rw [hw9] at HK9
 rw [← HW0.out] at HB0 HK1 HK3 HK9 ⊢
 clear HW0 hw9 HB12 HK1j HK3g
 rename_i K0 hK0
 have a0 := HK1.out.c 0 (.int .i64 2) rfl
 have a1 := HK1.out.c 1 (.int .i64 0) rfl
 have a2 := HK1.out.c 2 (.string ⟨#[99, 111, 100, 101, 115]⟩) rfl
 have a3 := HK1.out.c 3 (.slice A1 0 c1) rfl
 have a4 := HK3.out.c 3 (.bool true) rfl
 have a5 := HK9.out.c 2 (.int .i64 700) rfl
 have l1 := HK1.out.lt
 have l3 := HK3.out.lt
 have l9 := HK9.out.lt
 have HNM : Hid (∀ X, Calls Tryz.prog 14 #[] X fun e w' => ∃ v, e = .returned v ∧ ((∃ A' c', v = Value.slice A' 9 c') ∧ Below X.heap.size X w')) := Lib.hid fun X => (f_names X).mono fun e w' h => by
  obtain ⟨v, he, hB, ho⟩ := h
  obtain ⟨A', c', hv⟩ := own_sliceO ho
  exact ⟨v, he, ⟨A', c', hv⟩, hB⟩
 have HAT : Hid (∀ X, Calls Tryz.prog 34 #[.string ⟨#[99, 111, 100, 101, 115]⟩] X fun e w' => ∃ v, e = .returned v ∧ (v = .agg #[.int .i64 2, .int .i64 0, .string ⟨#[99, 111, 100, 101, 115]⟩, .slice none 0 0] ∧ Below X.heap.size X w')) := Lib.hid fun X => (law_atom _ X).mono fun e w' h => ⟨_, h.1, rfl, h.2⟩
 have HSM : Hid (∀ X, Calls Tryz.prog 18 #[.agg #[.int .i64 2, .int .i64 0, .string ⟨#[99, 111, 100, 101, 115]⟩, .slice A1 0 c1], .agg #[.int .i64 2, .int .i64 0, .string ⟨#[99, 111, 100, 101, 115]⟩, .slice none 0 0]] X fun e w' => ∃ v, e = .returned v ∧ (v = .bool true ∧ Below X.heap.size X w')) := Lib.hid fun X => by
  have := law_same (atomT ⟨#[99, 111, 100, 101, 115]⟩) (atomT ⟨#[99, 111, 100, 101, 115]⟩) A1 none c1 0 X TmsK.nil TmsK.nil
  rw [show sameT (atomT ⟨#[99, 111, 100, 101, 115]⟩) (atomT ⟨#[99, 111, 100, 101, 115]⟩) = true by unfold sameT; rw [show validT (atomT ⟨#[99, 111, 100, 101, 115]⟩) = true by unfold validT atomT; rw [ex_one _ rfl, ex_leaf]; decide +kernel, eqT_yes rfl]; rfl] at this
  exact this.mono fun e w' h => ⟨_, h.1, rfl, h.2⟩
 refine wp_region_any (by kernel_rfl) ?_
 refine wpAny_inv (fun S a X => ∃ nv, a = exT w2 w5 w9 w11 w12 rb rx A1 c1 sg sc OA' on' oc' CA' cc' S nv ∧ Below W0.heap.size W0 X ∧ (S 33 = true → ∃ A' c', nv = Value.slice A' 9 c')) (by kernel_rfl) ?step ?fin 38 (fun _ => false) _ _ (by decide) ⟨undef, rfl, (Below.refl _ W0).drew, fun h => (by cases h)⟩
 case step =>
  rintro S j o a X ho hs hp ⟨nv, rfl, hB, hnv⟩
  have hlt : j < 38 := (Array.getElem?_eq_some_iff.1 ho).1
  rcases (show j = 0 ∨ j = 1 ∨ j = 2 ∨ j = 3 ∨ j = 4 ∨ j = 5 ∨ j = 6 ∨ j = 7 ∨ j = 8 ∨ j = 9 ∨ j = 10 ∨ j = 11 ∨ j = 12 ∨ j = 13 ∨ j = 14 ∨ j = 15 ∨ j = 16 ∨ j = 17 ∨ j = 18 ∨ j = 19 ∨ j = 20 ∨ j = 21 ∨ j = 22 ∨ j = 23 ∨ j = 24 ∨ j = 25 ∨ j = 26 ∨ j = 27 ∨ j = 28 ∨ j = 29 ∨ j = 30 ∨ j = 31 ∨ j = 32 ∨ j = 33 ∨ j = 34 ∨ j = 35 ∨ j = 36 ∨ j = 37 by omega) with rfl | rfl | rfl | rfl | rfl | rfl | rfl | rfl | rfl | rfl | rfl | rfl | rfl | rfl | rfl | rfl | rfl | rfl | rfl | rfl | rfl | rfl | rfl | rfl | rfl | rfl | rfl | rfl | rfl | rfl | rfl | rfl | rfl | rfl | rfl | rfl | rfl | rfl
  ·cases ho
   rw [if_pos (show Region.wanted _ _ = true from rfl)]
   refine wp_val (v := .int .i64 0) (w' := X) ?_ ⟨nv, rfl, hB, hnv⟩
   simp [execOp, go_sem, Act.eval, exT]
  ·cases ho
   have s0 : S 0 = true := hp ⟨0, .data⟩ (by simp) rfl
   rw [if_pos (show Region.wanted _ _ = true from rfl)]
   refine wp_val (v := .bool true) (w' := X) ?_ ⟨nv, rfl, hB, hnv⟩
   simp [execOp, go_sem, Act.eval, exT, s0]
  ·cases ho
   have s1 : S 1 = true := hp ⟨1, .data⟩ (by simp) rfl
   rw [if_pos (show Region.wanted _ _ = true from rfl)]
   refine wp_val (v := .bool true) (w' := X) ?_ ⟨nv, rfl, hB, hnv⟩
   simp [execOp, go_sem, Act.eval, exT, s1]
  ·cases ho
   have s2 : S 2 = true := hp ⟨2, .guard⟩ (by simp) rfl
   have x0 : X.cell? ⟨w2.heap.size, 0, none⟩ = some (.int .i64 2) := (hB.cell (p := ⟨_, 0, none⟩) l1).trans a0
   have x1 : X.cell? ⟨w2.heap.size, 1, none⟩ = some (.int .i64 0) := (hB.cell (p := ⟨_, 1, none⟩) l1).trans a1
   have x2 : X.cell? ⟨w2.heap.size, 2, none⟩ = some (.string ⟨#[99, 111, 100, 101, 115]⟩) := (hB.cell (p := ⟨_, 2, none⟩) l1).trans a2
   have x3 : X.cell? ⟨w2.heap.size, 3, none⟩ = some (.slice A1 0 c1) := (hB.cell (p := ⟨_, 3, none⟩) l1).trans a3
   rw [if_pos (show Region.wanted _ (yielded _ _) = true by simp [Region.wanted, yielded, exT, s2])]
   refine wp_val (v := .agg #[.int .i64 2, .int .i64 0, .string ⟨#[99, 111, 100, 101, 115]⟩, .slice A1 0 c1]) (w' := X) ?_ ⟨nv, rfl, hB, hnv⟩
   simp [execOp, go_sem, Act.eval, exT, x0, x1, x2, x3]
  ·cases ho
   have s2 : S 2 = true := hp ⟨2, .guard⟩ (by simp) rfl
   rw [if_pos (show Region.wanted _ (yielded _ _) = true by simp [Region.wanted, yielded, exT, s2])]
   refine wp_cal ?_ (HAT.out X) (fun v w' hR => ?_)
   ·simp [execOp, go_sem, Act.eval, exT]
    try rfl
   ·obtain ⟨rfl, hB'⟩ := hR
    exact ⟨nv, rfl, hB.trans (hB'.mono hB.size), hnv⟩
  ·cases ho
   have s3 : S 3 = true := hp ⟨3, .data⟩ (by simp) rfl
   have s4 : S 4 = true := hp ⟨4, .data⟩ (by simp) rfl
   have s2 : S 2 = true := hp ⟨2, .guard⟩ (by simp) rfl
   rw [if_pos (show Region.wanted _ (yielded _ _) = true by simp [Region.wanted, yielded, exT, s2])]
   refine wp_cal ?_ (HSM.out X) (fun v w' hR => ?_)
   ·simp [execOp, go_sem, Act.eval, exT, s3, s4]
    try rfl
   ·obtain ⟨rfl, hB'⟩ := hR
    exact ⟨nv, rfl, hB.trans (hB'.mono hB.size), hnv⟩
  ·cases ho
   have s2 : S 2 = true := hp ⟨2, .data⟩ (by simp) rfl
   have s5 : S 5 = true := hp ⟨5, .data⟩ (by simp) rfl
   rw [if_pos (show Region.wanted _ _ = true from rfl)]
   refine wp_val (v := .bool true) (w' := X) ?_ ⟨nv, rfl, hB, hnv⟩
   simp [execOp, go_sem, Act.eval, exT, s2, s5]
  ·cases ho
   have s6 : S 6 = true := hp ⟨6, .data⟩ (by simp) rfl
   rw [if_pos (show Region.wanted _ _ = true from rfl)]
   refine wp_val (v := .bool true) (w' := X) ?_ ⟨nv, rfl, hB, hnv⟩
   simp [execOp, go_sem, Act.eval, exT, s6]
  ·cases ho
   have s7 : S 7 = true := hp ⟨7, .guard⟩ (by simp) rfl
   rw [if_pos (show Region.wanted _ (yielded _ _) = true by simp [Region.wanted, yielded, exT, s7])]
   refine wp_val (v := .int .i64 0) (w' := X) ?_ ⟨nv, rfl, hB, hnv⟩
   simp [execOp, go_sem, Act.eval, exT]
  ·cases ho
   have s8 : S 8 = true := hp ⟨8, .data⟩ (by simp) rfl
   have s7 : S 7 = true := hp ⟨7, .guard⟩ (by simp) rfl
   rw [if_pos (show Region.wanted _ (yielded _ _) = true by simp [Region.wanted, yielded, exT, s7])]
   refine wp_val (v := .bool true) (w' := X) ?_ ⟨nv, rfl, hB, hnv⟩
   simp [execOp, go_sem, Act.eval, exT, s8]
  ·cases ho
   have s7 : S 7 = true := hp ⟨7, .data⟩ (by simp) rfl
   have s9 : S 9 = true := hp ⟨9, .data⟩ (by simp) rfl
   rw [if_pos (show Region.wanted _ _ = true from rfl)]
   refine wp_val (v := .bool true) (w' := X) ?_ ⟨nv, rfl, hB, hnv⟩
   simp [execOp, go_sem, Act.eval, exT, s7, s9]
  ·cases ho
   have s10 : S 10 = true := hp ⟨10, .data⟩ (by simp) rfl
   rw [if_pos (show Region.wanted _ _ = true from rfl)]
   refine wp_val (v := .bool true) (w' := X) ?_ ⟨nv, rfl, hB, hnv⟩
   simp [execOp, go_sem, Act.eval, exT, s10]
  ·cases ho
   have s11 : S 11 = true := hp ⟨11, .guard⟩ (by simp) rfl
   rw [if_pos (show Region.wanted _ (yielded _ _) = true by simp [Region.wanted, yielded, exT, s11])]
   refine wp_val (v := .pointer (some ⟨w5.heap.size, 3, none⟩)) (w' := X) ?_ ⟨nv, rfl, hB, hnv⟩
   simp [execOp, go_sem, Act.eval, exT]
  ·cases ho
   have s12 : S 12 = true := hp ⟨12, .data⟩ (by simp) rfl
   have s11 : S 11 = true := hp ⟨11, .guard⟩ (by simp) rfl
   have x4 : X.cell? ⟨w5.heap.size, 3, none⟩ = some (.bool true) := (hB.cell (p := ⟨_, 3, none⟩) l3).trans a4
   rw [if_pos (show Region.wanted _ (yielded _ _) = true by simp [Region.wanted, yielded, exT, s11])]
   refine wp_val (v := .bool true) (w' := X) ?_ ⟨nv, rfl, hB, hnv⟩
   simp [execOp, go_sem, Act.eval, exT, s12, x4]
  ·cases ho
   have s11 : S 11 = true := hp ⟨11, .data⟩ (by simp) rfl
   have s13 : S 13 = true := hp ⟨13, .data⟩ (by simp) rfl
   rw [if_pos (show Region.wanted _ _ = true from rfl)]
   refine wp_val (v := .bool true) (w' := X) ?_ ⟨nv, rfl, hB, hnv⟩
   simp [execOp, go_sem, Act.eval, exT, s11, s13]
  ·cases ho
   have s14 : S 14 = true := hp ⟨14, .data⟩ (by simp) rfl
   rw [if_pos (show Region.wanted _ _ = true from rfl)]
   refine wp_val (v := .bool true) (w' := X) ?_ ⟨nv, rfl, hB, hnv⟩
   simp [execOp, go_sem, Act.eval, exT, s14]
  ·cases ho
   have s15 : S 15 = true := hp ⟨15, .guard⟩ (by simp) rfl
   rw [if_pos (show Region.wanted _ (yielded _ _) = true by simp [Region.wanted, yielded, exT, s15])]
   refine wp_val (v := .int .i64 0) (w' := X) ?_ ⟨nv, rfl, hB, hnv⟩
   simp [execOp, go_sem, Act.eval, exT]
  ·cases ho
   have s16 : S 16 = true := hp ⟨16, .data⟩ (by simp) rfl
   have s15 : S 15 = true := hp ⟨15, .guard⟩ (by simp) rfl
   rw [if_pos (show Region.wanted _ (yielded _ _) = true by simp [Region.wanted, yielded, exT, s15])]
   refine wp_val (v := .bool true) (w' := X) ?_ ⟨nv, rfl, hB, hnv⟩
   simp [execOp, go_sem, Act.eval, exT, s16]
  ·cases ho
   have s15 : S 15 = true := hp ⟨15, .data⟩ (by simp) rfl
   have s17 : S 17 = true := hp ⟨17, .data⟩ (by simp) rfl
   rw [if_pos (show Region.wanted _ _ = true from rfl)]
   refine wp_val (v := .bool true) (w' := X) ?_ ⟨nv, rfl, hB, hnv⟩
   simp [execOp, go_sem, Act.eval, exT, s15, s17]
  ·cases ho
   have s18 : S 18 = true := hp ⟨18, .data⟩ (by simp) rfl
   rw [if_pos (show Region.wanted _ _ = true from rfl)]
   refine wp_val (v := .bool true) (w' := X) ?_ ⟨nv, rfl, hB, hnv⟩
   simp [execOp, go_sem, Act.eval, exT, s18]
  ·cases ho
   have s19 : S 19 = true := hp ⟨19, .guard⟩ (by simp) rfl
   rw [if_pos (show Region.wanted _ (yielded _ _) = true by simp [Region.wanted, yielded, exT, s19])]
   refine wp_val (v := .slice rb 1 rx) (w' := X) ?_ ⟨nv, rfl, hB, hnv⟩
   simp [execOp, go_sem, Act.eval, exT]
  ·cases ho
   have s20 : S 20 = true := hp ⟨20, .data⟩ (by simp) rfl
   have s19 : S 19 = true := hp ⟨19, .guard⟩ (by simp) rfl
   rw [if_pos (show Region.wanted _ (yielded _ _) = true by simp [Region.wanted, yielded, exT, s19])]
   refine wp_val (v := .int .i64 1) (w' := X) ?_ ⟨nv, rfl, hB, hnv⟩
   simp [execOp, go_sem, Act.eval, exT, s20]
  ·cases ho
   have s21 : S 21 = true := hp ⟨21, .data⟩ (by simp) rfl
   have s19 : S 19 = true := hp ⟨19, .guard⟩ (by simp) rfl
   rw [if_pos (show Region.wanted _ (yielded _ _) = true by simp [Region.wanted, yielded, exT, s19])]
   refine wp_val (v := .bool true) (w' := X) ?_ ⟨nv, rfl, hB, hnv⟩
   simp [execOp, go_sem, Act.eval, exT, s21]
  ·cases ho
   have s19 : S 19 = true := hp ⟨19, .data⟩ (by simp) rfl
   have s22 : S 22 = true := hp ⟨22, .data⟩ (by simp) rfl
   rw [if_pos (show Region.wanted _ _ = true from rfl)]
   refine wp_val (v := .bool true) (w' := X) ?_ ⟨nv, rfl, hB, hnv⟩
   simp [execOp, go_sem, Act.eval, exT, s19, s22]
  ·cases ho
   have s23 : S 23 = true := hp ⟨23, .data⟩ (by simp) rfl
   rw [if_pos (show Region.wanted _ _ = true from rfl)]
   refine wp_val (v := .bool true) (w' := X) ?_ ⟨nv, rfl, hB, hnv⟩
   simp [execOp, go_sem, Act.eval, exT, s23]
  ·cases ho
   have s24 : S 24 = true := hp ⟨24, .guard⟩ (by simp) rfl
   rw [if_pos (show Region.wanted _ (yielded _ _) = true by simp [Region.wanted, yielded, exT, s24])]
   refine wp_val (v := .bool true) (w' := X) ?_ ⟨nv, rfl, hB, hnv⟩
   simp [execOp, go_sem, Act.eval, exT]
  ·cases ho
   have s24 : S 24 = true := hp ⟨24, .data⟩ (by simp) rfl
   have s25 : S 25 = true := hp ⟨25, .data⟩ (by simp) rfl
   rw [if_pos (show Region.wanted _ _ = true from rfl)]
   refine wp_val (v := .bool true) (w' := X) ?_ ⟨nv, rfl, hB, hnv⟩
   simp [execOp, go_sem, Act.eval, exT, s24, s25]
  ·cases ho
   have s26 : S 26 = true := hp ⟨26, .data⟩ (by simp) rfl
   rw [if_pos (show Region.wanted _ _ = true from rfl)]
   refine wp_val (v := .bool true) (w' := X) ?_ ⟨nv, rfl, hB, hnv⟩
   simp [execOp, go_sem, Act.eval, exT, s26]
  ·cases ho
   have s27 : S 27 = true := hp ⟨27, .guard⟩ (by simp) rfl
   rw [if_pos (show Region.wanted _ (yielded _ _) = true by simp [Region.wanted, yielded, exT, s27])]
   refine wp_val (v := .pointer (some ⟨w12.heap.size, 2, none⟩)) (w' := X) ?_ ⟨nv, rfl, hB, hnv⟩
   simp [execOp, go_sem, Act.eval, exT]
  ·cases ho
   have s28 : S 28 = true := hp ⟨28, .data⟩ (by simp) rfl
   have s27 : S 27 = true := hp ⟨27, .guard⟩ (by simp) rfl
   have x5 : X.cell? ⟨w12.heap.size, 2, none⟩ = some (.int .i64 700) := (hB.cell (p := ⟨_, 2, none⟩) l9).trans a5
   rw [if_pos (show Region.wanted _ (yielded _ _) = true by simp [Region.wanted, yielded, exT, s27])]
   refine wp_val (v := .int .i64 700) (w' := X) ?_ ⟨nv, rfl, hB, hnv⟩
   simp [execOp, go_sem, Act.eval, exT, s28, x5]
  ·cases ho
   have s29 : S 29 = true := hp ⟨29, .data⟩ (by simp) rfl
   have s27 : S 27 = true := hp ⟨27, .guard⟩ (by simp) rfl
   rw [if_pos (show Region.wanted _ (yielded _ _) = true by simp [Region.wanted, yielded, exT, s27])]
   refine wp_val (v := .bool true) (w' := X) ?_ ⟨nv, rfl, hB, hnv⟩
   simp [execOp, go_sem, Act.eval, exT, s29]
  ·cases ho
   have s27 : S 27 = true := hp ⟨27, .data⟩ (by simp) rfl
   have s30 : S 30 = true := hp ⟨30, .data⟩ (by simp) rfl
   rw [if_pos (show Region.wanted _ _ = true from rfl)]
   refine wp_val (v := .bool true) (w' := X) ?_ ⟨nv, rfl, hB, hnv⟩
   simp [execOp, go_sem, Act.eval, exT, s27, s30]
  ·cases ho
   have s31 : S 31 = true := hp ⟨31, .data⟩ (by simp) rfl
   rw [if_pos (show Region.wanted _ _ = true from rfl)]
   refine wp_val (v := .bool true) (w' := X) ?_ ⟨nv, rfl, hB, hnv⟩
   simp [execOp, go_sem, Act.eval, exT, s31]
  ·cases ho
   have s32 : S 32 = true := hp ⟨32, .guard⟩ (by simp) rfl
   rw [if_pos (show Region.wanted _ (yielded _ _) = true by simp [Region.wanted, yielded, exT, s32])]
   refine wp_cal ?_ (HNM.out X) (fun v w' hR => ?_)
   ·simp [execOp, go_sem, Act.eval, exT]
    try rfl
   ·obtain ⟨hv, hB'⟩ := hR
    exact ⟨v, rfl, hB.trans (hB'.mono hB.size), fun _ => hv⟩
  ·cases ho
   have s33 : S 33 = true := hp ⟨33, .data⟩ (by simp) rfl
   have s32 : S 32 = true := hp ⟨32, .guard⟩ (by simp) rfl
   obtain ⟨A3, c3, hnve⟩ := hnv s33
   subst hnve
   rw [if_pos (show Region.wanted _ (yielded _ _) = true by simp [Region.wanted, yielded, exT, s32])]
   refine wp_val (v := .int .i64 9) (w' := X) ?_ ⟨_, rfl, hB, fun _ => ⟨A3, c3, rfl⟩⟩
   simp [execOp, go_sem, Act.eval, exT, s33]
  ·cases ho
   have s34 : S 34 = true := hp ⟨34, .data⟩ (by simp) rfl
   have s32 : S 32 = true := hp ⟨32, .guard⟩ (by simp) rfl
   rw [if_pos (show Region.wanted _ (yielded _ _) = true by simp [Region.wanted, yielded, exT, s32])]
   refine wp_val (v := .bool true) (w' := X) ?_ ⟨nv, rfl, hB, hnv⟩
   simp [execOp, go_sem, Act.eval, exT, s34]
  ·cases ho
   have s32 : S 32 = true := hp ⟨32, .data⟩ (by simp) rfl
   have s35 : S 35 = true := hp ⟨35, .data⟩ (by simp) rfl
   rw [if_pos (show Region.wanted _ _ = true from rfl)]
   refine wp_val (v := .bool true) (w' := X) ?_ ⟨nv, rfl, hB, hnv⟩
   simp [execOp, go_sem, Act.eval, exT, s32, s35]
  ·cases ho
   have s36 : S 36 = true := hp ⟨36, .data⟩ (by simp) rfl
   rw [if_pos (show Region.wanted _ _ = true from rfl)]
   refine wp_val (v := .bool true) (w' := X) ?_ ⟨nv, rfl, hB, hnv⟩
   simp [execOp, go_sem, Act.eval, exT, s36]
 case fin =>
  rintro S a X hall ⟨nv, rfl, hB, -⟩
  have s0 := hall 0 (show 0 < 38 by omega)
  have s1 := hall 1 (show 1 < 38 by omega)
  have s2 := hall 2 (show 2 < 38 by omega)
  have s3 := hall 3 (show 3 < 38 by omega)
  have s4 := hall 4 (show 4 < 38 by omega)
  have s5 := hall 5 (show 5 < 38 by omega)
  have s6 := hall 6 (show 6 < 38 by omega)
  have s7 := hall 7 (show 7 < 38 by omega)
  have s8 := hall 8 (show 8 < 38 by omega)
  have s9 := hall 9 (show 9 < 38 by omega)
  have s10 := hall 10 (show 10 < 38 by omega)
  have s11 := hall 11 (show 11 < 38 by omega)
  have s12 := hall 12 (show 12 < 38 by omega)
  have s13 := hall 13 (show 13 < 38 by omega)
  have s14 := hall 14 (show 14 < 38 by omega)
  have s15 := hall 15 (show 15 < 38 by omega)
  have s16 := hall 16 (show 16 < 38 by omega)
  have s17 := hall 17 (show 17 < 38 by omega)
  have s18 := hall 18 (show 18 < 38 by omega)
  have s19 := hall 19 (show 19 < 38 by omega)
  have s20 := hall 20 (show 20 < 38 by omega)
  have s21 := hall 21 (show 21 < 38 by omega)
  have s22 := hall 22 (show 22 < 38 by omega)
  have s23 := hall 23 (show 23 < 38 by omega)
  have s24 := hall 24 (show 24 < 38 by omega)
  have s25 := hall 25 (show 25 < 38 by omega)
  have s26 := hall 26 (show 26 < 38 by omega)
  have s27 := hall 27 (show 27 < 38 by omega)
  have s28 := hall 28 (show 28 < 38 by omega)
  have s29 := hall 29 (show 29 < 38 by omega)
  have s30 := hall 30 (show 30 < 38 by omega)
  have s31 := hall 31 (show 31 < 38 by omega)
  have s32 := hall 32 (show 32 < 38 by omega)
  have s33 := hall 33 (show 33 < 38 by omega)
  have s34 := hall 34 (show 34 < 38 by omega)
  have s35 := hall 35 (show 35 < 38 by omega)
  have s36 := hall 36 (show 36 < 38 by omega)
  have s37 := hall 37 (show 37 < 38 by omega)
  have HBX := Lib.hid (HB0.out.trans (hB.mono HB0.out.size))
  refine hK0 _ _ ?_
  simp only [exT, s0, s1, s2, s3, s4, s5, s6, s7, s8, s9, s10, s11, s12, s13, s14, s15, s16, s17, s18, s19, s20, s21, s22, s23, s24, s25, s26, s27, s28, s29, s30, s31, s32, s33, s34, s35, s36, s37, if_true]
  clear hall hB HB0 hK0 s0 s1 s2 s3 s4 s5 s6 s7 s8 s9 s10 s11 s12 s13 s14 s15 s16 s17 s18 s19 s20 s21 s22 s23 s24 s25 s26 s27 s28 s29 s30 s31 s32 s33 s34 s35 s36 s37
  go_wp2_with fail
  go_ret
  exact ⟨rfl, HBX.out⟩
end Go.Proofs.YtfkhcpeahdkafaaGreat
