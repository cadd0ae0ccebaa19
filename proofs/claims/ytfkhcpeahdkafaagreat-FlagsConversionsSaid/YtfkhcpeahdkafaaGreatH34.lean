/- Flags: the laws' char and to. -/
import Derived.Test.YtfkhcpeahdkafaaGreatH33
import Derived.Test.YtfkhcpeahdkafaaGreatH28
namespace Hb
open Go Go.RowKit
theorem atom_fits (c : Int) : validT (atomT (chS c)) = true := by rw [leaf_valid rfl]; exact char_node c
theorem chS_u8 (y : UInt8) : chS (y.toNat : Int) = ⟨#[y]⟩ := by
 unfold chS
 simp
theorem cv_struct (a b : Int) : structT ⟨#[99, 117, 114, 114, 101, 110, 116, 95, 99, 104, 97, 114, 95, 99, 111, 110, 118, 101, 114, 115, 105, 111, 110]⟩ [atomT (chS a), atomT (chS b)] = .mk 3 0 ⟨#[99, 117, 114, 114, 101, 110, 116, 95, 99, 104, 97, 114, 95, 99, 111, 110, 118, 101, 114, 115, 105, 111, 110]⟩ [atomT (chS a), atomT (chS b)] := by
 rw [structT_cons (by simp), cloneT_yes (pair_valid (by decide) rfl rfl (char_node a) (char_node b))]
end Hb
namespace Go.Proofs.YtfkhcpeahdkafaaGreat
open Go.RowKit Hb Go.Shelf
set_option maxRecDepth 100000
set_option maxHeartbeats 1600000 in
theorem law_char (a : Int) (h0 : 0 ≤ a) (h1 : a ≤ 255) (w : World) : Calls Tryz.prog 38 #[.int .u8 a] w fun e w' => e = .returned (.agg #[.int .i64 2, .int .i64 0, .string (chS a), .slice none 0 0]) ∧ Below w.heap.size w w' := by
 have hk : ∀ w : World, (convert 113 9 (.slice (some ⟨w.heap.size, 0, none⟩) 1 1)).run Tryz.prog (w.alloc (.cells #[.int .u8 a] 5)) = .ok (.string (chS a)) (w.alloc (.cells #[.int .u8 a] 5)) := fun (w : World) => conv_new1 (P := Tryz.prog) 113 9 5 Tryz.underlying113 Tryz.underlying5 Tryz.underlying9 a h0 h1 w
 have hk2 := hk (w.alloc (.cells #[.int .i64 0, .int .i64 0, .string ⟨#[]⟩, .slice none 0 0] 26))
 rw [show (w.alloc (.cells #[.int .i64 0, .int .i64 0, .string ⟨#[]⟩, .slice none 0 0] 26)).heap.size = w.heap.size + 1 by simp] at hk2
 clear hk
 have HB0 : Hid (Below w.heap.size w ((w.alloc (.cells #[.int .i64 0, .int .i64 0, .string ⟨#[]⟩, .slice none 0 0] 26)).alloc (.cells #[.int .u8 a] 5))) := Lib.hid (((Below.refl _ w).alloc (Nat.le_refl _) _).alloc (by simp) (.cells #[.int .u8 a] 5))
 have HK0 : Hid (Bks ((w.alloc (.cells #[.int .i64 0, .int .i64 0, .string ⟨#[]⟩, .slice none 0 0] 26)).alloc (.cells #[.int .u8 a] 5)) [(w.heap.size, [.int .i64 0, .int .i64 0, .string ⟨#[]⟩, .slice none 0 0])]) := Lib.hid (((Bks.nil w).new [.int .i64 0, .int .i64 0, .string ⟨#[]⟩, .slice none 0 0] 26 rfl).al _)
 go_enter Tryz.func38, Tryz.ntmps38
 go_wp2_with fail
 refine (law_atom _ _).mono ?_; rintro e w1 ⟨rfl, hB1⟩
 have HB1 := Lib.hid (HB0.out.trans (hB1.mono HB0.out.size))
 have HK1 := Lib.hid (HK0.out.call hB1)
 clear hB1 HB0 HK0 hk2
 have z0_0 := HK1.out.cell 0 0 rfl rfl
 have z0_1 := HK1.out.cell 0 1 rfl rfl
 have z0_2 := HK1.out.cell 0 2 rfl rfl
 have z0_3 := HK1.out.cell 0 3 rfl rfl
 have z0f0 := HK1.out.fz 0 0 rfl
 have z0f1 := HK1.out.fz 0 1 rfl
 have z0f2 := HK1.out.fz 0 2 rfl
 have z0f3 := HK1.out.fz 0 3 rfl
 have hk1 : Bks ((((w1.setCell ⟨w.heap.size, 0, none⟩ (.int .i64 2)).setCell ⟨w.heap.size, 1, none⟩ (.int .i64 0)).setCell ⟨w.heap.size, 2, none⟩ (.string (chS a))).setCell ⟨w.heap.size, 3, none⟩ (.slice none 0 0)) [(w.heap.size, [.int .i64 2, .int .i64 0, .string (chS a), .slice none 0 0])] := (HK1.out.set4 0 rfl (.int .i64 2) (.int .i64 0) (.string (chS a)) (.slice none 0 0))
 have hb1 : Below w.heap.size w ((((w1.setCell ⟨w.heap.size, 0, none⟩ (.int .i64 2)).setCell ⟨w.heap.size, 1, none⟩ (.int .i64 0)).setCell ⟨w.heap.size, 2, none⟩ (.string (chS a))).setCell ⟨w.heap.size, 3, none⟩ (.slice none 0 0)) := ((((HB1.out.setCell (p := ⟨w.heap.size, _, none⟩) (show w.heap.size ≤ w.heap.size by omega) _).setCell (p := ⟨w.heap.size, _, none⟩) (show w.heap.size ≤ w.heap.size by omega) _).setCell (p := ⟨w.heap.size, _, none⟩) (show w.heap.size ≤ w.heap.size by omega) _).setCell (p := ⟨w.heap.size, _, none⟩) (show w.heap.size ≤ w.heap.size by omega) _)
 obtain ⟨wz, HWZ⟩ : ∃ wz, Hid (wz = ((((w1.setCell ⟨w.heap.size, 0, none⟩ (.int .i64 2)).setCell ⟨w.heap.size, 1, none⟩ (.int .i64 0)).setCell ⟨w.heap.size, 2, none⟩ (.string (chS a))).setCell ⟨w.heap.size, 3, none⟩ (.slice none 0 0))) := ⟨_, Lib.hid rfl⟩
 rw [← HWZ.out] at hk1 hb1
 have HK9 := Lib.hid hk1
 have HB9 := Lib.hid hb1
 clear hk1 hb1
 go_wp2_with fail
 rw [← HWZ.out]
 have m0_0 := HK9.out.cell 0 0 rfl rfl
 have m0_1 := HK9.out.cell 0 1 rfl rfl
 have m0_2 := HK9.out.cell 0 2 rfl rfl
 have m0_3 := HK9.out.cell 0 3 rfl rfl
 exact bodyPost_ret (v := .agg #[.int .i64 2, .int .i64 0, .string (chS a), .slice none 0 0]) (by simp [results, Tryz.results38, go_sem, m0_0, m0_1, m0_2, m0_3]) rfl ⟨rfl, HB9.out⟩
set_option maxHeartbeats 6400000 in
theorem law_to (OA : Option Addr) (on oc : Nat) (q u : Int) (c d : Bool) (CA : Option Addr) (cn cc : Nat) (ch : Int) (a0 : 0 ≤ ch) (a1 : ch ≤ 255) (l : List OpR) (cl : List (Int × Int)) (w : World) (hTab : Tab w OA on oc l) (hov : opsValid l = true) (hfv : flOk ⟨q, u, c, d⟩ = true) (hcv : pvalid cl = true) (hcl : cn = cl.length) (hcp : Pairs w CA cl) (hc0 : cn = 0 → (Value.slice CA cn cc = .slice none 0 0 ∨ ∃ ad, CA = some ad)) :
  Calls Tryz.prog 39 #[.agg #[.slice OA on oc, .int .i64 q, .int .i64 u, .bool c, .bool d, .slice CA cn cc], .int .u8 ch] w fun e w' => e = .returned (.tuple #[.int .u8 (convT cl ch), .bool true]) ∧ Below w.heap.size w w' := by
 obtain ⟨cz, HCZ⟩ : ∃ z, Hid (z = convT cl ch) := ⟨_, Lib.hid rfl⟩
 have HZ := Lib.hid (cv_ch ((cvOk_iff cl).1 hcv) a0 a1)
 rw [← HCZ.out] at HZ ⊢
 have HCHR : Hid (∀ X, Calls Tryz.prog 38 #[.int .u8 ch] X fun e w' => ∃ v, e = .returned v ∧ (v = .agg #[.int .i64 2, .int .i64 0, .string (chS ch), .slice none 0 0] ∧ Below X.heap.size X w')) := Lib.hid fun X => (law_char ch a0 a1 X).mono fun e w' h => ⟨_, h.1, rfl, h.2⟩
 have HVAR : Hid (∀ X, Calls Tryz.prog 40 #[.int .i64 0] X fun e w' => ∃ v, e = .returned v ∧ (v = .agg #[.int .i64 0, .int .i64 0, .string ⟨#[]⟩, .slice none 0 0] ∧ Below X.heap.size X w')) := Lib.hid fun X => (law_variable 0 X).mono fun e w' h => ⟨_, h.1, rfl, h.2⟩
 have HGOAL : Hid (∀ X g, Calls Tryz.prog 35 #[.string ⟨#[99, 117, 114, 114, 101, 110, 116, 95, 99, 104, 97, 114, 95, 99, 111, 110, 118, 101, 114, 115, 105, 111, 110]⟩, .slice (some ⟨g, 0, none⟩) 2 2] X fun e w' => ∃ v, e = .returned v ∧ (v = .agg #[.int .i64 3, .int .i64 0, .string ⟨#[99, 117, 114, 114, 101, 110, 116, 95, 99, 104, 97, 114, 95, 99, 111, 110, 118, 101, 114, 115, 105, 111, 110]⟩, .slice (some ⟨g, 0, none⟩) 2 2] ∧ Below X.heap.size X w')) := Lib.hid fun X g => (law_goal _ _ _ _ X).mono fun e w' h => ⟨_, h.1, rfl, h.2⟩
 have hb0 : Below w.heap.size w (w.alloc (.cells #[.slice OA on oc, .int .i64 q, .int .i64 u, .bool c, .bool d, .slice CA cn cc] 43)) := ((Below.refl _ w).alloc (Nat.le_refl _) _)
 have HCAL : Hid (∀ X g, Below w.heap.size w X → TmsAt X.heap.size X (some ⟨g, 0, none⟩) [atomT (chS ch), .mk 0 0 ⟨#[]⟩ []] → Calls Tryz.prog 30 #[.agg #[.slice OA on oc, .int .i64 q, .int .i64 u, .bool c, .bool d, .slice CA cn cc], .agg #[.int .i64 3, .int .i64 0, .string ⟨#[99, 117, 114, 114, 101, 110, 116, 95, 99, 104, 97, 114, 95, 99, 111, 110, 118, 101, 114, 115, 105, 111, 110]⟩, .slice (some ⟨g, 0, none⟩) 2 2]] X fun e w' => ∃ v, e = .returned v ∧ ((∃ r : RV, v = r.val ∧ ResOk X.heap.size w'.heap.size w' r ⟨l, ⟨q, u, c, d⟩, cl⟩ [.mk 3 0 ⟨#[99, 117, 114, 114, 101, 110, 116, 95, 99, 104, 97, 114, 95, 99, 111, 110, 118, 101, 114, 115, 105, 111, 110]⟩ [atomT (chS ch), atomT (chS cz)]]) ∧ Below X.heap.size X w')) := Lib.hid fun X g hX hT =>
  (call_conv1 OA on oc q u c d CA cn cc (some ⟨g, 0, none⟩) 2 ch a0 a1 l cl X (hTab.below hX) hov hfv hcv hcl (hcp.below hX) hc0 hT).mono fun e w' h => by
   obtain ⟨r, he, hB, hr⟩ := h
   rw [← HCZ.out, cv_struct] at hr
   exact ⟨_, he, ⟨r, rfl, .of hr⟩, hB⟩
 have HBL0 := Lib.hid hb0
 have HBK0 : Hid (Bks (w.alloc (.cells #[.slice OA on oc, .int .i64 q, .int .i64 u, .bool c, .bool d, .slice CA cn cc] 43)) [(w.heap.size, [.slice OA on oc, .int .i64 q, .int .i64 u, .bool c, .bool d, .slice CA cn cc])]) := Lib.hid ((Bks.nil w).new [.slice OA on oc, .int .i64 q, .int .i64 u, .bool c, .bool d, .slice CA cn cc] 43 rfl)
 clear hTab hov hfv hcv hcl hcp hc0 hb0 HCZ
 go_enter Tryz.func39, Tryz.ntmps39
 go_wp2_with fail
 obtain ⟨W0, HW0⟩ : ∃ W0, Hid (W0 = (w.alloc (.cells #[.slice OA on oc, .int .i64 q, .int .i64 u, .bool c, .bool d, .slice CA cn cc] 43))) := ⟨_, Lib.hid rfl⟩
 rw [← HW0.out] at HBL0 HBK0 ⊢
 clear HW0
 rename_i K0 hK0
 have s0_0 := HBK0.out.cell 0 0 rfl rfl
 have s0_1 := HBK0.out.cell 0 1 rfl rfl
 have s0_2 := HBK0.out.cell 0 2 rfl rfl
 have s0_3 := HBK0.out.cell 0 3 rfl rfl
 have s0_4 := HBK0.out.cell 0 4 rfl rfl
 have s0_5 := HBK0.out.cell 0 5 rfl rfl
 have s0l : w.heap.size < W0.heap.size := HBK0.out.lt 0 rfl
 have HCALL : Hid (∀ X g, Below W0.heap.size W0 X → TmsAt X.heap.size X (some ⟨g, 0, none⟩) [atomT (chS ch), .mk 0 0 ⟨#[]⟩ []] → Calls Tryz.prog 30 #[.agg #[.slice OA on oc, .int .i64 q, .int .i64 u, .bool c, .bool d, .slice CA cn cc], .agg #[.int .i64 3, .int .i64 0, .string ⟨#[99, 117, 114, 114, 101, 110, 116, 95, 99, 104, 97, 114, 95, 99, 111, 110, 118, 101, 114, 115, 105, 111, 110]⟩, .slice (some ⟨g, 0, none⟩) 2 2]] X fun e w' => ∃ v, e = .returned v ∧ ((∃ r : RV, v = r.val ∧ ResOk X.heap.size w'.heap.size w' r ⟨l, ⟨q, u, c, d⟩, cl⟩ [.mk 3 0 ⟨#[99, 117, 114, 114, 101, 110, 116, 95, 99, 104, 97, 114, 95, 99, 111, 110, 118, 101, 114, 115, 105, 111, 110]⟩ [atomT (chS ch), atomT (chS cz)]]) ∧ Below X.heap.size X w')) := Lib.hid fun X g hX hT => HCAL.out X g (HBL0.out.trans (hX.mono HBL0.out.size)) hT
 refine wp_region_any (by kernel_rfl) ?_
 refine wpAny_inv (fun S a X => ∃ (g1 P Q e6 e8 : Nat) (r : RV), a = (⟨#[.agg #[.slice OA on oc, .int .i64 q, .int .i64 u, .bool c, .bool d, .slice CA cn cc], .int .u8 ch, .pointer (some ⟨w.heap.size, 0, none⟩), undef, .int .u8 0, .bool false, if S 12 = true then .pointer (some ⟨e6, 0, none⟩) else undef, if S 15 = true then .slice r.ra r.rn r.rc else undef, if S 13 = true then .pointer (some ⟨e8, 0, none⟩) else undef, if S 17 = true then .int .i64 r.er else undef, if S 7 = true then .tuple #[.agg #[.slice r.oa r.on r.oc, .int .i64 r.q, .int .i64 r.u, .bool r.c, .bool r.d, .slice r.ca r.cn r.cc], .slice r.ra r.rn r.rc, .agg #[.int .i64 r.bk, .int .i64 r.bn, .string r.bs, .slice r.ba r.bz r.bc], .int .i64 r.er] else undef, if S 0 = true then .agg #[.slice OA on oc, .int .i64 q, .int .i64 u, .bool c, .bool d, .slice CA cn cc] else undef, if S 1 = true then .int .u8 ch else undef, if S 2 = true then .agg #[.int .i64 2, .int .i64 0, .string (chS ch), .slice none 0 0] else undef, if S 3 = true then .agg #[.int .i64 0, .int .i64 0, .string ⟨#[]⟩, .slice none 0 0] else undef, if S 4 = true then .slice (some ⟨g1, 0, none⟩) 2 2 else undef, if S 5 = true then .agg #[.int .i64 3, .int .i64 0, .string ⟨#[99, 117, 114, 114, 101, 110, 116, 95, 99, 104, 97, 114, 95, 99, 111, 110, 118, 101, 114, 115, 105, 111, 110]⟩, .slice (some ⟨g1, 0, none⟩) 2 2] else undef, if S 6 = true then .tuple #[.agg #[.slice r.oa r.on r.oc, .int .i64 r.q, .int .i64 r.u, .bool r.c, .bool r.d, .slice r.ca r.cn r.cc], .slice r.ra r.rn r.rc, .agg #[.int .i64 r.bk, .int .i64 r.bn, .string r.bs, .slice r.ba r.bz r.bc], .int .i64 r.er] else undef, if S 8 = true then .agg #[.slice r.oa r.on r.oc, .int .i64 r.q, .int .i64 r.u, .bool r.c, .bool r.d, .slice r.ca r.cn r.cc] else undef, if S 9 = true then .slice r.ra r.rn r.rc else undef, if S 10 = true then .agg #[.int .i64 r.bk, .int .i64 r.bn, .string r.bs, .slice r.ba r.bz r.bc] else undef, if S 11 = true then .int .i64 r.er else undef, undef, undef, undef, undef, undef, undef, undef, undef, undef, undef, undef, undef, undef, undef, undef, undef, undef, undef, undef, undef, undef, undef, undef, undef, undef, undef, undef, undef, undef, undef, undef, undef, undef, undef, undef, undef, undef, undef, undef, undef, undef, undef, undef, undef, undef, undef], []⟩ : Act) ∧ Below W0.heap.size W0 X ∧ (S 4 = true → S 6 = false → TmsAt X.heap.size X (some ⟨g1, 0, none⟩) [atomT (chS ch), .mk 0 0 ⟨#[]⟩ []]) ∧ (S 6 = true → ResAny P Q X r (.ok ⟨l, ⟨q, u, c, d⟩, cl⟩ [.mk 3 0 ⟨#[99, 117, 114, 114, 101, 110, 116, 95, 99, 104, 97, 114, 95, 99, 111, 110, 118, 101, 114, 115, 105, 111, 110]⟩ [atomT (chS ch), atomT (chS cz)]]) ∧ W0.heap.size ≤ P) ∧ (S 12 = true → W0.heap.size ≤ e6 ∧ Bk X e6 (if S 14 = true then [.slice r.oa r.on r.oc, .int .i64 r.q, .int .i64 r.u, .bool r.c, .bool r.d, .slice r.ca r.cn r.cc] else [.slice none 0 0, .int .i64 0, .int .i64 0, .bool false, .bool false, .slice none 0 0]) ∧ (S 6 = true → e6 < P ∨ Q ≤ e6)) ∧ (S 13 = true → W0.heap.size ≤ e8 ∧ Bk X e8 (if S 16 = true then [.int .i64 r.bk, .int .i64 r.bn, .string r.bs, .slice r.ba r.bz r.bc] else [.int .i64 0, .int .i64 0, .string ⟨#[]⟩, .slice none 0 0]) ∧ (S 6 = true → e8 < P ∨ Q ≤ e8)) ∧ (S 12 = true → S 13 = true → e6 ≠ e8) ∧ (S 6 = false → S 7 = false ∧ S 8 = false ∧ S 9 = false ∧ S 10 = false ∧ S 11 = false ∧ S 14 = false ∧ S 15 = false ∧ S 16 = false ∧ S 17 = false) ∧ (S 5 = true → S 4 = true) ∧ (S 14 = true → S 12 = true) ∧ (S 16 = true → S 13 = true)) (by kernel_rfl) ?stepc ?finc 18 (fun _ => false) _ _ (by decide) ⟨0, 0, 0, 0, 0, ⟨none, 0, 0, 0, 0, false, false, none, 0, 0, none, 0, 0, 0, 0, ⟨#[]⟩, none, 0, 0, 0⟩, rfl, (Below.refl _ W0).drew, fun h => (by cases h), fun h => (by cases h), fun h => (by cases h), fun h => (by cases h), fun h => (by cases h), fun _ => ⟨rfl, rfl, rfl, rfl, rfl, rfl, rfl, rfl, rfl⟩, fun h => (by cases h), fun h => (by cases h), fun h => (by cases h)⟩
 case stepc =>
  rintro S j o a X ho hs hp ⟨g1, P, Q, e6, e8, r, rfl, hB, hrow, hres, h6, h8, hne, hd, igr, i6, i8⟩
  have hlt : j < 18 := (Array.getElem?_eq_some_iff.1 ho).1
  rcases (show j = 0 ∨ j = 1 ∨ j = 2 ∨ j = 3 ∨ j = 4 ∨ j = 5 ∨ j = 6 ∨ j = 7 ∨ j = 8 ∨ j = 9 ∨ j = 10 ∨ j = 11 ∨ j = 12 ∨ j = 13 ∨ j = 14 ∨ j = 15 ∨ j = 16 ∨ j = 17 by omega) with rfl | rfl | rfl | rfl | rfl | rfl | rfl | rfl | rfl | rfl | rfl | rfl | rfl | rfl | rfl | rfl | rfl | rfl
  ·cases ho
   have z0 : X.cell? ⟨w.heap.size, 0, none⟩ = some (.slice OA on oc) := (hB.cell (p := ⟨_, 0, none⟩) s0l).trans s0_0
   have z1 : X.cell? ⟨w.heap.size, 1, none⟩ = some (.int .i64 q) := (hB.cell (p := ⟨_, 1, none⟩) s0l).trans s0_1
   have z2 : X.cell? ⟨w.heap.size, 2, none⟩ = some (.int .i64 u) := (hB.cell (p := ⟨_, 2, none⟩) s0l).trans s0_2
   have z3 : X.cell? ⟨w.heap.size, 3, none⟩ = some (.bool c) := (hB.cell (p := ⟨_, 3, none⟩) s0l).trans s0_3
   have z4 : X.cell? ⟨w.heap.size, 4, none⟩ = some (.bool d) := (hB.cell (p := ⟨_, 4, none⟩) s0l).trans s0_4
   have z5 : X.cell? ⟨w.heap.size, 5, none⟩ = some (.slice CA cn cc) := (hB.cell (p := ⟨_, 5, none⟩) s0l).trans s0_5
   rw [if_pos (show Region.wanted _ _ = true from rfl)]
   refine wp_val (v := .agg #[.slice OA on oc, .int .i64 q, .int .i64 u, .bool c, .bool d, .slice CA cn cc]) (w' := X) ?_ ⟨g1, P, Q, e6, e8, r, rfl, hB, hrow, hres, h6, h8, hne, hd, igr, i6, i8⟩
   simp [execOp, go_sem, Act.eval, z0, z1, z2, z3, z4, z5]
  ·cases ho
   rw [if_pos (show Region.wanted _ _ = true from rfl)]
   refine wp_val (v := .int .u8 ch) (w' := X) ?_ ⟨g1, P, Q, e6, e8, r, rfl, hB, hrow, hres, h6, h8, hne, hd, igr, i6, i8⟩
   simp [execOp, go_sem, Act.eval]
  ·cases ho
   have s1 : S 1 = true := hp ⟨1, .data⟩ (by simp) rfl
   rw [if_pos (show Region.wanted _ _ = true from rfl)]
   refine wp_cal ?_ (HCHR.out X) (fun v w' hR => ?_)
   ·simp [execOp, go_sem, Act.eval, s1]
    try rfl
   ·obtain ⟨rfl, hB'⟩ := hR
    exact ⟨g1, P, Q, e6, e8, r, rfl, hB.trans (hB'.mono hB.size), fun h h2 => ((hrow h h2).keep hB').mono hB'.size, fun h => ⟨(hres h).1.call hB', (hres h).2⟩, fun h => ⟨(h6 h).1, (h6 h).2.1.call hB', (h6 h).2.2⟩, fun h => ⟨(h8 h).1, (h8 h).2.1.call hB', (h8 h).2.2⟩, hne, hd, igr, i6, i8⟩
  ·cases ho
   rw [if_pos (show Region.wanted _ _ = true from rfl)]
   refine wp_cal ?_ (HVAR.out X) (fun v w' hR => ?_)
   ·simp [execOp, go_sem, Act.eval]
    try rfl
   ·obtain ⟨rfl, hB'⟩ := hR
    exact ⟨g1, P, Q, e6, e8, r, rfl, hB.trans (hB'.mono hB.size), fun h h2 => ((hrow h h2).keep hB').mono hB'.size, fun h => ⟨(hres h).1.call hB', (hres h).2⟩, fun h => ⟨(h6 h).1, (h6 h).2.1.call hB', (h6 h).2.2⟩, fun h => ⟨(h8 h).1, (h8 h).2.1.call hB', (h8 h).2.2⟩, hne, hd, igr, i6, i8⟩
  ·cases ho
   have s2 : S 2 = true := hp ⟨2, .data⟩ (by simp) rfl
   have s3 : S 3 = true := hp ⟨3, .data⟩ (by simp) rfl
   rw [if_pos (show Region.wanted _ _ = true from rfl)]
   have dg : S 5 = false := by
    cases h : S 5
    ·rfl
    ·exact absurd (igr h) (by rw [hs]; simp)
   have ug : updF S 4 5 = false := dg
   have hB' := (Below.refl X.heap.size X).alloc (Nat.le_refl _) (.cells #[.int .i64 2, .int .i64 0, .string (chS ch), .slice none 0 0, .int .i64 0, .int .i64 0, .string ⟨#[]⟩, .slice none 0 0] 26)
   have hrw := TmsK.rows (K := fun b => b < X.heap.size + 1) (w := X) (rs := [(atomT (chS ch), none, 0), (.mk 0 0 ⟨#[]⟩ [], none, 0)]) (e := 26) (by omega) (by simp [maxLen]) (fun x hx => by
    simp only [List.mem_cons, List.mem_nil_iff, or_false] at hx
    rcases hx with rfl | rfl <;> exact TmsK.nil)
   refine wp_val (v := .slice (some ⟨X.heap.size, 0, none⟩) 2 2) (w' := X.alloc (.cells #[.int .i64 2, .int .i64 0, .string (chS ch), .slice none 0 0, .int .i64 0, .int .i64 0, .string ⟨#[]⟩, .slice none 0 0] 26)) ?_ ⟨X.heap.size, P, Q, e6, e8, r, ?_, hB.trans (hB'.mono hB.size), fun _ _ => TmsK.at' hrw, fun h => ⟨(hres h).1.call hB', (hres h).2⟩, fun h => ⟨(h6 h).1, (h6 h).2.1.call hB', (h6 h).2.2⟩, fun h => ⟨(h8 h).1, (h8 h).2.1.call hB', (h8 h).2.2⟩, hne, hd, fun _ => rfl, i6, i8⟩
   ·simp [execOp, go_sem, Act.eval, s2, s3]
   ·simp only [dg, ug, Bool.false_eq_true, if_false]
    rfl
  ·cases ho
   have s4 : S 4 = true := hp ⟨4, .data⟩ (by simp) rfl
   rw [if_pos (show Region.wanted _ _ = true from rfl)]
   refine wp_cal ?_ (HGOAL.out X g1) (fun v w' hR => ?_)
   ·simp [execOp, go_sem, Act.eval, s4]
    try rfl
   ·obtain ⟨rfl, hB'⟩ := hR
    exact ⟨g1, P, Q, e6, e8, r, rfl, hB.trans (hB'.mono hB.size), fun h h2 => ((hrow h h2).keep hB').mono hB'.size, fun h => ⟨(hres h).1.call hB', (hres h).2⟩, fun h => ⟨(h6 h).1, (h6 h).2.1.call hB', (h6 h).2.2⟩, fun h => ⟨(h8 h).1, (h8 h).2.1.call hB', (h8 h).2.2⟩, hne, hd, fun _ => s4, i6, i8⟩
  ·cases ho
   have s0 : S 0 = true := hp ⟨0, .data⟩ (by simp) rfl
   have s5 : S 5 = true := hp ⟨5, .data⟩ (by simp) rfl
   rw [if_pos (show Region.wanted _ _ = true from rfl)]
   have hrw0 := igr s5
   obtain ⟨d7, d8, d9, d10, d11, d14, d15, d16, d17⟩ := hd hs
   refine wp_cal ?_ (HCALL.out X g1 hB (hrow hrw0 hs)) (fun v w' hR => ?_)
   ·simp [execOp, go_sem, Act.eval, s0, s5]
    try rfl
   ·obtain ⟨⟨r', rfl, hO⟩, hB'⟩ := hR
    have K6 : ∀ h : S 12 = true, Bk w' e6 (if updF S 6 14 = true then [.slice r'.oa r'.on r'.oc, .int .i64 r'.q, .int .i64 r'.u, .bool r'.c, .bool r'.d, .slice r'.ca r'.cn r'.cc] else [.slice none 0 0, .int .i64 0, .int .i64 0, .bool false, .bool false, .slice none 0 0]) := fun h => by
     have hk := (h6 h).2.1.call hB'
     rw [if_neg (by rw [d14]; simp)] at hk
     rw [if_neg (show ¬ updF S 6 14 = true from fun hh => by rw [show updF S 6 14 = S 14 from rfl, d14] at hh; cases hh)]
     exact hk
    have K8 : ∀ h : S 13 = true, Bk w' e8 (if updF S 6 16 = true then [.int .i64 r'.bk, .int .i64 r'.bn, .string r'.bs, .slice r'.ba r'.bz r'.bc] else [.int .i64 0, .int .i64 0, .string ⟨#[]⟩, .slice none 0 0]) := fun h => by
     have hk := (h8 h).2.1.call hB'
     rw [if_neg (by rw [d16]; simp)] at hk
     rw [if_neg (show ¬ updF S 6 16 = true from fun hh => by rw [show updF S 6 16 = S 16 from rfl, d16] at hh; cases hh)]
     exact hk
    refine ⟨g1, X.heap.size, w'.heap.size, e6, e8, r', ?_, hB.trans (hB'.mono hB.size), fun _ h => (by cases h), fun _ => ⟨hO, hB.size⟩, fun h => ⟨(h6 h).1, K6 h, fun _ => .inl (h6 h).2.1.lt⟩, fun h => ⟨(h8 h).1, K8 h, fun _ => .inl (h8 h).2.1.lt⟩, hne, (fun h => nomatch (show true = false from h)), igr, i6, i8⟩
    have u7 : updF S 6 7 = false := d7
    have u8 : updF S 6 8 = false := d8
    have u9 : updF S 6 9 = false := d9
    have u10 : updF S 6 10 = false := d10
    have u11 : updF S 6 11 = false := d11
    have u15 : updF S 6 15 = false := d15
    have u17 : updF S 6 17 = false := d17
    simp only [d7, u7, d8, u8, d9, u9, d10, u10, d11, u11, d15, u15, d17, u17, Bool.false_eq_true, if_false]
    rfl
  ·cases ho
   have s6 : S 6 = true := hp ⟨6, .data⟩ (by simp) rfl
   rw [if_pos (show Region.wanted _ _ = true from rfl)]
   refine wp_val (v := .tuple #[.agg #[.slice r.oa r.on r.oc, .int .i64 r.q, .int .i64 r.u, .bool r.c, .bool r.d, .slice r.ca r.cn r.cc], .slice r.ra r.rn r.rc, .agg #[.int .i64 r.bk, .int .i64 r.bn, .string r.bs, .slice r.ba r.bz r.bc], .int .i64 r.er]) (w' := X) ?_ ⟨g1, P, Q, e6, e8, r, rfl, hB, hrow, hres, h6, h8, hne, fun h => absurd (show S 6 = false from h) (by rw [s6]; simp), igr, i6, i8⟩
   simp [execOp, go_sem, Act.eval, s6]
  ·cases ho
   have s7 : S 7 = true := hp ⟨7, .data⟩ (by simp) rfl
   have s6 : S 6 = true := by
    cases h : S 6
    ·have := (hd h).1
     rw [s7] at this; cases this
    ·rfl
   rw [if_pos (show Region.wanted _ _ = true from rfl)]
   refine wp_val (v := .agg #[.slice r.oa r.on r.oc, .int .i64 r.q, .int .i64 r.u, .bool r.c, .bool r.d, .slice r.ca r.cn r.cc]) (w' := X) ?_ ⟨g1, P, Q, e6, e8, r, rfl, hB, hrow, hres, h6, h8, hne, fun h => absurd (show S 6 = false from h) (by rw [s6]; simp), igr, i6, i8⟩
   simp [execOp, go_sem, Act.eval, s7]
  ·cases ho
   have s7 : S 7 = true := hp ⟨7, .data⟩ (by simp) rfl
   have s6 : S 6 = true := by
    cases h : S 6
    ·have := (hd h).1
     rw [s7] at this; cases this
    ·rfl
   rw [if_pos (show Region.wanted _ _ = true from rfl)]
   refine wp_val (v := .slice r.ra r.rn r.rc) (w' := X) ?_ ⟨g1, P, Q, e6, e8, r, rfl, hB, hrow, hres, h6, h8, hne, fun h => absurd (show S 6 = false from h) (by rw [s6]; simp), igr, i6, i8⟩
   simp [execOp, go_sem, Act.eval, s7]
  ·cases ho
   have s7 : S 7 = true := hp ⟨7, .data⟩ (by simp) rfl
   have s6 : S 6 = true := by
    cases h : S 6
    ·have := (hd h).1
     rw [s7] at this; cases this
    ·rfl
   rw [if_pos (show Region.wanted _ _ = true from rfl)]
   refine wp_val (v := .agg #[.int .i64 r.bk, .int .i64 r.bn, .string r.bs, .slice r.ba r.bz r.bc]) (w' := X) ?_ ⟨g1, P, Q, e6, e8, r, rfl, hB, hrow, hres, h6, h8, hne, fun h => absurd (show S 6 = false from h) (by rw [s6]; simp), igr, i6, i8⟩
   simp [execOp, go_sem, Act.eval, s7]
  ·cases ho
   have s7 : S 7 = true := hp ⟨7, .data⟩ (by simp) rfl
   have s6 : S 6 = true := by
    cases h : S 6
    ·have := (hd h).1
     rw [s7] at this; cases this
    ·rfl
   rw [if_pos (show Region.wanted _ _ = true from rfl)]
   refine wp_val (v := .int .i64 r.er) (w' := X) ?_ ⟨g1, P, Q, e6, e8, r, rfl, hB, hrow, hres, h6, h8, hne, fun h => absurd (show S 6 = false from h) (by rw [s6]; simp), igr, i6, i8⟩
   simp [execOp, go_sem, Act.eval, s7]
  ·cases ho
   rw [if_pos (show Region.wanted _ _ = true from rfl)]
   have hB' := (Below.refl X.heap.size X).alloc (Nat.le_refl _) (.cells #[.slice none 0 0, .int .i64 0, .int .i64 0, .bool false, .bool false, .slice none 0 0] 43)
   have KN : Bk (X.alloc (.cells #[.slice none 0 0, .int .i64 0, .int .i64 0, .bool false, .bool false, .slice none 0 0] 43)) X.heap.size (if updF S 12 14 = true then [.slice r.oa r.on r.oc, .int .i64 r.q, .int .i64 r.u, .bool r.c, .bool r.d, .slice r.ca r.cn r.cc] else [.slice none 0 0, .int .i64 0, .int .i64 0, .bool false, .bool false, .slice none 0 0]) := by
    rw [if_neg (show ¬ updF S 12 14 = true from fun hh => absurd (i6 hh) (by rw [hs]; simp))]
    exact Bk.new X [.slice none 0 0, .int .i64 0, .int .i64 0, .bool false, .bool false, .slice none 0 0] 43
   refine wp_val (v := .pointer (some ⟨X.heap.size, 0, none⟩)) (w' := X.alloc (.cells #[.slice none 0 0, .int .i64 0, .int .i64 0, .bool false, .bool false, .slice none 0 0] 43)) ?_ ⟨g1, P, Q, X.heap.size, e8, r, rfl, hB.alloc hB.size _, fun h h2 => ((hrow h h2).keep hB').mono hB'.size, fun h => ⟨(hres h).1.call hB', (hres h).2⟩, fun _ => ⟨hB.size, KN, fun h => .inr (hres h).1.qx⟩, fun h => ⟨(h8 h).1, (h8 h).2.1.call hB', (h8 h).2.2⟩, fun _ h => Nat.ne_of_gt (h8 h).2.1.lt, hd, igr, fun _ => rfl, i8⟩
   simp [execOp, go_sem]
  ·cases ho
   rw [if_pos (show Region.wanted _ _ = true from rfl)]
   have hB' := (Below.refl X.heap.size X).alloc (Nat.le_refl _) (.cells #[.int .i64 0, .int .i64 0, .string ⟨#[]⟩, .slice none 0 0] 26)
   have KN : Bk (X.alloc (.cells #[.int .i64 0, .int .i64 0, .string ⟨#[]⟩, .slice none 0 0] 26)) X.heap.size (if updF S 13 16 = true then [.int .i64 r.bk, .int .i64 r.bn, .string r.bs, .slice r.ba r.bz r.bc] else [.int .i64 0, .int .i64 0, .string ⟨#[]⟩, .slice none 0 0]) := by
    rw [if_neg (show ¬ updF S 13 16 = true from fun hh => absurd (i8 hh) (by rw [hs]; simp))]
    exact Bk.new X [.int .i64 0, .int .i64 0, .string ⟨#[]⟩, .slice none 0 0] 26
   refine wp_val (v := .pointer (some ⟨X.heap.size, 0, none⟩)) (w' := X.alloc (.cells #[.int .i64 0, .int .i64 0, .string ⟨#[]⟩, .slice none 0 0] 26)) ?_ ⟨g1, P, Q, e6, X.heap.size, r, rfl, hB.alloc hB.size _, fun h h2 => ((hrow h h2).keep hB').mono hB'.size, fun h => ⟨(hres h).1.call hB', (hres h).2⟩, fun h => ⟨(h6 h).1, (h6 h).2.1.call hB', (h6 h).2.2⟩, fun _ => ⟨hB.size, KN, fun h => .inr (hres h).1.qx⟩, fun h _ => Nat.ne_of_lt (h6 h).2.1.lt, hd, igr, i6, fun _ => rfl⟩
   simp [execOp, go_sem]
  ·cases ho
   have s8 : S 8 = true := hp ⟨8, .data⟩ (by simp) rfl
   have s12 : S 12 = true := hp ⟨12, .data⟩ (by simp) rfl
   have s6 : S 6 = true := by
    cases h : S 6
    ·have := (hd h).2.1
     rw [s8] at this; cases this
    ·rfl
   rw [if_pos (show Region.wanted _ _ = true from rfl)]
   have hk := (h6 s12).2.1
   rw [if_neg (by rw [hs]; simp)] at hk
   have NE : ∀ h : S 13 = true, e8 ≠ e6 := fun h => (hne s12 h).symm
   have z0 := hk.c 0 (.slice none 0 0) rfl
   have f0 := hk.f 0
   have z1 := hk.c 1 (.int .i64 0) rfl
   have f1 := hk.f 1
   have z2 := hk.c 2 (.int .i64 0) rfl
   have f2 := hk.f 2
   have z3 := hk.c 3 (.bool false) rfl
   have f3 := hk.f 3
   have z4 := hk.c 4 (.bool false) rfl
   have f4 := hk.f 4
   have z5 := hk.c 5 (.slice none 0 0) rfl
   have f5 := hk.f 5
   refine wp_skp (w' := ((((((X.setCell ⟨e6, 0, none⟩ (.slice r.oa r.on r.oc)).setCell ⟨e6, 1, none⟩ (.int .i64 r.q)).setCell ⟨e6, 2, none⟩ (.int .i64 r.u)).setCell ⟨e6, 3, none⟩ (.bool r.c)).setCell ⟨e6, 4, none⟩ (.bool r.d)).setCell ⟨e6, 5, none⟩ (.slice r.ca r.cn r.cc))) ?_ ⟨g1, P, Q, e6, e8, r, rfl, ((((((hB.setCell (p := ⟨_, _, none⟩) (h6 s12).1 _).setCell (p := ⟨_, _, none⟩) (h6 s12).1 _).setCell (p := ⟨_, _, none⟩) (h6 s12).1 _).setCell (p := ⟨_, _, none⟩) (h6 s12).1 _).setCell (p := ⟨_, _, none⟩) (h6 s12).1 _).setCell (p := ⟨_, _, none⟩) (h6 s12).1 _), fun _ h => absurd (show S 6 = false from h) (by rw [s6]; simp), fun _ => ⟨(hres s6).1.put e6 [.slice none 0 0, .int .i64 0, .int .i64 0, .bool false, .bool false, .slice none 0 0] ((h6 s12).2.2 s6) hk (by intro i s x; rcases i with _ | _ | _ | _ | _ | _ | i <;> simp) (by simp) (fun b hb => by rw [heap_setCell_other _ _ _ _ hb, heap_setCell_other _ _ _ _ hb, heap_setCell_other _ _ _ _ hb, heap_setCell_other _ _ _ _ hb, heap_setCell_other _ _ _ _ hb, heap_setCell_other _ _ _ _ hb]), (hres s6).2⟩, fun _ => ⟨(h6 s12).1, by rw [if_pos (show updF S 14 14 = true from rfl)]; exact ((((((hk.set 0 (.slice r.oa r.on r.oc)).set 1 (.int .i64 r.q)).set 2 (.int .i64 r.u)).set 3 (.bool r.c)).set 4 (.bool r.d)).set 5 (.slice r.ca r.cn r.cc)), (h6 s12).2.2⟩, fun h => ⟨(h8 h).1, (((((((h8 h).2.1.other (NE h) 0 (.slice r.oa r.on r.oc)).other (NE h) 1 (.int .i64 r.q)).other (NE h) 2 (.int .i64 r.u)).other (NE h) 3 (.bool r.c)).other (NE h) 4 (.bool r.d)).other (NE h) 5 (.slice r.ca r.cn r.cc)), (h8 h).2.2⟩, hne, fun h => absurd (show S 6 = false from h) (by rw [s6]; simp), igr, fun _ => s12, i8⟩
   simp [execOp, go_sem, Act.eval, s12, s8, z0, f0, z1, f1, z2, f2, z3, f3, z4, f4, z5, f5]
  ·cases ho
   have s9 : S 9 = true := hp ⟨9, .data⟩ (by simp) rfl
   have s6 : S 6 = true := by
    cases h : S 6
    ·have := (hd h).2.2.1
     rw [s9] at this; cases this
    ·rfl
   rw [if_pos (show Region.wanted _ _ = true from rfl)]
   refine wp_val (v := .slice r.ra r.rn r.rc) (w' := X) ?_ ⟨g1, P, Q, e6, e8, r, rfl, hB, hrow, hres, h6, h8, hne, fun h => absurd (show S 6 = false from h) (by rw [s6]; simp), igr, i6, i8⟩
   simp [execOp, go_sem, Act.eval, s9]
  ·cases ho
   have s10 : S 10 = true := hp ⟨10, .data⟩ (by simp) rfl
   have s13 : S 13 = true := hp ⟨13, .data⟩ (by simp) rfl
   have s6 : S 6 = true := by
    cases h : S 6
    ·have := (hd h).2.2.2.1
     rw [s10] at this; cases this
    ·rfl
   rw [if_pos (show Region.wanted _ _ = true from rfl)]
   have hk := (h8 s13).2.1
   rw [if_neg (by rw [hs]; simp)] at hk
   have NE : ∀ h : S 12 = true, e6 ≠ e8 := fun h => hne h s13
   have z0 := hk.c 0 (.int .i64 0) rfl
   have f0 := hk.f 0
   have z1 := hk.c 1 (.int .i64 0) rfl
   have f1 := hk.f 1
   have z2 := hk.c 2 (.string ⟨#[]⟩) rfl
   have f2 := hk.f 2
   have z3 := hk.c 3 (.slice none 0 0) rfl
   have f3 := hk.f 3
   refine wp_skp (w' := ((((X.setCell ⟨e8, 0, none⟩ (.int .i64 r.bk)).setCell ⟨e8, 1, none⟩ (.int .i64 r.bn)).setCell ⟨e8, 2, none⟩ (.string r.bs)).setCell ⟨e8, 3, none⟩ (.slice r.ba r.bz r.bc))) ?_ ⟨g1, P, Q, e6, e8, r, rfl, ((((hB.setCell (p := ⟨_, _, none⟩) (h8 s13).1 _).setCell (p := ⟨_, _, none⟩) (h8 s13).1 _).setCell (p := ⟨_, _, none⟩) (h8 s13).1 _).setCell (p := ⟨_, _, none⟩) (h8 s13).1 _), fun _ h => absurd (show S 6 = false from h) (by rw [s6]; simp), fun _ => ⟨(hres s6).1.put e8 [.int .i64 0, .int .i64 0, .string ⟨#[]⟩, .slice none 0 0] ((h8 s13).2.2 s6) hk (by intro i s x; rcases i with _ | _ | _ | _ | i <;> simp) (by simp) (fun b hb => by rw [heap_setCell_other _ _ _ _ hb, heap_setCell_other _ _ _ _ hb, heap_setCell_other _ _ _ _ hb, heap_setCell_other _ _ _ _ hb]), (hres s6).2⟩, fun h => ⟨(h6 h).1, (((((h6 h).2.1.other (NE h) 0 (.int .i64 r.bk)).other (NE h) 1 (.int .i64 r.bn)).other (NE h) 2 (.string r.bs)).other (NE h) 3 (.slice r.ba r.bz r.bc)), (h6 h).2.2⟩, fun _ => ⟨(h8 s13).1, by rw [if_pos (show updF S 16 16 = true from rfl)]; exact ((((hk.set 0 (.int .i64 r.bk)).set 1 (.int .i64 r.bn)).set 2 (.string r.bs)).set 3 (.slice r.ba r.bz r.bc)), (h8 s13).2.2⟩, hne, fun h => absurd (show S 6 = false from h) (by rw [s6]; simp), igr, i6, fun _ => s13⟩
   simp [execOp, go_sem, Act.eval, s13, s10, z0, f0, z1, f1, z2, f2, z3, f3]
  ·cases ho
   have s11 : S 11 = true := hp ⟨11, .data⟩ (by simp) rfl
   have s6 : S 6 = true := by
    cases h : S 6
    ·have := (hd h).2.2.2.2.1
     rw [s11] at this; cases this
    ·rfl
   rw [if_pos (show Region.wanted _ _ = true from rfl)]
   refine wp_val (v := .int .i64 r.er) (w' := X) ?_ ⟨g1, P, Q, e6, e8, r, rfl, hB, hrow, hres, h6, h8, hne, fun h => absurd (show S 6 = false from h) (by rw [s6]; simp), igr, i6, i8⟩
   simp [execOp, go_sem, Act.eval, s11]
 case finc =>
  rintro S a W1 hall ⟨g1, P, Q, e6, e8, r, rfl, hB, hrow, hres, h6, h8, hne, hd, igr, i6, i8⟩
  have s0 := hall 0 (show 0 < 18 by omega)
  have s1 := hall 1 (show 1 < 18 by omega)
  have s2 := hall 2 (show 2 < 18 by omega)
  have s3 := hall 3 (show 3 < 18 by omega)
  have s4 := hall 4 (show 4 < 18 by omega)
  have s5 := hall 5 (show 5 < 18 by omega)
  have s6 := hall 6 (show 6 < 18 by omega)
  have s7 := hall 7 (show 7 < 18 by omega)
  have s8 := hall 8 (show 8 < 18 by omega)
  have s9 := hall 9 (show 9 < 18 by omega)
  have s10 := hall 10 (show 10 < 18 by omega)
  have s11 := hall 11 (show 11 < 18 by omega)
  have s12 := hall 12 (show 12 < 18 by omega)
  have s13 := hall 13 (show 13 < 18 by omega)
  have s14 := hall 14 (show 14 < 18 by omega)
  have s15 := hall 15 (show 15 < 18 by omega)
  have s16 := hall 16 (show 16 < 18 by omega)
  have s17 := hall 17 (show 17 < 18 by omega)
  have HR1 : Hid (ResOk P Q W1 r ⟨l, ⟨q, u, c, d⟩, cl⟩ [.mk 3 0 ⟨#[99, 117, 114, 114, 101, 110, 116, 95, 99, 104, 97, 114, 95, 99, 111, 110, 118, 101, 114, 115, 105, 111, 110]⟩ [atomT (chS ch), atomT (chS cz)]]) := Lib.hid (hres s6).1
  have HP1 := Lib.hid (hres s6).2
  have hk6 := (h6 s12).2.1
  have hk8 := (h8 s13).2.1
  rw [if_pos s14] at hk6
  rw [if_pos s16] at hk8
  have HK6 := Lib.hid hk6
  have HK8 := Lib.hid hk8
  have HL6 := Lib.hid (h6 s12).1
  have HL8 := Lib.hid (h8 s13).1
  have HB1 := Lib.hid hB
  refine hK0 _ _ ?_
  simp only [s0, s1, s2, s3, s4, s5, s6, s7, s8, s9, s10, s11, s12, s13, s15, s17, if_true]
  clear hall hB hrow hres h6 h8 hne hd igr i6 i8 hk6 hk8 hK0 s0 s1 s2 s3 s4 s5 s6 s7 s8 s9 s10 s11 s12 s13 s14 s15 s16 s17 HCALL HCAL HGOAL HVAR s0l s0_0 s0_1 s0_2 s0_3 s0_4 s0_5
  obtain ⟨oa, on1, oc1, q1, u1, c1, d1, ca1, cn1, cc1, ra, rn, rc, bk, bn, bs, ba, bz, bc, er⟩ := r
  have her : er = 0 := HR1.out.er
  have hrn : rn = 1 := HR1.out.rn
  subst her; subst hrn
  obtain ⟨rb, ro, XA, xc, hra, hrb, k0, k1, k2, k3, hXA⟩ := HR1.out.ra.get 0 (show 0 < 1 by omega)
  obtain ⟨xb, xo, FA, fc, hxa, hxb, y0, y1, y2, y3, -⟩ := hXA.get 0 (show 0 < 2 by omega)
  obtain ⟨xb', xo', FB, gc, hxa', hxb', v0, v1, v2, v3, -⟩ := hXA.get 1 (show 1 < 2 by omega)
  subst hxa
  cases hxa'
  obtain rfl : ra = some ⟨rb, ro, none⟩ := hra
  have hqx := HR1.out.qx
  have k3 : W1.cell? ⟨rb, ro + 3, none⟩ = some (.slice (some ⟨xb, xo, none⟩) 2 xc) := by have h := k3; simp only [Nat.zero_mul, Nat.add_zero] at h; exact h
  have y0 : W1.cell? ⟨xb, xo, none⟩ = some (.int .i64 2) := by have h := y0; simp only [Nat.zero_mul, Nat.add_zero] at h; exact h
  have y1 : W1.cell? ⟨xb, xo + 1, none⟩ = some (.int .i64 0) := by have h := y1; simp only [Nat.zero_mul, Nat.add_zero] at h; exact h
  have y2 : W1.cell? ⟨xb, xo + 2, none⟩ = some (.string (chS ch)) := by have h := y2; simp only [Nat.zero_mul, Nat.add_zero] at h; exact h
  have y3 : W1.cell? ⟨xb, xo + 3, none⟩ = some (.slice FA 0 fc) := by have h := y3; simp only [Nat.zero_mul, Nat.add_zero] at h; exact h
  have v2 : W1.cell? ⟨xb, xo + 4 + 2, none⟩ = some (.string (chS cz)) := by have h := v2; simp only [Nat.one_mul] at h; exact h
  obtain ⟨yz, hyz⟩ : ∃ yz : UInt8, cz = yz.toNat := ⟨cz.toNat.toUInt8, by have := HZ.out; simp; omega⟩
  subst hyz
  rw [chS_u8] at v2
  have lrb : rb < W1.heap.size := Nat.lt_of_lt_of_le hrb.2 hqx
  have lxb : xb < W1.heap.size := Nat.lt_of_lt_of_le hxb.2 hqx
  have HBLw := Lib.hid (HBL0.out.trans (HB1.out.mono HBL0.out.size))
  have HSAME : Hid (∀ X, Calls Tryz.prog 18 #[.agg #[.int .i64 2, .int .i64 0, .string (chS ch), .slice FA 0 fc], .agg #[.int .i64 2, .int .i64 0, .string (chS ch), .slice none 0 0]] X fun e w' => ∃ v, e = .returned v ∧ (v = .bool true ∧ Below X.heap.size X w')) := Lib.hid fun X => by
   have := law_same (atomT (chS ch)) (atomT (chS ch)) FA none fc 0 X TmsK.nil TmsK.nil
   rw [sameT_refl (atom_fits ch)] at this
   exact this.mono fun e w' h => ⟨_, h.1, rfl, h.2⟩
  clear k0 k1 k2 hXA hxb hxb' v0 v1 v3 hrb hqx HR1 HP1 HK6 HK8 HL6 HL8 HB1 HBL0 HBK0 HZ
  dsimp only
  go_wp2_with fail
  rename_i K2 hK2
  refine wp_region_any (by kernel_rfl) ?_
  refine wpAny_inv (fun S a X => a = (⟨#[.agg #[.slice OA on oc, .int .i64 q, .int .i64 u, .bool c, .bool d, .slice CA cn cc], .int .u8 ch, .pointer (some ⟨w.heap.size, 0, none⟩), undef, .int .u8 0, .bool false, .pointer (some ⟨e6, 0, none⟩), .slice (some ⟨rb, ro, none⟩) 1 rc, .pointer (some ⟨e8, 0, none⟩), .int .i64 0, .tuple #[.agg #[.slice oa on1 oc1, .int .i64 q1, .int .i64 u1, .bool c1, .bool d1, .slice ca1 cn1 cc1], .slice (some ⟨rb, ro, none⟩) 1 rc, .agg #[.int .i64 bk, .int .i64 bn, .string bs, .slice ba bz bc], .int .i64 0], .agg #[.slice OA on oc, .int .i64 q, .int .i64 u, .bool c, .bool d, .slice CA cn cc], .int .u8 ch, .agg #[.int .i64 2, .int .i64 0, .string (chS ch), .slice none 0 0], .agg #[.int .i64 0, .int .i64 0, .string ⟨#[]⟩, .slice none 0 0], .slice (some ⟨g1, 0, none⟩) 2 2, .agg #[.int .i64 3, .int .i64 0, .string ⟨#[99, 117, 114, 114, 101, 110, 116, 95, 99, 104, 97, 114, 95, 99, 111, 110, 118, 101, 114, 115, 105, 111, 110]⟩, .slice (some ⟨g1, 0, none⟩) 2 2], .tuple #[.agg #[.slice oa on1 oc1, .int .i64 q1, .int .i64 u1, .bool c1, .bool d1, .slice ca1 cn1 cc1], .slice (some ⟨rb, ro, none⟩) 1 rc, .agg #[.int .i64 bk, .int .i64 bn, .string bs, .slice ba bz bc], .int .i64 0], .agg #[.slice oa on1 oc1, .int .i64 q1, .int .i64 u1, .bool c1, .bool d1, .slice ca1 cn1 cc1], .slice (some ⟨rb, ro, none⟩) 1 rc, .agg #[.int .i64 bk, .int .i64 bn, .string bs, .slice ba bz bc], .int .i64 0, if S 0 = true then .int .i64 0 else undef, if S 1 = true then .bool false else undef, if S 2 = true then .bool false else undef, if S 3 = true then .slice (some ⟨rb, ro, none⟩) 1 rc else undef, if S 4 = true then .int .i64 1 else undef, if S 5 = true then .bool false else undef, if S 6 = true then .bool false else undef, if S 7 = true then .bool false else undef, if S 8 = true then .slice (some ⟨rb, ro, none⟩) 1 rc else undef, if S 9 = true then .pointer (some ⟨rb, ro, none⟩) else undef, if S 10 = true then .pointer (some ⟨rb, ro + 3, none⟩) else undef, if S 11 = true then .slice (some ⟨xb, xo, none⟩) 2 xc else undef, if S 12 = true then .int .i64 2 else undef, if S 13 = true then .bool false else undef, if S 14 = true then .bool false else undef, if S 15 = true then .bool false else undef, if S 16 = true then .slice (some ⟨rb, ro, none⟩) 1 rc else undef, if S 17 = true then .pointer (some ⟨rb, ro, none⟩) else undef, if S 18 = true then .pointer (some ⟨rb, ro + 3, none⟩) else undef, if S 19 = true then .slice (some ⟨xb, xo, none⟩) 2 xc else undef, if S 20 = true then .pointer (some ⟨xb, xo + 4, none⟩) else undef, if S 21 = true then .pointer (some ⟨xb, xo + 4 + 2, none⟩) else undef, if S 22 = true then .string ⟨#[yz]⟩ else undef, if S 23 = true then .int .i64 1 else undef, if S 24 = true then .bool false else undef, if S 25 = true then .bool false else undef, if S 26 = true then .bool false else undef, if S 27 = true then .slice (some ⟨rb, ro, none⟩) 1 rc else undef, if S 28 = true then .pointer (some ⟨rb, ro, none⟩) else undef, if S 29 = true then .pointer (some ⟨rb, ro + 3, none⟩) else undef, if S 30 = true then .slice (some ⟨xb, xo, none⟩) 2 xc else undef, if S 31 = true then .pointer (some ⟨xb, xo, none⟩) else undef, if S 32 = true then .agg #[.int .i64 2, .int .i64 0, .string (chS ch), .slice FA 0 fc] else undef, if S 33 = true then .int .u8 ch else undef, if S 34 = true then .agg #[.int .i64 2, .int .i64 0, .string (chS ch), .slice none 0 0] else undef, if S 35 = true then .bool true else undef, if S 36 = true then .bool false else undef, if S 37 = true then .bool false else undef, undef, undef, undef, undef, undef, undef, undef, undef], []⟩ : Act) ∧ Below W1.heap.size W1 X) (by kernel_rfl) ?stepd ?find 38 (fun _ => false) _ _ (by decide) ⟨rfl, (Below.refl _ W1).drew⟩
  case stepd =>
   rintro S j o a X ho hs hp ⟨rfl, hB⟩
   have hlt : j < 38 := (Array.getElem?_eq_some_iff.1 ho).1
   rcases (show j = 0 ∨ j = 1 ∨ j = 2 ∨ j = 3 ∨ j = 4 ∨ j = 5 ∨ j = 6 ∨ j = 7 ∨ j = 8 ∨ j = 9 ∨ j = 10 ∨ j = 11 ∨ j = 12 ∨ j = 13 ∨ j = 14 ∨ j = 15 ∨ j = 16 ∨ j = 17 ∨ j = 18 ∨ j = 19 ∨ j = 20 ∨ j = 21 ∨ j = 22 ∨ j = 23 ∨ j = 24 ∨ j = 25 ∨ j = 26 ∨ j = 27 ∨ j = 28 ∨ j = 29 ∨ j = 30 ∨ j = 31 ∨ j = 32 ∨ j = 33 ∨ j = 34 ∨ j = 35 ∨ j = 36 ∨ j = 37 by omega) with rfl | rfl | rfl | rfl | rfl | rfl | rfl | rfl | rfl | rfl | rfl | rfl | rfl | rfl | rfl | rfl | rfl | rfl | rfl | rfl | rfl | rfl | rfl | rfl | rfl | rfl | rfl | rfl | rfl | rfl | rfl | rfl | rfl | rfl | rfl | rfl | rfl | rfl
   ·cases ho
    rw [if_pos (show Region.wanted _ _ = true from rfl)]
    refine wp_val (v := .int .i64 0) (w' := X) ?_ ⟨rfl, hB⟩
    simp [execOp, go_sem, Act.eval]
   ·cases ho
    have s0 : S 0 = true := hp ⟨0, .data⟩ (by simp) rfl
    rw [if_pos (show Region.wanted _ _ = true from rfl)]
    refine wp_val (v := .bool false) (w' := X) ?_ ⟨rfl, hB⟩
    simp [execOp, go_sem, Act.eval, s0]
   ·cases ho
    have s1 : S 1 = true := hp ⟨1, .data⟩ (by simp) rfl
    rw [if_pos (show Region.wanted _ _ = true from rfl)]
    refine wp_val (v := .bool false) (w' := X) ?_ ⟨rfl, hB⟩
    simp [execOp, go_sem, Act.eval, s1]
   ·cases ho
    have s2 : S 2 = true := hp ⟨2, .guard⟩ (by simp) rfl
    rw [if_pos (show Region.wanted _ (yielded _ _) = true by simp [Region.wanted, yielded, s2])]
    refine wp_val (v := .slice (some ⟨rb, ro, none⟩) 1 rc) (w' := X) ?_ ⟨rfl, hB⟩
    simp [execOp, go_sem, Act.eval]
   ·cases ho
    have s3 : S 3 = true := hp ⟨3, .data⟩ (by simp) rfl
    have s2 : S 2 = true := hp ⟨2, .guard⟩ (by simp) rfl
    rw [if_pos (show Region.wanted _ (yielded _ _) = true by simp [Region.wanted, yielded, s2])]
    refine wp_val (v := .int .i64 1) (w' := X) ?_ ⟨rfl, hB⟩
    simp [execOp, go_sem, Act.eval, s3]
   ·cases ho
    have s4 : S 4 = true := hp ⟨4, .data⟩ (by simp) rfl
    have s2 : S 2 = true := hp ⟨2, .guard⟩ (by simp) rfl
    rw [if_pos (show Region.wanted _ (yielded _ _) = true by simp [Region.wanted, yielded, s2])]
    refine wp_val (v := .bool false) (w' := X) ?_ ⟨rfl, hB⟩
    simp [execOp, go_sem, Act.eval, s4]
   ·cases ho
    have s2 : S 2 = true := hp ⟨2, .data⟩ (by simp) rfl
    have s5 : S 5 = true := hp ⟨5, .data⟩ (by simp) rfl
    rw [if_pos (show Region.wanted _ _ = true from rfl)]
    refine wp_val (v := .bool false) (w' := X) ?_ ⟨rfl, hB⟩
    simp [execOp, go_sem, Act.eval, s2, s5]
   ·cases ho
    have s6 : S 6 = true := hp ⟨6, .data⟩ (by simp) rfl
    rw [if_pos (show Region.wanted _ _ = true from rfl)]
    refine wp_val (v := .bool false) (w' := X) ?_ ⟨rfl, hB⟩
    simp [execOp, go_sem, Act.eval, s6]
   ·cases ho
    have s7 : S 7 = true := hp ⟨7, .guard⟩ (by simp) rfl
    rw [if_pos (show Region.wanted _ (yielded _ _) = true by simp [Region.wanted, yielded, s7])]
    refine wp_val (v := .slice (some ⟨rb, ro, none⟩) 1 rc) (w' := X) ?_ ⟨rfl, hB⟩
    simp [execOp, go_sem, Act.eval]
   ·cases ho
    have s8 : S 8 = true := hp ⟨8, .data⟩ (by simp) rfl
    have s7 : S 7 = true := hp ⟨7, .guard⟩ (by simp) rfl
    rw [if_pos (show Region.wanted _ (yielded _ _) = true by simp [Region.wanted, yielded, s7])]
    refine wp_val (v := .pointer (some ⟨rb, ro, none⟩)) (w' := X) ?_ ⟨rfl, hB⟩
    simp [execOp, go_sem, Act.eval, s8]
   ·cases ho
    have s9 : S 9 = true := hp ⟨9, .data⟩ (by simp) rfl
    have s7 : S 7 = true := hp ⟨7, .guard⟩ (by simp) rfl
    rw [if_pos (show Region.wanted _ (yielded _ _) = true by simp [Region.wanted, yielded, s7])]
    refine wp_val (v := .pointer (some ⟨rb, ro + 3, none⟩)) (w' := X) ?_ ⟨rfl, hB⟩
    simp [execOp, go_sem, Act.eval, s9]
   ·cases ho
    have s10 : S 10 = true := hp ⟨10, .data⟩ (by simp) rfl
    have s7 : S 7 = true := hp ⟨7, .guard⟩ (by simp) rfl
    have z : X.cell? ⟨rb, ro + 3, none⟩ = some (.slice (some ⟨xb, xo, none⟩) 2 xc) := (hB.cell (p := ⟨rb, _, none⟩) lrb).trans k3
    rw [if_pos (show Region.wanted _ (yielded _ _) = true by simp [Region.wanted, yielded, s7])]
    refine wp_val (v := .slice (some ⟨xb, xo, none⟩) 2 xc) (w' := X) ?_ ⟨rfl, hB⟩
    simp [execOp, go_sem, Act.eval, s10, z]
   ·cases ho
    have s11 : S 11 = true := hp ⟨11, .data⟩ (by simp) rfl
    have s7 : S 7 = true := hp ⟨7, .guard⟩ (by simp) rfl
    rw [if_pos (show Region.wanted _ (yielded _ _) = true by simp [Region.wanted, yielded, s7])]
    refine wp_val (v := .int .i64 2) (w' := X) ?_ ⟨rfl, hB⟩
    simp [execOp, go_sem, Act.eval, s11]
   ·cases ho
    have s12 : S 12 = true := hp ⟨12, .data⟩ (by simp) rfl
    have s7 : S 7 = true := hp ⟨7, .guard⟩ (by simp) rfl
    rw [if_pos (show Region.wanted _ (yielded _ _) = true by simp [Region.wanted, yielded, s7])]
    refine wp_val (v := .bool false) (w' := X) ?_ ⟨rfl, hB⟩
    simp [execOp, go_sem, Act.eval, s12]
   ·cases ho
    have s7 : S 7 = true := hp ⟨7, .data⟩ (by simp) rfl
    have s13 : S 13 = true := hp ⟨13, .data⟩ (by simp) rfl
    rw [if_pos (show Region.wanted _ _ = true from rfl)]
    refine wp_val (v := .bool false) (w' := X) ?_ ⟨rfl, hB⟩
    simp [execOp, go_sem, Act.eval, s7, s13]
   ·cases ho
    have s14 : S 14 = true := hp ⟨14, .data⟩ (by simp) rfl
    rw [if_pos (show Region.wanted _ _ = true from rfl)]
    refine wp_val (v := .bool false) (w' := X) ?_ ⟨rfl, hB⟩
    simp [execOp, go_sem, Act.eval, s14]
   ·cases ho
    have s15 : S 15 = true := hp ⟨15, .guard⟩ (by simp) rfl
    rw [if_pos (show Region.wanted _ (yielded _ _) = true by simp [Region.wanted, yielded, s15])]
    refine wp_val (v := .slice (some ⟨rb, ro, none⟩) 1 rc) (w' := X) ?_ ⟨rfl, hB⟩
    simp [execOp, go_sem, Act.eval]
   ·cases ho
    have s16 : S 16 = true := hp ⟨16, .data⟩ (by simp) rfl
    have s15 : S 15 = true := hp ⟨15, .guard⟩ (by simp) rfl
    rw [if_pos (show Region.wanted _ (yielded _ _) = true by simp [Region.wanted, yielded, s15])]
    refine wp_val (v := .pointer (some ⟨rb, ro, none⟩)) (w' := X) ?_ ⟨rfl, hB⟩
    simp [execOp, go_sem, Act.eval, s16]
   ·cases ho
    have s17 : S 17 = true := hp ⟨17, .data⟩ (by simp) rfl
    have s15 : S 15 = true := hp ⟨15, .guard⟩ (by simp) rfl
    rw [if_pos (show Region.wanted _ (yielded _ _) = true by simp [Region.wanted, yielded, s15])]
    refine wp_val (v := .pointer (some ⟨rb, ro + 3, none⟩)) (w' := X) ?_ ⟨rfl, hB⟩
    simp [execOp, go_sem, Act.eval, s17]
   ·cases ho
    have s18 : S 18 = true := hp ⟨18, .data⟩ (by simp) rfl
    have s15 : S 15 = true := hp ⟨15, .guard⟩ (by simp) rfl
    have z : X.cell? ⟨rb, ro + 3, none⟩ = some (.slice (some ⟨xb, xo, none⟩) 2 xc) := (hB.cell (p := ⟨rb, _, none⟩) lrb).trans k3
    rw [if_pos (show Region.wanted _ (yielded _ _) = true by simp [Region.wanted, yielded, s15])]
    refine wp_val (v := .slice (some ⟨xb, xo, none⟩) 2 xc) (w' := X) ?_ ⟨rfl, hB⟩
    simp [execOp, go_sem, Act.eval, s18, z]
   ·cases ho
    have s19 : S 19 = true := hp ⟨19, .data⟩ (by simp) rfl
    have s15 : S 15 = true := hp ⟨15, .guard⟩ (by simp) rfl
    rw [if_pos (show Region.wanted _ (yielded _ _) = true by simp [Region.wanted, yielded, s15])]
    refine wp_val (v := .pointer (some ⟨xb, xo + 4, none⟩)) (w' := X) ?_ ⟨rfl, hB⟩
    simp [execOp, go_sem, Act.eval, s19]
   ·cases ho
    have s20 : S 20 = true := hp ⟨20, .data⟩ (by simp) rfl
    have s15 : S 15 = true := hp ⟨15, .guard⟩ (by simp) rfl
    rw [if_pos (show Region.wanted _ (yielded _ _) = true by simp [Region.wanted, yielded, s15])]
    refine wp_val (v := .pointer (some ⟨xb, xo + 4 + 2, none⟩)) (w' := X) ?_ ⟨rfl, hB⟩
    simp [execOp, go_sem, Act.eval, s20]
   ·cases ho
    have s21 : S 21 = true := hp ⟨21, .data⟩ (by simp) rfl
    have s15 : S 15 = true := hp ⟨15, .guard⟩ (by simp) rfl
    have z : X.cell? ⟨xb, xo + 4 + 2, none⟩ = some (.string ⟨#[yz]⟩) := (hB.cell (p := ⟨xb, _, none⟩) lxb).trans v2
    rw [if_pos (show Region.wanted _ (yielded _ _) = true by simp [Region.wanted, yielded, s15])]
    refine wp_val (v := .string ⟨#[yz]⟩) (w' := X) ?_ ⟨rfl, hB⟩
    simp [execOp, go_sem, Act.eval, s21, z]
   ·cases ho
    have s22 : S 22 = true := hp ⟨22, .data⟩ (by simp) rfl
    have s15 : S 15 = true := hp ⟨15, .guard⟩ (by simp) rfl
    rw [if_pos (show Region.wanted _ (yielded _ _) = true by simp [Region.wanted, yielded, s15])]
    refine wp_val (v := .int .i64 1) (w' := X) ?_ ⟨rfl, hB⟩
    simp [execOp, go_sem, Act.eval, s22]
    try rfl
   ·cases ho
    have s23 : S 23 = true := hp ⟨23, .data⟩ (by simp) rfl
    have s15 : S 15 = true := hp ⟨15, .guard⟩ (by simp) rfl
    rw [if_pos (show Region.wanted _ (yielded _ _) = true by simp [Region.wanted, yielded, s15])]
    refine wp_val (v := .bool false) (w' := X) ?_ ⟨rfl, hB⟩
    simp [execOp, go_sem, Act.eval, s23]
   ·cases ho
    have s15 : S 15 = true := hp ⟨15, .data⟩ (by simp) rfl
    have s24 : S 24 = true := hp ⟨24, .data⟩ (by simp) rfl
    rw [if_pos (show Region.wanted _ _ = true from rfl)]
    refine wp_val (v := .bool false) (w' := X) ?_ ⟨rfl, hB⟩
    simp [execOp, go_sem, Act.eval, s15, s24]
   ·cases ho
    have s25 : S 25 = true := hp ⟨25, .data⟩ (by simp) rfl
    rw [if_pos (show Region.wanted _ _ = true from rfl)]
    refine wp_val (v := .bool false) (w' := X) ?_ ⟨rfl, hB⟩
    simp [execOp, go_sem, Act.eval, s25]
   ·cases ho
    have s26 : S 26 = true := hp ⟨26, .guard⟩ (by simp) rfl
    rw [if_pos (show Region.wanted _ (yielded _ _) = true by simp [Region.wanted, yielded, s26])]
    refine wp_val (v := .slice (some ⟨rb, ro, none⟩) 1 rc) (w' := X) ?_ ⟨rfl, hB⟩
    simp [execOp, go_sem, Act.eval]
   ·cases ho
    have s27 : S 27 = true := hp ⟨27, .data⟩ (by simp) rfl
    have s26 : S 26 = true := hp ⟨26, .guard⟩ (by simp) rfl
    rw [if_pos (show Region.wanted _ (yielded _ _) = true by simp [Region.wanted, yielded, s26])]
    refine wp_val (v := .pointer (some ⟨rb, ro, none⟩)) (w' := X) ?_ ⟨rfl, hB⟩
    simp [execOp, go_sem, Act.eval, s27]
   ·cases ho
    have s28 : S 28 = true := hp ⟨28, .data⟩ (by simp) rfl
    have s26 : S 26 = true := hp ⟨26, .guard⟩ (by simp) rfl
    rw [if_pos (show Region.wanted _ (yielded _ _) = true by simp [Region.wanted, yielded, s26])]
    refine wp_val (v := .pointer (some ⟨rb, ro + 3, none⟩)) (w' := X) ?_ ⟨rfl, hB⟩
    simp [execOp, go_sem, Act.eval, s28]
   ·cases ho
    have s29 : S 29 = true := hp ⟨29, .data⟩ (by simp) rfl
    have s26 : S 26 = true := hp ⟨26, .guard⟩ (by simp) rfl
    have z : X.cell? ⟨rb, ro + 3, none⟩ = some (.slice (some ⟨xb, xo, none⟩) 2 xc) := (hB.cell (p := ⟨rb, _, none⟩) lrb).trans k3
    rw [if_pos (show Region.wanted _ (yielded _ _) = true by simp [Region.wanted, yielded, s26])]
    refine wp_val (v := .slice (some ⟨xb, xo, none⟩) 2 xc) (w' := X) ?_ ⟨rfl, hB⟩
    simp [execOp, go_sem, Act.eval, s29, z]
   ·cases ho
    have s30 : S 30 = true := hp ⟨30, .data⟩ (by simp) rfl
    have s26 : S 26 = true := hp ⟨26, .guard⟩ (by simp) rfl
    rw [if_pos (show Region.wanted _ (yielded _ _) = true by simp [Region.wanted, yielded, s26])]
    refine wp_val (v := .pointer (some ⟨xb, xo, none⟩)) (w' := X) ?_ ⟨rfl, hB⟩
    simp [execOp, go_sem, Act.eval, s30]
   ·cases ho
    have s31 : S 31 = true := hp ⟨31, .data⟩ (by simp) rfl
    have s26 : S 26 = true := hp ⟨26, .guard⟩ (by simp) rfl
    have z0 : X.cell? ⟨xb, xo, none⟩ = some (.int .i64 2) := (hB.cell (p := ⟨xb, _, none⟩) lxb).trans y0
    have z1 : X.cell? ⟨xb, xo + 1, none⟩ = some (.int .i64 0) := (hB.cell (p := ⟨xb, _, none⟩) lxb).trans y1
    have z2 : X.cell? ⟨xb, xo + 2, none⟩ = some (.string (chS ch)) := (hB.cell (p := ⟨xb, _, none⟩) lxb).trans y2
    have z3 : X.cell? ⟨xb, xo + 3, none⟩ = some (.slice FA 0 fc) := (hB.cell (p := ⟨xb, _, none⟩) lxb).trans y3
    rw [if_pos (show Region.wanted _ (yielded _ _) = true by simp [Region.wanted, yielded, s26])]
    refine wp_val (v := .agg #[.int .i64 2, .int .i64 0, .string (chS ch), .slice FA 0 fc]) (w' := X) ?_ ⟨rfl, hB⟩
    simp [execOp, go_sem, Act.eval, s31, z0, z1, z2, z3]
   ·cases ho
    have s26 : S 26 = true := hp ⟨26, .guard⟩ (by simp) rfl
    rw [if_pos (show Region.wanted _ (yielded _ _) = true by simp [Region.wanted, yielded, s26])]
    refine wp_val (v := .int .u8 ch) (w' := X) ?_ ⟨rfl, hB⟩
    simp [execOp, go_sem, Act.eval]
   ·cases ho
    have s33 : S 33 = true := hp ⟨33, .data⟩ (by simp) rfl
    have s26 : S 26 = true := hp ⟨26, .guard⟩ (by simp) rfl
    rw [if_pos (show Region.wanted _ (yielded _ _) = true by simp [Region.wanted, yielded, s26])]
    refine wp_cal ?_ (HCHR.out X) (fun v w' hR => ?_)
    ·simp [execOp, go_sem, Act.eval, s33]
     try rfl
    ·obtain ⟨rfl, hB'⟩ := hR
     exact ⟨rfl, hB.trans (hB'.mono hB.size)⟩
   ·cases ho
    have s32 : S 32 = true := hp ⟨32, .data⟩ (by simp) rfl
    have s34 : S 34 = true := hp ⟨34, .data⟩ (by simp) rfl
    have s26 : S 26 = true := hp ⟨26, .guard⟩ (by simp) rfl
    rw [if_pos (show Region.wanted _ (yielded _ _) = true by simp [Region.wanted, yielded, s26])]
    refine wp_cal ?_ (HSAME.out X) (fun v w' hR => ?_)
    ·simp [execOp, go_sem, Act.eval, s32, s34]
     try rfl
    ·obtain ⟨rfl, hB'⟩ := hR
     exact ⟨rfl, hB.trans (hB'.mono hB.size)⟩
   ·cases ho
    have s35 : S 35 = true := hp ⟨35, .data⟩ (by simp) rfl
    have s26 : S 26 = true := hp ⟨26, .guard⟩ (by simp) rfl
    rw [if_pos (show Region.wanted _ (yielded _ _) = true by simp [Region.wanted, yielded, s26])]
    refine wp_val (v := .bool false) (w' := X) ?_ ⟨rfl, hB⟩
    simp [execOp, go_sem, Act.eval, s35]
   ·cases ho
    have s26 : S 26 = true := hp ⟨26, .data⟩ (by simp) rfl
    have s36 : S 36 = true := hp ⟨36, .data⟩ (by simp) rfl
    rw [if_pos (show Region.wanted _ _ = true from rfl)]
    refine wp_val (v := .bool false) (w' := X) ?_ ⟨rfl, hB⟩
    simp [execOp, go_sem, Act.eval, s26, s36]
  case find =>
   rintro S a W2 hall ⟨rfl, hB⟩
   have s0 := hall 0 (show 0 < 38 by omega)
   have s1 := hall 1 (show 1 < 38 by omega)
   have s2 := hall 2 (show 2 < 38 by omega)
   have s3 := hall 3 (show 3 < 38 by omega)
   have s4 := hall 4 (show 4 < 38 by omega)
   have s5 := hall 5 (show 5 < 38 by omega)
   have s6 := hall 6 (show 6 < 38 by omega)
   have s7 := hall 7 (show 7 < 38 by omega)
   have s8 := hall 8 (show 8 < 38 by omega)
   have s9 := hall 9 (show 9 < 38 by omega)
   have s10 := hall 10 (show 10 < 38 by omega)
   have s11 := hall 11 (show 11 < 38 by omega)
   have s12 := hall 12 (show 12 < 38 by omega)
   have s13 := hall 13 (show 13 < 38 by omega)
   have s14 := hall 14 (show 14 < 38 by omega)
   have s15 := hall 15 (show 15 < 38 by omega)
   have s16 := hall 16 (show 16 < 38 by omega)
   have s17 := hall 17 (show 17 < 38 by omega)
   have s18 := hall 18 (show 18 < 38 by omega)
   have s19 := hall 19 (show 19 < 38 by omega)
   have s20 := hall 20 (show 20 < 38 by omega)
   have s21 := hall 21 (show 21 < 38 by omega)
   have s22 := hall 22 (show 22 < 38 by omega)
   have s23 := hall 23 (show 23 < 38 by omega)
   have s24 := hall 24 (show 24 < 38 by omega)
   have s25 := hall 25 (show 25 < 38 by omega)
   have s26 := hall 26 (show 26 < 38 by omega)
   have s27 := hall 27 (show 27 < 38 by omega)
   have s28 := hall 28 (show 28 < 38 by omega)
   have s29 := hall 29 (show 29 < 38 by omega)
   have s30 := hall 30 (show 30 < 38 by omega)
   have s31 := hall 31 (show 31 < 38 by omega)
   have s32 := hall 32 (show 32 < 38 by omega)
   have s33 := hall 33 (show 33 < 38 by omega)
   have s34 := hall 34 (show 34 < 38 by omega)
   have s35 := hall 35 (show 35 < 38 by omega)
   have s36 := hall 36 (show 36 < 38 by omega)
   have s37 := hall 37 (show 37 < 38 by omega)
   have k3 : W2.cell? ⟨rb, ro + 3, none⟩ = some (.slice (some ⟨xb, xo, none⟩) 2 xc) := (hB.cell (p := ⟨rb, _, none⟩) lrb).trans k3
   have v2 : W2.cell? ⟨xb, xo + 4 + 2, none⟩ = some (.string ⟨#[yz]⟩) := (hB.cell (p := ⟨xb, _, none⟩) lxb).trans v2
   have lrb := Nat.lt_of_lt_of_le lrb hB.size
   have lxb := Nat.lt_of_lt_of_le lxb hB.size
   have HBX := Lib.hid (HBLw.out.trans (hB.mono HBLw.out.size))
   refine hK2 _ _ ?_
   simp only [s0, s1, s2, s3, s4, s5, s6, s7, s8, s9, s10, s11, s12, s13, s14, s15, s16, s17, s18, s19, s20, s21, s22, s23, s24, s25, s26, s27, s28, s29, s30, s31, s32, s33, s34, s35, s36, s37, if_true]
   clear hall hB hK2 HBLw HCHR HSAME s0 s1 s2 s3 s4 s5 s6 s7 s8 s9 s10 s11 s12 s13 s14 s15 s16 s17 s18 s19 s20 s21 s22 s23 s24 s25 s26 s27 s28 s29 s30 s31 s32 s33 s34 s35 s36 s37
   go_wp2_with fail
   exact bodyPost_ret (v := .tuple #[.int .u8 (yz.toNat : Int), .bool true]) (by simp [results, Tryz.results39, go_sem]; try rfl) rfl ⟨rfl, HBX.out⟩
end Go.Proofs.YtfkhcpeahdkafaaGreat
