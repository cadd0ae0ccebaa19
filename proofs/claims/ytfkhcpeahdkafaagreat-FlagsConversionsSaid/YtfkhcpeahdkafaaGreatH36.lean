/- Flags: current_char_conversion tells what char_conversion has set. Flags: the law FlagsConversions, for any syntax. -/
import Derived.Test.YtfkhcpeahdkafaaGreatH35
namespace Go.Proofs.YtfkhcpeahdkafaaGreat
open Go.RowKit Hb Go.Shelf
set_option maxRecDepth 100000
set_option maxHeartbeats 6400000 in
theorem law_conv_bad (OA : Option Addr) (on oc : Nat) (q u : Int) (c d : Bool) (CA : Option Addr) (cn cc : Nat) (xa xb xc : Int) (a0 : 0 ≤ xa) (a1 : xa ≤ 255) (b0 : 0 ≤ xb) (b1 : xb ≤ 255) (_c0 : 0 ≤ xc) (_c1 : xc ≤ 255) (l : List OpR) (cl : List (Int × Int)) (w : World) (hTab : Tab w OA on oc l) (hcl : cn = cl.length) (hcp : Pairs w CA cl) (_hc0 : cn = 0 → (Value.slice CA cn cc = .slice none 0 0 ∨ ∃ ad, CA = some ad)) (hcn : cn ≤ maxLen) (hvs : (opsValid l && (flOk ⟨q, u, c, d⟩ && pvalid cl)) = false) :
  Calls Tryz.prog 8 #[.agg #[.slice OA on oc, .int .i64 q, .int .i64 u, .bool c, .bool d, .slice CA cn cc], .int .u8 xa, .int .u8 xb, .int .u8 xc] w fun e w' => e = .returned (.bool true) ∧ Below w.heap.size w w' := by
 have HCHA : Hid (∀ X, Calls Tryz.prog 38 #[.int .u8 xa] X fun e w' => ∃ v, e = .returned v ∧ (v = .agg #[.int .i64 2, .int .i64 0, .string (chS xa), .slice none 0 0] ∧ Below X.heap.size X w')) := Lib.hid fun X => (law_char xa a0 a1 X).mono fun e w' h => ⟨_, h.1, rfl, h.2⟩
 have HCHB : Hid (∀ X, Calls Tryz.prog 38 #[.int .u8 xb] X fun e w' => ∃ v, e = .returned v ∧ (v = .agg #[.int .i64 2, .int .i64 0, .string (chS xb), .slice none 0 0] ∧ Below X.heap.size X w')) := Lib.hid fun X => (law_char xb b0 b1 X).mono fun e w' h => ⟨_, h.1, rfl, h.2⟩
 have HGOAL : Hid (∀ X g, Calls Tryz.prog 35 #[.string ⟨#[99, 104, 97, 114, 95, 99, 111, 110, 118, 101, 114, 115, 105, 111, 110]⟩, .slice (some ⟨g, 0, none⟩) 2 2] X fun e w' => ∃ v, e = .returned v ∧ (v = .agg #[.int .i64 3, .int .i64 0, .string ⟨#[99, 104, 97, 114, 95, 99, 111, 110, 118, 101, 114, 115, 105, 111, 110]⟩, .slice (some ⟨g, 0, none⟩) 2 2] ∧ Below X.heap.size X w')) := Lib.hid fun X g => (law_goal _ _ _ _ X).mono fun e w' h => ⟨_, h.1, rfl, h.2⟩
 have hb0 : Below w.heap.size w (w.alloc (.cells #[.slice OA on oc, .int .i64 q, .int .i64 u, .bool c, .bool d, .slice CA cn cc] 43)) := ((Below.refl _ w).alloc (Nat.le_refl _) _)
 have HBL0 := Lib.hid hb0
 have HBK0 : Hid (Bks (w.alloc (.cells #[.slice OA on oc, .int .i64 q, .int .i64 u, .bool c, .bool d, .slice CA cn cc] 43)) [(w.heap.size, [.slice OA on oc, .int .i64 q, .int .i64 u, .bool c, .bool d, .slice CA cn cc])]) := Lib.hid ((Bks.nil w).new [.slice OA on oc, .int .i64 q, .int .i64 u, .bool c, .bool d, .slice CA cn cc] 43 rfl)
 have HCAL : Hid (∀ X g, Below w.heap.size w X → TmsAt X.heap.size X (some ⟨g, 0, none⟩) [atomT (chS xa), atomT (chS xb)] → Calls Tryz.prog 30 #[.agg #[.slice OA on oc, .int .i64 q, .int .i64 u, .bool c, .bool d, .slice CA cn cc], .agg #[.int .i64 3, .int .i64 0, .string ⟨#[99, 104, 97, 114, 95, 99, 111, 110, 118, 101, 114, 115, 105, 111, 110]⟩, .slice (some ⟨g, 0, none⟩) 2 2]] X fun e w' => ∃ v, e = .returned v ∧ ((∃ r : RV, v = r.val ∧ ResAny X.heap.size w'.heap.size w' r (.err 1)) ∧ Below X.heap.size X w')) := Lib.hid fun X g hX hT =>
  (f_call_a OA on oc q u c d CA cn cc 3 0 ⟨#[99, 104, 97, 114, 95, 99, 111, 110, 118, 101, 114, 115, 105, 111, 110]⟩ (some ⟨g, 0, none⟩) 2 2 [atomT (chS xa), atomT (chS xb)] l cl X (hTab.below hX) hcl hcn (hcp.below hX) rfl hT hvs).mono fun e w' h => ⟨_, h.1, ⟨rvB 0 0 ⟨#[]⟩ none 0 0 1, rfl, by decide, rfl, Nat.le_refl _⟩, h.2⟩
 have HVS : Hid (∀ X, Below w.heap.size w X → Calls Tryz.prog 24 #[.agg #[.slice OA on oc, .int .i64 q, .int .i64 u, .bool c, .bool d, .slice CA cn cc]] X fun e w' => e = .returned (.bool false) ∧ Below X.heap.size X w') := Lib.hid fun X hX => by
  have h := r8_validSyntax OA on oc q u c d CA cn cc l cl X (hTab.below hX) hcl hcn (hcp.below hX)
  rwa [hvs] at h
 clear hTab hcl hcp hcn hvs hb0
 go_enter Tryz.func8, Tryz.ntmps8
 go_wp2_with fail
 obtain ⟨W0, HW0⟩ : ∃ W0, Hid (W0 = (w.alloc (.cells #[.slice OA on oc, .int .i64 q, .int .i64 u, .bool c, .bool d, .slice CA cn cc] 43))) := ⟨_, Lib.hid rfl⟩
 rw [← HW0.out] at HBL0 HBK0 ⊢
 clear HW0
 rename_i K0 hK0
 have s0_0 := HBK0.out.cell 0 0 rfl rfl
 have s0_1 := HBK0.out.cell 0 1 rfl rfl
 have s0_2 := HBK0.out.cell 0 2 rfl rfl
 have s0_3 := HBK0.out.cell 0 3 rfl rfl
 have s0_4 := HBK0.out.cell 0 4 rfl rfl
 have s0_5 := HBK0.out.cell 0 5 rfl rfl
 have s0l : w.heap.size < W0.heap.size := HBK0.out.lt 0 rfl
 have HCALL : Hid (∀ X g, Below W0.heap.size W0 X → TmsAt X.heap.size X (some ⟨g, 0, none⟩) [atomT (chS xa), atomT (chS xb)] → Calls Tryz.prog 30 #[.agg #[.slice OA on oc, .int .i64 q, .int .i64 u, .bool c, .bool d, .slice CA cn cc], .agg #[.int .i64 3, .int .i64 0, .string ⟨#[99, 104, 97, 114, 95, 99, 111, 110, 118, 101, 114, 115, 105, 111, 110]⟩, .slice (some ⟨g, 0, none⟩) 2 2]] X fun e w' => ∃ v, e = .returned v ∧ ((∃ r : RV, v = r.val ∧ ResAny X.heap.size w'.heap.size w' r (.err 1)) ∧ Below X.heap.size X w')) := Lib.hid fun X g hX hT => HCAL.out X g (HBL0.out.trans (hX.mono HBL0.out.size)) hT
 refine wp_region_any (by kernel_rfl) ?_
 refine wpAny_inv (fun S a X => ∃ (g1 P Q e6 e8 : Nat) (r : RV), a = (⟨#[.agg #[.slice OA on oc, .int .i64 q, .int .i64 u, .bool c, .bool d, .slice CA cn cc], .int .u8 xa, .int .u8 xb, .int .u8 xc, .pointer (some ⟨w.heap.size, 0, none⟩), undef, undef, undef, .bool false, if S 13 = true then .pointer (some ⟨e6, 0, none⟩) else undef, if S 16 = true then .slice r.ra r.rn r.rc else undef, if S 14 = true then .pointer (some ⟨e8, 0, none⟩) else undef, if S 18 = true then .int .i64 r.er else undef, undef, undef, undef, undef, undef, undef, undef, undef, undef, undef, undef, if S 8 = true then .tuple #[.agg #[.slice r.oa r.on r.oc, .int .i64 r.q, .int .i64 r.u, .bool r.c, .bool r.d, .slice r.ca r.cn r.cc], .slice r.ra r.rn r.rc, .agg #[.int .i64 r.bk, .int .i64 r.bn, .string r.bs, .slice r.ba r.bz r.bc], .int .i64 r.er] else undef, if S 0 = true then .agg #[.slice OA on oc, .int .i64 q, .int .i64 u, .bool c, .bool d, .slice CA cn cc] else undef, if S 1 = true then .int .u8 xa else undef, if S 2 = true then .agg #[.int .i64 2, .int .i64 0, .string (chS xa), .slice none 0 0] else undef, if S 3 = true then .int .u8 xb else undef, if S 4 = true then .agg #[.int .i64 2, .int .i64 0, .string (chS xb), .slice none 0 0] else undef, if S 5 = true then .slice (some ⟨g1, 0, none⟩) 2 2 else undef, if S 6 = true then .agg #[.int .i64 3, .int .i64 0, .string ⟨#[99, 104, 97, 114, 95, 99, 111, 110, 118, 101, 114, 115, 105, 111, 110]⟩, .slice (some ⟨g1, 0, none⟩) 2 2] else undef, if S 7 = true then .tuple #[.agg #[.slice r.oa r.on r.oc, .int .i64 r.q, .int .i64 r.u, .bool r.c, .bool r.d, .slice r.ca r.cn r.cc], .slice r.ra r.rn r.rc, .agg #[.int .i64 r.bk, .int .i64 r.bn, .string r.bs, .slice r.ba r.bz r.bc], .int .i64 r.er] else undef, if S 9 = true then .agg #[.slice r.oa r.on r.oc, .int .i64 r.q, .int .i64 r.u, .bool r.c, .bool r.d, .slice r.ca r.cn r.cc] else undef, if S 10 = true then .slice r.ra r.rn r.rc else undef, if S 11 = true then .agg #[.int .i64 r.bk, .int .i64 r.bn, .string r.bs, .slice r.ba r.bz r.bc] else undef, if S 12 = true then .int .i64 r.er else undef, undef, undef, undef, undef, undef, undef, undef, undef, undef, undef, undef, undef, undef, undef, undef, undef, undef, undef, undef, undef, undef, undef, undef, undef, undef, undef, undef, undef, undef, undef, undef, undef, undef, undef, undef, undef, undef, undef, undef, undef, undef, undef, undef, undef, undef, undef, undef, undef, undef, undef, undef, undef, undef, undef, undef, undef, undef, undef, undef, undef, undef, undef, undef, undef, undef, undef, undef, undef, undef, undef, undef, undef, undef, undef, undef, undef, undef, undef, undef, undef, undef, undef, undef, undef, undef, undef, undef, undef, undef, undef], []⟩ : Act) ∧ Below W0.heap.size W0 X ∧ (S 5 = true → S 7 = false → TmsAt X.heap.size X (some ⟨g1, 0, none⟩) [atomT (chS xa), atomT (chS xb)]) ∧ (S 7 = true → ResAny P Q X r (.err 1) ∧ W0.heap.size ≤ P) ∧ (S 13 = true → W0.heap.size ≤ e6 ∧ Bk X e6 (if S 15 = true then [.slice r.oa r.on r.oc, .int .i64 r.q, .int .i64 r.u, .bool r.c, .bool r.d, .slice r.ca r.cn r.cc] else [.slice none 0 0, .int .i64 0, .int .i64 0, .bool false, .bool false, .slice none 0 0]) ∧ (S 7 = true → e6 < P ∨ Q ≤ e6)) ∧ (S 14 = true → W0.heap.size ≤ e8 ∧ Bk X e8 (if S 17 = true then [.int .i64 r.bk, .int .i64 r.bn, .string r.bs, .slice r.ba r.bz r.bc] else [.int .i64 0, .int .i64 0, .string ⟨#[]⟩, .slice none 0 0]) ∧ (S 7 = true → e8 < P ∨ Q ≤ e8)) ∧ (S 13 = true → S 14 = true → e6 ≠ e8) ∧ (S 7 = false → S 8 = false ∧ S 9 = false ∧ S 10 = false ∧ S 11 = false ∧ S 12 = false ∧ S 15 = false ∧ S 16 = false ∧ S 17 = false ∧ S 18 = false) ∧ (S 6 = true → S 5 = true) ∧ (S 15 = true → S 13 = true) ∧ (S 17 = true → S 14 = true)) (by kernel_rfl) ?stepc ?finc 19 (fun _ => false) _ _ (by decide) ⟨0, 0, 0, 0, 0, ⟨none, 0, 0, 0, 0, false, false, none, 0, 0, none, 0, 0, 0, 0, ⟨#[]⟩, none, 0, 0, 0⟩, rfl, (Below.refl _ W0).drew, fun h => (by cases h), fun h => (by cases h), fun h => (by cases h), fun h => (by cases h), fun h => (by cases h), fun _ => ⟨rfl, rfl, rfl, rfl, rfl, rfl, rfl, rfl, rfl⟩, fun h => (by cases h), fun h => (by cases h), fun h => (by cases h)⟩
 case stepc =>
  rintro S j o a X ho hs hp ⟨g1, P, Q, e6, e8, r, rfl, hB, hrow, hres, h6, h8, hne, hd, igr, i6, i8⟩
  have hlt : j < 19 := (Array.getElem?_eq_some_iff.1 ho).1
  rcases (show j = 0 ∨ j = 1 ∨ j = 2 ∨ j = 3 ∨ j = 4 ∨ j = 5 ∨ j = 6 ∨ j = 7 ∨ j = 8 ∨ j = 9 ∨ j = 10 ∨ j = 11 ∨ j = 12 ∨ j = 13 ∨ j = 14 ∨ j = 15 ∨ j = 16 ∨ j = 17 ∨ j = 18 by omega) with rfl | rfl | rfl | rfl | rfl | rfl | rfl | rfl | rfl | rfl | rfl | rfl | rfl | rfl | rfl | rfl | rfl | rfl | rfl
  ·cases ho
   have z0 : X.cell? ⟨w.heap.size, 0, none⟩ = some (.slice OA on oc) := (hB.cell (p := ⟨_, 0, none⟩) s0l).trans s0_0
   have z1 : X.cell? ⟨w.heap.size, 1, none⟩ = some (.int .i64 q) := (hB.cell (p := ⟨_, 1, none⟩) s0l).trans s0_1
   have z2 : X.cell? ⟨w.heap.size, 2, none⟩ = some (.int .i64 u) := (hB.cell (p := ⟨_, 2, none⟩) s0l).trans s0_2
   have z3 : X.cell? ⟨w.heap.size, 3, none⟩ = some (.bool c) := (hB.cell (p := ⟨_, 3, none⟩) s0l).trans s0_3
   have z4 : X.cell? ⟨w.heap.size, 4, none⟩ = some (.bool d) := (hB.cell (p := ⟨_, 4, none⟩) s0l).trans s0_4
   have z5 : X.cell? ⟨w.heap.size, 5, none⟩ = some (.slice CA cn cc) := (hB.cell (p := ⟨_, 5, none⟩) s0l).trans s0_5
   rw [if_pos (show Region.wanted _ _ = true from rfl)]
   refine wp_val (v := .agg #[.slice OA on oc, .int .i64 q, .int .i64 u, .bool c, .bool d, .slice CA cn cc]) (w' := X) ?_ ⟨g1, P, Q, e6, e8, r, rfl, hB, hrow, hres, h6, h8, hne, hd, igr, i6, i8⟩
   simp [execOp, go_sem, Act.eval, z0, z1, z2, z3, z4, z5]
  ·cases ho
   rw [if_pos (show Region.wanted _ _ = true from rfl)]
   refine wp_val (v := .int .u8 xa) (w' := X) ?_ ⟨g1, P, Q, e6, e8, r, rfl, hB, hrow, hres, h6, h8, hne, hd, igr, i6, i8⟩
   simp [execOp, go_sem, Act.eval]
  ·cases ho
   have s1 : S 1 = true := hp ⟨1, .data⟩ (by simp) rfl
   rw [if_pos (show Region.wanted _ _ = true from rfl)]
   refine wp_cal ?_ (HCHA.out X) (fun v w' hR => ?_)
   ·simp [execOp, go_sem, Act.eval, s1]
    try rfl
   ·obtain ⟨rfl, hB'⟩ := hR
    exact ⟨g1, P, Q, e6, e8, r, rfl, hB.trans (hB'.mono hB.size), fun h h2 => ((hrow h h2).keep hB').mono hB'.size, fun h => ⟨(hres h).1.call hB', (hres h).2⟩, fun h => ⟨(h6 h).1, (h6 h).2.1.call hB', (h6 h).2.2⟩, fun h => ⟨(h8 h).1, (h8 h).2.1.call hB', (h8 h).2.2⟩, hne, hd, igr, i6, i8⟩
  ·cases ho
   rw [if_pos (show Region.wanted _ _ = true from rfl)]
   refine wp_val (v := .int .u8 xb) (w' := X) ?_ ⟨g1, P, Q, e6, e8, r, rfl, hB, hrow, hres, h6, h8, hne, hd, igr, i6, i8⟩
   simp [execOp, go_sem, Act.eval]
  ·cases ho
   have s3 : S 3 = true := hp ⟨3, .data⟩ (by simp) rfl
   rw [if_pos (show Region.wanted _ _ = true from rfl)]
   refine wp_cal ?_ (HCHB.out X) (fun v w' hR => ?_)
   ·simp [execOp, go_sem, Act.eval, s3]
    try rfl
   ·obtain ⟨rfl, hB'⟩ := hR
    exact ⟨g1, P, Q, e6, e8, r, rfl, hB.trans (hB'.mono hB.size), fun h h2 => ((hrow h h2).keep hB').mono hB'.size, fun h => ⟨(hres h).1.call hB', (hres h).2⟩, fun h => ⟨(h6 h).1, (h6 h).2.1.call hB', (h6 h).2.2⟩, fun h => ⟨(h8 h).1, (h8 h).2.1.call hB', (h8 h).2.2⟩, hne, hd, igr, i6, i8⟩
  ·cases ho
   have s2 : S 2 = true := hp ⟨2, .data⟩ (by simp) rfl
   have s4 : S 4 = true := hp ⟨4, .data⟩ (by simp) rfl
   rw [if_pos (show Region.wanted _ _ = true from rfl)]
   have dg : S 6 = false := by
    cases h : S 6
    ·rfl
    ·exact absurd (igr h) (by rw [hs]; simp)
   have ug : updF S 5 6 = false := dg
   have hB' := (Below.refl X.heap.size X).alloc (Nat.le_refl _) (.cells #[.int .i64 2, .int .i64 0, .string (chS xa), .slice none 0 0, .int .i64 2, .int .i64 0, .string (chS xb), .slice none 0 0] 26)
   have hrw := TmsK.rows (K := fun b => b < X.heap.size + 1) (w := X) (rs := [(atomT (chS xa), none, 0), (atomT (chS xb), none, 0)]) (e := 26) (by omega) (by simp [maxLen]) (fun x hx => by
    simp only [List.mem_cons, List.mem_nil_iff, or_false] at hx
    rcases hx with rfl | rfl <;> exact TmsK.nil)
   refine wp_val (v := .slice (some ⟨X.heap.size, 0, none⟩) 2 2) (w' := X.alloc (.cells #[.int .i64 2, .int .i64 0, .string (chS xa), .slice none 0 0, .int .i64 2, .int .i64 0, .string (chS xb), .slice none 0 0] 26)) ?_ ⟨X.heap.size, P, Q, e6, e8, r, ?_, hB.trans (hB'.mono hB.size), fun _ _ => TmsK.at' hrw, fun h => ⟨(hres h).1.call hB', (hres h).2⟩, fun h => ⟨(h6 h).1, (h6 h).2.1.call hB', (h6 h).2.2⟩, fun h => ⟨(h8 h).1, (h8 h).2.1.call hB', (h8 h).2.2⟩, hne, hd, fun _ => rfl, i6, i8⟩
   ·simp [execOp, go_sem, Act.eval, s2, s4]
   ·simp only [dg, ug, Bool.false_eq_true, if_false]
    rfl
  ·cases ho
   have s5 : S 5 = true := hp ⟨5, .data⟩ (by simp) rfl
   rw [if_pos (show Region.wanted _ _ = true from rfl)]
   refine wp_cal ?_ (HGOAL.out X g1) (fun v w' hR => ?_)
   ·simp [execOp, go_sem, Act.eval, s5]
    try rfl
   ·obtain ⟨rfl, hB'⟩ := hR
    exact ⟨g1, P, Q, e6, e8, r, rfl, hB.trans (hB'.mono hB.size), fun h h2 => ((hrow h h2).keep hB').mono hB'.size, fun h => ⟨(hres h).1.call hB', (hres h).2⟩, fun h => ⟨(h6 h).1, (h6 h).2.1.call hB', (h6 h).2.2⟩, fun h => ⟨(h8 h).1, (h8 h).2.1.call hB', (h8 h).2.2⟩, hne, hd, fun _ => s5, i6, i8⟩
  ·cases ho
   have s0 : S 0 = true := hp ⟨0, .data⟩ (by simp) rfl
   have s6 : S 6 = true := hp ⟨6, .data⟩ (by simp) rfl
   rw [if_pos (show Region.wanted _ _ = true from rfl)]
   have hrw0 := igr s6
   obtain ⟨d8, d9, d10, d11, d12, d15, d16, d17, d18⟩ := hd hs
   refine wp_cal ?_ (HCALL.out X g1 hB (hrow hrw0 hs)) (fun v w' hR => ?_)
   ·simp [execOp, go_sem, Act.eval, s0, s6]
    try rfl
   ·obtain ⟨⟨r', rfl, hO⟩, hB'⟩ := hR
    have K6 : ∀ h : S 13 = true, Bk w' e6 (if updF S 7 15 = true then [.slice r'.oa r'.on r'.oc, .int .i64 r'.q, .int .i64 r'.u, .bool r'.c, .bool r'.d, .slice r'.ca r'.cn r'.cc] else [.slice none 0 0, .int .i64 0, .int .i64 0, .bool false, .bool false, .slice none 0 0]) := fun h => by
     have hk := (h6 h).2.1.call hB'
     rw [if_neg (by rw [d15]; simp)] at hk
     rw [if_neg (show ¬ updF S 7 15 = true from fun hh => by rw [show updF S 7 15 = S 15 from rfl, d15] at hh; cases hh)]
     exact hk
    have K8 : ∀ h : S 14 = true, Bk w' e8 (if updF S 7 17 = true then [.int .i64 r'.bk, .int .i64 r'.bn, .string r'.bs, .slice r'.ba r'.bz r'.bc] else [.int .i64 0, .int .i64 0, .string ⟨#[]⟩, .slice none 0 0]) := fun h => by
     have hk := (h8 h).2.1.call hB'
     rw [if_neg (by rw [d17]; simp)] at hk
     rw [if_neg (show ¬ updF S 7 17 = true from fun hh => by rw [show updF S 7 17 = S 17 from rfl, d17] at hh; cases hh)]
     exact hk
    refine ⟨g1, X.heap.size, w'.heap.size, e6, e8, r', ?_, hB.trans (hB'.mono hB.size), fun _ h => (by cases h), fun _ => ⟨hO, hB.size⟩, fun h => ⟨(h6 h).1, K6 h, fun _ => .inl (h6 h).2.1.lt⟩, fun h => ⟨(h8 h).1, K8 h, fun _ => .inl (h8 h).2.1.lt⟩, hne, (fun h => nomatch (show true = false from h)), igr, i6, i8⟩
    have u8 : updF S 7 8 = false := d8
    have u9 : updF S 7 9 = false := d9
    have u10 : updF S 7 10 = false := d10
    have u11 : updF S 7 11 = false := d11
    have u12 : updF S 7 12 = false := d12
    have u16 : updF S 7 16 = false := d16
    have u18 : updF S 7 18 = false := d18
    simp only [d8, u8, d9, u9, d10, u10, d11, u11, d12, u12, d16, u16, d18, u18, Bool.false_eq_true, if_false]
    rfl
  ·cases ho
   have s7 : S 7 = true := hp ⟨7, .data⟩ (by simp) rfl
   rw [if_pos (show Region.wanted _ _ = true from rfl)]
   refine wp_val (v := .tuple #[.agg #[.slice r.oa r.on r.oc, .int .i64 r.q, .int .i64 r.u, .bool r.c, .bool r.d, .slice r.ca r.cn r.cc], .slice r.ra r.rn r.rc, .agg #[.int .i64 r.bk, .int .i64 r.bn, .string r.bs, .slice r.ba r.bz r.bc], .int .i64 r.er]) (w' := X) ?_ ⟨g1, P, Q, e6, e8, r, rfl, hB, hrow, hres, h6, h8, hne, fun h => absurd (show S 7 = false from h) (by rw [s7]; simp), igr, i6, i8⟩
   simp [execOp, go_sem, Act.eval, s7]
  ·cases ho
   have s8 : S 8 = true := hp ⟨8, .data⟩ (by simp) rfl
   have s7 : S 7 = true := by
    cases h : S 7
    ·have := (hd h).1
     rw [s8] at this; cases this
    ·rfl
   rw [if_pos (show Region.wanted _ _ = true from rfl)]
   refine wp_val (v := .agg #[.slice r.oa r.on r.oc, .int .i64 r.q, .int .i64 r.u, .bool r.c, .bool r.d, .slice r.ca r.cn r.cc]) (w' := X) ?_ ⟨g1, P, Q, e6, e8, r, rfl, hB, hrow, hres, h6, h8, hne, fun h => absurd (show S 7 = false from h) (by rw [s7]; simp), igr, i6, i8⟩
   simp [execOp, go_sem, Act.eval, s8]
  ·cases ho
   have s8 : S 8 = true := hp ⟨8, .data⟩ (by simp) rfl
   have s7 : S 7 = true := by
    cases h : S 7
    ·have := (hd h).1
     rw [s8] at this; cases this
    ·rfl
   rw [if_pos (show Region.wanted _ _ = true from rfl)]
   refine wp_val (v := .slice r.ra r.rn r.rc) (w' := X) ?_ ⟨g1, P, Q, e6, e8, r, rfl, hB, hrow, hres, h6, h8, hne, fun h => absurd (show S 7 = false from h) (by rw [s7]; simp), igr, i6, i8⟩
   simp [execOp, go_sem, Act.eval, s8]
  ·cases ho
   have s8 : S 8 = true := hp ⟨8, .data⟩ (by simp) rfl
   have s7 : S 7 = true := by
    cases h : S 7
    ·have := (hd h).1
     rw [s8] at this; cases this
    ·rfl
   rw [if_pos (show Region.wanted _ _ = true from rfl)]
   refine wp_val (v := .agg #[.int .i64 r.bk, .int .i64 r.bn, .string r.bs, .slice r.ba r.bz r.bc]) (w' := X) ?_ ⟨g1, P, Q, e6, e8, r, rfl, hB, hrow, hres, h6, h8, hne, fun h => absurd (show S 7 = false from h) (by rw [s7]; simp), igr, i6, i8⟩
   simp [execOp, go_sem, Act.eval, s8]
  ·cases ho
   have s8 : S 8 = true := hp ⟨8, .data⟩ (by simp) rfl
   have s7 : S 7 = true := by
    cases h : S 7
    ·have := (hd h).1
     rw [s8] at this; cases this
    ·rfl
   rw [if_pos (show Region.wanted _ _ = true from rfl)]
   refine wp_val (v := .int .i64 r.er) (w' := X) ?_ ⟨g1, P, Q, e6, e8, r, rfl, hB, hrow, hres, h6, h8, hne, fun h => absurd (show S 7 = false from h) (by rw [s7]; simp), igr, i6, i8⟩
   simp [execOp, go_sem, Act.eval, s8]
  ·cases ho
   rw [if_pos (show Region.wanted _ _ = true from rfl)]
   have hB' := (Below.refl X.heap.size X).alloc (Nat.le_refl _) (.cells #[.slice none 0 0, .int .i64 0, .int .i64 0, .bool false, .bool false, .slice none 0 0] 43)
   have KN : Bk (X.alloc (.cells #[.slice none 0 0, .int .i64 0, .int .i64 0, .bool false, .bool false, .slice none 0 0] 43)) X.heap.size (if updF S 13 15 = true then [.slice r.oa r.on r.oc, .int .i64 r.q, .int .i64 r.u, .bool r.c, .bool r.d, .slice r.ca r.cn r.cc] else [.slice none 0 0, .int .i64 0, .int .i64 0, .bool false, .bool false, .slice none 0 0]) := by
    rw [if_neg (show ¬ updF S 13 15 = true from fun hh => absurd (i6 hh) (by rw [hs]; simp))]
    exact Bk.new X [.slice none 0 0, .int .i64 0, .int .i64 0, .bool false, .bool false, .slice none 0 0] 43
   refine wp_val (v := .pointer (some ⟨X.heap.size, 0, none⟩)) (w' := X.alloc (.cells #[.slice none 0 0, .int .i64 0, .int .i64 0, .bool false, .bool false, .slice none 0 0] 43)) ?_ ⟨g1, P, Q, X.heap.size, e8, r, rfl, hB.alloc hB.size _, fun h h2 => ((hrow h h2).keep hB').mono hB'.size, fun h => ⟨(hres h).1.call hB', (hres h).2⟩, fun _ => ⟨hB.size, KN, fun h => .inr (hres h).1.qx⟩, fun h => ⟨(h8 h).1, (h8 h).2.1.call hB', (h8 h).2.2⟩, fun _ h => Nat.ne_of_gt (h8 h).2.1.lt, hd, igr, fun _ => rfl, i8⟩
   simp [execOp, go_sem]
  ·cases ho
   rw [if_pos (show Region.wanted _ _ = true from rfl)]
   have hB' := (Below.refl X.heap.size X).alloc (Nat.le_refl _) (.cells #[.int .i64 0, .int .i64 0, .string ⟨#[]⟩, .slice none 0 0] 26)
   have KN : Bk (X.alloc (.cells #[.int .i64 0, .int .i64 0, .string ⟨#[]⟩, .slice none 0 0] 26)) X.heap.size (if updF S 14 17 = true then [.int .i64 r.bk, .int .i64 r.bn, .string r.bs, .slice r.ba r.bz r.bc] else [.int .i64 0, .int .i64 0, .string ⟨#[]⟩, .slice none 0 0]) := by
    rw [if_neg (show ¬ updF S 14 17 = true from fun hh => absurd (i8 hh) (by rw [hs]; simp))]
    exact Bk.new X [.int .i64 0, .int .i64 0, .string ⟨#[]⟩, .slice none 0 0] 26
   refine wp_val (v := .pointer (some ⟨X.heap.size, 0, none⟩)) (w' := X.alloc (.cells #[.int .i64 0, .int .i64 0, .string ⟨#[]⟩, .slice none 0 0] 26)) ?_ ⟨g1, P, Q, e6, X.heap.size, r, rfl, hB.alloc hB.size _, fun h h2 => ((hrow h h2).keep hB').mono hB'.size, fun h => ⟨(hres h).1.call hB', (hres h).2⟩, fun h => ⟨(h6 h).1, (h6 h).2.1.call hB', (h6 h).2.2⟩, fun _ => ⟨hB.size, KN, fun h => .inr (hres h).1.qx⟩, fun h _ => Nat.ne_of_lt (h6 h).2.1.lt, hd, igr, i6, fun _ => rfl⟩
   simp [execOp, go_sem]
  ·cases ho
   have s9 : S 9 = true := hp ⟨9, .data⟩ (by simp) rfl
   have s13 : S 13 = true := hp ⟨13, .data⟩ (by simp) rfl
   have s7 : S 7 = true := by
    cases h : S 7
    ·have := (hd h).2.1
     rw [s9] at this; cases this
    ·rfl
   rw [if_pos (show Region.wanted _ _ = true from rfl)]
   have hk := (h6 s13).2.1
   rw [if_neg (by rw [hs]; simp)] at hk
   have NE : ∀ h : S 14 = true, e8 ≠ e6 := fun h => (hne s13 h).symm
   have z0 := hk.c 0 (.slice none 0 0) rfl
   have f0 := hk.f 0
   have z1 := hk.c 1 (.int .i64 0) rfl
   have f1 := hk.f 1
   have z2 := hk.c 2 (.int .i64 0) rfl
   have f2 := hk.f 2
   have z3 := hk.c 3 (.bool false) rfl
   have f3 := hk.f 3
   have z4 := hk.c 4 (.bool false) rfl
   have f4 := hk.f 4
   have z5 := hk.c 5 (.slice none 0 0) rfl
   have f5 := hk.f 5
   refine wp_skp (w' := ((((((X.setCell ⟨e6, 0, none⟩ (.slice r.oa r.on r.oc)).setCell ⟨e6, 1, none⟩ (.int .i64 r.q)).setCell ⟨e6, 2, none⟩ (.int .i64 r.u)).setCell ⟨e6, 3, none⟩ (.bool r.c)).setCell ⟨e6, 4, none⟩ (.bool r.d)).setCell ⟨e6, 5, none⟩ (.slice r.ca r.cn r.cc))) ?_ ⟨g1, P, Q, e6, e8, r, rfl, ((((((hB.setCell (p := ⟨_, _, none⟩) (h6 s13).1 _).setCell (p := ⟨_, _, none⟩) (h6 s13).1 _).setCell (p := ⟨_, _, none⟩) (h6 s13).1 _).setCell (p := ⟨_, _, none⟩) (h6 s13).1 _).setCell (p := ⟨_, _, none⟩) (h6 s13).1 _).setCell (p := ⟨_, _, none⟩) (h6 s13).1 _), fun _ h => absurd (show S 7 = false from h) (by rw [s7]; simp), fun _ => ⟨(hres s7).1.put e6 [.slice none 0 0, .int .i64 0, .int .i64 0, .bool false, .bool false, .slice none 0 0] ((h6 s13).2.2 s7) hk (by intro i s x; rcases i with _ | _ | _ | _ | _ | _ | i <;> simp) (by simp) (fun b hb => by rw [heap_setCell_other _ _ _ _ hb, heap_setCell_other _ _ _ _ hb, heap_setCell_other _ _ _ _ hb, heap_setCell_other _ _ _ _ hb, heap_setCell_other _ _ _ _ hb, heap_setCell_other _ _ _ _ hb]), (hres s7).2⟩, fun _ => ⟨(h6 s13).1, by rw [if_pos (show updF S 15 15 = true from rfl)]; exact ((((((hk.set 0 (.slice r.oa r.on r.oc)).set 1 (.int .i64 r.q)).set 2 (.int .i64 r.u)).set 3 (.bool r.c)).set 4 (.bool r.d)).set 5 (.slice r.ca r.cn r.cc)), (h6 s13).2.2⟩, fun h => ⟨(h8 h).1, (((((((h8 h).2.1.other (NE h) 0 (.slice r.oa r.on r.oc)).other (NE h) 1 (.int .i64 r.q)).other (NE h) 2 (.int .i64 r.u)).other (NE h) 3 (.bool r.c)).other (NE h) 4 (.bool r.d)).other (NE h) 5 (.slice r.ca r.cn r.cc)), (h8 h).2.2⟩, hne, fun h => absurd (show S 7 = false from h) (by rw [s7]; simp), igr, fun _ => s13, i8⟩
   simp [execOp, go_sem, Act.eval, s13, s9, z0, f0, z1, f1, z2, f2, z3, f3, z4, f4, z5, f5]
  ·cases ho
   have s10 : S 10 = true := hp ⟨10, .data⟩ (by simp) rfl
   have s7 : S 7 = true := by
    cases h : S 7
    ·have := (hd h).2.2.1
     rw [s10] at this; cases this
    ·rfl
   rw [if_pos (show Region.wanted _ _ = true from rfl)]
   refine wp_val (v := .slice r.ra r.rn r.rc) (w' := X) ?_ ⟨g1, P, Q, e6, e8, r, rfl, hB, hrow, hres, h6, h8, hne, fun h => absurd (show S 7 = false from h) (by rw [s7]; simp), igr, i6, i8⟩
   simp [execOp, go_sem, Act.eval, s10]
  ·cases ho
   have s11 : S 11 = true := hp ⟨11, .data⟩ (by simp) rfl
   have s14 : S 14 = true := hp ⟨14, .data⟩ (by simp) rfl
   have s7 : S 7 = true := by
    cases h : S 7
    ·have := (hd h).2.2.2.1
     rw [s11] at this; cases this
    ·rfl
   rw [if_pos (show Region.wanted _ _ = true from rfl)]
   have hk := (h8 s14).2.1
   rw [if_neg (by rw [hs]; simp)] at hk
   have NE : ∀ h : S 13 = true, e6 ≠ e8 := fun h => hne h s14
   have z0 := hk.c 0 (.int .i64 0) rfl
   have f0 := hk.f 0
   have z1 := hk.c 1 (.int .i64 0) rfl
   have f1 := hk.f 1
   have z2 := hk.c 2 (.string ⟨#[]⟩) rfl
   have f2 := hk.f 2
   have z3 := hk.c 3 (.slice none 0 0) rfl
   have f3 := hk.f 3
   refine wp_skp (w' := ((((X.setCell ⟨e8, 0, none⟩ (.int .i64 r.bk)).setCell ⟨e8, 1, none⟩ (.int .i64 r.bn)).setCell ⟨e8, 2, none⟩ (.string r.bs)).setCell ⟨e8, 3, none⟩ (.slice r.ba r.bz r.bc))) ?_ ⟨g1, P, Q, e6, e8, r, rfl, ((((hB.setCell (p := ⟨_, _, none⟩) (h8 s14).1 _).setCell (p := ⟨_, _, none⟩) (h8 s14).1 _).setCell (p := ⟨_, _, none⟩) (h8 s14).1 _).setCell (p := ⟨_, _, none⟩) (h8 s14).1 _), fun _ h => absurd (show S 7 = false from h) (by rw [s7]; simp), fun _ => ⟨(hres s7).1.put e8 [.int .i64 0, .int .i64 0, .string ⟨#[]⟩, .slice none 0 0] ((h8 s14).2.2 s7) hk (by intro i s x; rcases i with _ | _ | _ | _ | i <;> simp) (by simp) (fun b hb => by rw [heap_setCell_other _ _ _ _ hb, heap_setCell_other _ _ _ _ hb, heap_setCell_other _ _ _ _ hb, heap_setCell_other _ _ _ _ hb]), (hres s7).2⟩, fun h => ⟨(h6 h).1, (((((h6 h).2.1.other (NE h) 0 (.int .i64 r.bk)).other (NE h) 1 (.int .i64 r.bn)).other (NE h) 2 (.string r.bs)).other (NE h) 3 (.slice r.ba r.bz r.bc)), (h6 h).2.2⟩, fun _ => ⟨(h8 s14).1, by rw [if_pos (show updF S 17 17 = true from rfl)]; exact ((((hk.set 0 (.int .i64 r.bk)).set 1 (.int .i64 r.bn)).set 2 (.string r.bs)).set 3 (.slice r.ba r.bz r.bc)), (h8 s14).2.2⟩, hne, fun h => absurd (show S 7 = false from h) (by rw [s7]; simp), igr, i6, fun _ => s14⟩
   simp [execOp, go_sem, Act.eval, s14, s11, z0, f0, z1, f1, z2, f2, z3, f3]
  ·cases ho
   have s12 : S 12 = true := hp ⟨12, .data⟩ (by simp) rfl
   have s7 : S 7 = true := by
    cases h : S 7
    ·have := (hd h).2.2.2.2.1
     rw [s12] at this; cases this
    ·rfl
   rw [if_pos (show Region.wanted _ _ = true from rfl)]
   refine wp_val (v := .int .i64 r.er) (w' := X) ?_ ⟨g1, P, Q, e6, e8, r, rfl, hB, hrow, hres, h6, h8, hne, fun h => absurd (show S 7 = false from h) (by rw [s7]; simp), igr, i6, i8⟩
   simp [execOp, go_sem, Act.eval, s12]
 case finc =>
  rintro S a W1 hall ⟨g1, P, Q, e6, e8, r, rfl, hB, hrow, hres, h6, h8, hne, hd, igr, i6, i8⟩
  have s0 := hall 0 (show 0 < 19 by omega)
  have s1 := hall 1 (show 1 < 19 by omega)
  have s2 := hall 2 (show 2 < 19 by omega)
  have s3 := hall 3 (show 3 < 19 by omega)
  have s4 := hall 4 (show 4 < 19 by omega)
  have s5 := hall 5 (show 5 < 19 by omega)
  have s6 := hall 6 (show 6 < 19 by omega)
  have s7 := hall 7 (show 7 < 19 by omega)
  have s8 := hall 8 (show 8 < 19 by omega)
  have s9 := hall 9 (show 9 < 19 by omega)
  have s10 := hall 10 (show 10 < 19 by omega)
  have s11 := hall 11 (show 11 < 19 by omega)
  have s12 := hall 12 (show 12 < 19 by omega)
  have s13 := hall 13 (show 13 < 19 by omega)
  have s14 := hall 14 (show 14 < 19 by omega)
  have s15 := hall 15 (show 15 < 19 by omega)
  have s16 := hall 16 (show 16 < 19 by omega)
  have s17 := hall 17 (show 17 < 19 by omega)
  have s18 := hall 18 (show 18 < 19 by omega)
  have HR1 : Hid (ResAny P Q W1 r (.err 1)) := Lib.hid (hres s7).1
  have HP1 := Lib.hid (hres s7).2
  have hk6 := (h6 s13).2.1
  have hk8 := (h8 s14).2.1
  rw [if_pos s15] at hk6
  rw [if_pos s17] at hk8
  have HK6 := Lib.hid hk6
  have HK8 := Lib.hid hk8
  have HL6 := Lib.hid (h6 s13).1
  have HL8 := Lib.hid (h8 s14).1
  have HB1 := Lib.hid hB
  refine hK0 _ _ ?_
  simp only [s0, s1, s2, s3, s4, s5, s6, s7, s8, s9, s10, s11, s12, s13, s14, s16, s18, if_true]
  clear hall hB hrow hres h6 h8 hne hd igr i6 i8 hk6 hk8 hK0 s0 s1 s2 s3 s4 s5 s6 s7 s8 s9 s10 s11 s12 s13 s14 s15 s16 s17 s18 HCALL HCAL HGOAL HCHA HCHB s0l s0_0 s0_1 s0_2 s0_3 s0_4 s0_5
  obtain ⟨oa, on1, oc1, q1, u1, c2, d1, ca1, cn1, cc1, ra, rn, rc, bk, bn, bs, ba, bz, bc, er⟩ := r
  have her : ¬ er = 0 := HR1.out.1
  have t1 : (er != 0) = true := by simp [her]
  have HBL1 := Lib.hid (HBL0.out.trans (HB1.out.mono HBL0.out.size))
  have HBK1 : Hid (Bks W1 [(w.heap.size, [.slice OA on oc, .int .i64 q, .int .i64 u, .bool c, .bool d, .slice CA cn cc])]) := Lib.hid (HBK0.out.keep fun x hx => HB1.out.block x.1 (HBK0.out.bk x hx).lt)
  clear HR1 HP1 HK6 HK8 HL6 HL8 HB1 HBL0 HBK0
  dsimp only
  have s0_0 := HBK1.out.cell 0 0 rfl rfl
  have s0_1 := HBK1.out.cell 0 1 rfl rfl
  have s0_2 := HBK1.out.cell 0 2 rfl rfl
  have s0_3 := HBK1.out.cell 0 3 rfl rfl
  have s0_4 := HBK1.out.cell 0 4 rfl rfl
  have s0_5 := HBK1.out.cell 0 5 rfl rfl
  go_wp2_with fail
  refine (HVS.out _ HBL1.out).mono ?_; rintro e w2 ⟨rfl, hB2⟩
  have HBL2 := Lib.hid (HBL1.out.trans (hB2.mono HBL1.out.size))
  clear hB2 HBL1 HBK1 HVS s0_0 s0_1 s0_2 s0_3 s0_4 s0_5
  go_wp2_with fail
  refine (law_example _).mono ?_; rintro e w3 ⟨rfl, hB3⟩
  have HBL3 := Lib.hid (HBL2.out.trans (hB3.mono HBL2.out.size))
  go_wp2_with fail
  go_ret
  exact ⟨rfl, HBL3.out⟩
set_option maxHeartbeats 6400000 in
theorem law_conv_good (OA : Option Addr) (on oc : Nat) (q u : Int) (c d : Bool) (CA : Option Addr) (cn cc : Nat) (xa xb xc : Int) (a0 : 0 ≤ xa) (a1 : xa ≤ 255) (b0 : 0 ≤ xb) (b1 : xb ≤ 255) (c0 : 0 ≤ xc) (c1 : xc ≤ 255) (l : List OpR) (cl : List (Int × Int)) (w : World) (hTab : Tab w OA on oc l) (hov : opsValid l = true) (hfv : flOk ⟨q, u, c, d⟩ = true) (hcv : pvalid cl = true) (hcl : cn = cl.length) (hcp : Pairs w CA cl) (hc0 : cn = 0 → (Value.slice CA cn cc = .slice none 0 0 ∨ ∃ ad, CA = some ad)) :
  Calls Tryz.prog 8 #[.agg #[.slice OA on oc, .int .i64 q, .int .i64 u, .bool c, .bool d, .slice CA cn cc], .int .u8 xa, .int .u8 xb, .int .u8 xc] w fun e w' => e = .returned (.bool true) ∧ Below w.heap.size w w' := by
 have HCHA : Hid (∀ X, Calls Tryz.prog 38 #[.int .u8 xa] X fun e w' => ∃ v, e = .returned v ∧ (v = .agg #[.int .i64 2, .int .i64 0, .string (chS xa), .slice none 0 0] ∧ Below X.heap.size X w')) := Lib.hid fun X => (law_char xa a0 a1 X).mono fun e w' h => ⟨_, h.1, rfl, h.2⟩
 have HCHB : Hid (∀ X, Calls Tryz.prog 38 #[.int .u8 xb] X fun e w' => ∃ v, e = .returned v ∧ (v = .agg #[.int .i64 2, .int .i64 0, .string (chS xb), .slice none 0 0] ∧ Below X.heap.size X w')) := Lib.hid fun X => (law_char xb b0 b1 X).mono fun e w' h => ⟨_, h.1, rfl, h.2⟩
 have HGOAL : Hid (∀ X g, Calls Tryz.prog 35 #[.string ⟨#[99, 104, 97, 114, 95, 99, 111, 110, 118, 101, 114, 115, 105, 111, 110]⟩, .slice (some ⟨g, 0, none⟩) 2 2] X fun e w' => ∃ v, e = .returned v ∧ (v = .agg #[.int .i64 3, .int .i64 0, .string ⟨#[99, 104, 97, 114, 95, 99, 111, 110, 118, 101, 114, 115, 105, 111, 110]⟩, .slice (some ⟨g, 0, none⟩) 2 2] ∧ Below X.heap.size X w')) := Lib.hid fun X g => (law_goal _ _ _ _ X).mono fun e w' h => ⟨_, h.1, rfl, h.2⟩
 have hb0 : Below w.heap.size w (w.alloc (.cells #[.slice OA on oc, .int .i64 q, .int .i64 u, .bool c, .bool d, .slice CA cn cc] 43)) := ((Below.refl _ w).alloc (Nat.le_refl _) _)
 have HBL0 := Lib.hid hb0
 have HBK0 : Hid (Bks (w.alloc (.cells #[.slice OA on oc, .int .i64 q, .int .i64 u, .bool c, .bool d, .slice CA cn cc] 43)) [(w.heap.size, [.slice OA on oc, .int .i64 q, .int .i64 u, .bool c, .bool d, .slice CA cn cc])]) := Lib.hid ((Bks.nil w).new [.slice OA on oc, .int .i64 q, .int .i64 u, .bool c, .bool d, .slice CA cn cc] 43 rfl)
 have HCAL : Hid (∀ X g, Below w.heap.size w X → TmsAt X.heap.size X (some ⟨g, 0, none⟩) [atomT (chS xa), atomT (chS xb)] → Calls Tryz.prog 30 #[.agg #[.slice OA on oc, .int .i64 q, .int .i64 u, .bool c, .bool d, .slice CA cn cc], .agg #[.int .i64 3, .int .i64 0, .string ⟨#[99, 104, 97, 114, 95, 99, 111, 110, 118, 101, 114, 115, 105, 111, 110]⟩, .slice (some ⟨g, 0, none⟩) 2 2]] X fun e w' => ∃ v, e = .returned v ∧ ((∃ r : RV, v = r.val ∧ ResAny X.heap.size w'.heap.size w' r (.ok ⟨l, ⟨q, u, c, d⟩, cset cl xa xb⟩ [.mk 3 0 ⟨#[99, 104, 97, 114, 95, 99, 111, 110, 118, 101, 114, 115, 105, 111, 110]⟩ [atomT (chS xa), atomT (chS xb)]])) ∧ Below X.heap.size X w')) := Lib.hid fun X g hX hT =>
  (call_setConv OA on oc q u c d CA cn cc (some ⟨g, 0, none⟩) 2 xa xb a0 a1 b0 b1 l cl X (hTab.below hX) hov hfv hcv hcl (hcp.below hX) hc0 hT).mono fun e w' h => by
   obtain ⟨r, he, hB, hr⟩ := h
   exact ⟨_, he, ⟨r, rfl, ResOk.of hr⟩, hB⟩
 have HTO0 : Hid (∀ X, Below w.heap.size w X → Calls Tryz.prog 39 #[.agg #[.slice OA on oc, .int .i64 q, .int .i64 u, .bool c, .bool d, .slice CA cn cc], .int .u8 xc] X fun e w' => e = .returned (.tuple #[.int .u8 (convT cl xc), .bool true]) ∧ Below X.heap.size X w') := Lib.hid fun X hX => law_to OA on oc q u c d CA cn cc xc c0 c1 l cl X (hTab.below hX) hov hfv hcv hcl (hcp.below hX) hc0
 have HOV := Lib.hid hov
 have HFV := Lib.hid hfv
 have HCV := Lib.hid hcv
 clear hTab hcl hcp hb0 hov hfv hcv hc0
 go_enter Tryz.func8, Tryz.ntmps8
 go_wp2_with fail
 obtain ⟨W0, HW0⟩ : ∃ W0, Hid (W0 = (w.alloc (.cells #[.slice OA on oc, .int .i64 q, .int .i64 u, .bool c, .bool d, .slice CA cn cc] 43))) := ⟨_, Lib.hid rfl⟩
 rw [← HW0.out] at HBL0 HBK0 ⊢
 clear HW0
 rename_i K0 hK0
 have s0_0 := HBK0.out.cell 0 0 rfl rfl
 have s0_1 := HBK0.out.cell 0 1 rfl rfl
 have s0_2 := HBK0.out.cell 0 2 rfl rfl
 have s0_3 := HBK0.out.cell 0 3 rfl rfl
 have s0_4 := HBK0.out.cell 0 4 rfl rfl
 have s0_5 := HBK0.out.cell 0 5 rfl rfl
 have s0l : w.heap.size < W0.heap.size := HBK0.out.lt 0 rfl
 have HCALL : Hid (∀ X g, Below W0.heap.size W0 X → TmsAt X.heap.size X (some ⟨g, 0, none⟩) [atomT (chS xa), atomT (chS xb)] → Calls Tryz.prog 30 #[.agg #[.slice OA on oc, .int .i64 q, .int .i64 u, .bool c, .bool d, .slice CA cn cc], .agg #[.int .i64 3, .int .i64 0, .string ⟨#[99, 104, 97, 114, 95, 99, 111, 110, 118, 101, 114, 115, 105, 111, 110]⟩, .slice (some ⟨g, 0, none⟩) 2 2]] X fun e w' => ∃ v, e = .returned v ∧ ((∃ r : RV, v = r.val ∧ ResAny X.heap.size w'.heap.size w' r (.ok ⟨l, ⟨q, u, c, d⟩, cset cl xa xb⟩ [.mk 3 0 ⟨#[99, 104, 97, 114, 95, 99, 111, 110, 118, 101, 114, 115, 105, 111, 110]⟩ [atomT (chS xa), atomT (chS xb)]])) ∧ Below X.heap.size X w')) := Lib.hid fun X g hX hT => HCAL.out X g (HBL0.out.trans (hX.mono HBL0.out.size)) hT
 refine wp_region_any (by kernel_rfl) ?_
 refine wpAny_inv (fun S a X => ∃ (g1 P Q e6 e8 : Nat) (r : RV), a = (⟨#[.agg #[.slice OA on oc, .int .i64 q, .int .i64 u, .bool c, .bool d, .slice CA cn cc], .int .u8 xa, .int .u8 xb, .int .u8 xc, .pointer (some ⟨w.heap.size, 0, none⟩), undef, undef, undef, .bool false, if S 13 = true then .pointer (some ⟨e6, 0, none⟩) else undef, if S 16 = true then .slice r.ra r.rn r.rc else undef, if S 14 = true then .pointer (some ⟨e8, 0, none⟩) else undef, if S 18 = true then .int .i64 r.er else undef, undef, undef, undef, undef, undef, undef, undef, undef, undef, undef, undef, if S 8 = true then .tuple #[.agg #[.slice r.oa r.on r.oc, .int .i64 r.q, .int .i64 r.u, .bool r.c, .bool r.d, .slice r.ca r.cn r.cc], .slice r.ra r.rn r.rc, .agg #[.int .i64 r.bk, .int .i64 r.bn, .string r.bs, .slice r.ba r.bz r.bc], .int .i64 r.er] else undef, if S 0 = true then .agg #[.slice OA on oc, .int .i64 q, .int .i64 u, .bool c, .bool d, .slice CA cn cc] else undef, if S 1 = true then .int .u8 xa else undef, if S 2 = true then .agg #[.int .i64 2, .int .i64 0, .string (chS xa), .slice none 0 0] else undef, if S 3 = true then .int .u8 xb else undef, if S 4 = true then .agg #[.int .i64 2, .int .i64 0, .string (chS xb), .slice none 0 0] else undef, if S 5 = true then .slice (some ⟨g1, 0, none⟩) 2 2 else undef, if S 6 = true then .agg #[.int .i64 3, .int .i64 0, .string ⟨#[99, 104, 97, 114, 95, 99, 111, 110, 118, 101, 114, 115, 105, 111, 110]⟩, .slice (some ⟨g1, 0, none⟩) 2 2] else undef, if S 7 = true then .tuple #[.agg #[.slice r.oa r.on r.oc, .int .i64 r.q, .int .i64 r.u, .bool r.c, .bool r.d, .slice r.ca r.cn r.cc], .slice r.ra r.rn r.rc, .agg #[.int .i64 r.bk, .int .i64 r.bn, .string r.bs, .slice r.ba r.bz r.bc], .int .i64 r.er] else undef, if S 9 = true then .agg #[.slice r.oa r.on r.oc, .int .i64 r.q, .int .i64 r.u, .bool r.c, .bool r.d, .slice r.ca r.cn r.cc] else undef, if S 10 = true then .slice r.ra r.rn r.rc else undef, if S 11 = true then .agg #[.int .i64 r.bk, .int .i64 r.bn, .string r.bs, .slice r.ba r.bz r.bc] else undef, if S 12 = true then .int .i64 r.er else undef, undef, undef, undef, undef, undef, undef, undef, undef, undef, undef, undef, undef, undef, undef, undef, undef, undef, undef, undef, undef, undef, undef, undef, undef, undef, undef, undef, undef, undef, undef, undef, undef, undef, undef, undef, undef, undef, undef, undef, undef, undef, undef, undef, undef, undef, undef, undef, undef, undef, undef, undef, undef, undef, undef, undef, undef, undef, undef, undef, undef, undef, undef, undef, undef, undef, undef, undef, undef, undef, undef, undef, undef, undef, undef, undef, undef, undef, undef, undef, undef, undef, undef, undef, undef, undef, undef, undef, undef, undef, undef], []⟩ : Act) ∧ Below W0.heap.size W0 X ∧ (S 5 = true → S 7 = false → TmsAt X.heap.size X (some ⟨g1, 0, none⟩) [atomT (chS xa), atomT (chS xb)]) ∧ (S 7 = true → ResAny P Q X r (.ok ⟨l, ⟨q, u, c, d⟩, cset cl xa xb⟩ [.mk 3 0 ⟨#[99, 104, 97, 114, 95, 99, 111, 110, 118, 101, 114, 115, 105, 111, 110]⟩ [atomT (chS xa), atomT (chS xb)]]) ∧ W0.heap.size ≤ P) ∧ (S 13 = true → W0.heap.size ≤ e6 ∧ Bk X e6 (if S 15 = true then [.slice r.oa r.on r.oc, .int .i64 r.q, .int .i64 r.u, .bool r.c, .bool r.d, .slice r.ca r.cn r.cc] else [.slice none 0 0, .int .i64 0, .int .i64 0, .bool false, .bool false, .slice none 0 0]) ∧ (S 7 = true → e6 < P ∨ Q ≤ e6)) ∧ (S 14 = true → W0.heap.size ≤ e8 ∧ Bk X e8 (if S 17 = true then [.int .i64 r.bk, .int .i64 r.bn, .string r.bs, .slice r.ba r.bz r.bc] else [.int .i64 0, .int .i64 0, .string ⟨#[]⟩, .slice none 0 0]) ∧ (S 7 = true → e8 < P ∨ Q ≤ e8)) ∧ (S 13 = true → S 14 = true → e6 ≠ e8) ∧ (S 7 = false → S 8 = false ∧ S 9 = false ∧ S 10 = false ∧ S 11 = false ∧ S 12 = false ∧ S 15 = false ∧ S 16 = false ∧ S 17 = false ∧ S 18 = false) ∧ (S 6 = true → S 5 = true) ∧ (S 15 = true → S 13 = true) ∧ (S 17 = true → S 14 = true)) (by kernel_rfl) ?stepc ?finc 19 (fun _ => false) _ _ (by decide) ⟨0, 0, 0, 0, 0, ⟨none, 0, 0, 0, 0, false, false, none, 0, 0, none, 0, 0, 0, 0, ⟨#[]⟩, none, 0, 0, 0⟩, rfl, (Below.refl _ W0).drew, fun h => (by cases h), fun h => (by cases h), fun h => (by cases h), fun h => (by cases h), fun h => (by cases h), fun _ => ⟨rfl, rfl, rfl, rfl, rfl, rfl, rfl, rfl, rfl⟩, fun h => (by cases h), fun h => (by cases h), fun h => (by cases h)⟩
 case stepc =>
  rintro S j o a X ho hs hp ⟨g1, P, Q, e6, e8, r, rfl, hB, hrow, hres, h6, h8, hne, hd, igr, i6, i8⟩
  have hlt : j < 19 := (Array.getElem?_eq_some_iff.1 ho).1
  rcases (show j = 0 ∨ j = 1 ∨ j = 2 ∨ j = 3 ∨ j = 4 ∨ j = 5 ∨ j = 6 ∨ j = 7 ∨ j = 8 ∨ j = 9 ∨ j = 10 ∨ j = 11 ∨ j = 12 ∨ j = 13 ∨ j = 14 ∨ j = 15 ∨ j = 16 ∨ j = 17 ∨ j = 18 by omega) with rfl | rfl | rfl | rfl | rfl | rfl | rfl | rfl | rfl | rfl | rfl | rfl | rfl | rfl | rfl | rfl | rfl | rfl | rfl
  ·cases ho
   have z0 : X.cell? ⟨w.heap.size, 0, none⟩ = some (.slice OA on oc) := (hB.cell (p := ⟨_, 0, none⟩) s0l).trans s0_0
   have z1 : X.cell? ⟨w.heap.size, 1, none⟩ = some (.int .i64 q) := (hB.cell (p := ⟨_, 1, none⟩) s0l).trans s0_1
   have z2 : X.cell? ⟨w.heap.size, 2, none⟩ = some (.int .i64 u) := (hB.cell (p := ⟨_, 2, none⟩) s0l).trans s0_2
   have z3 : X.cell? ⟨w.heap.size, 3, none⟩ = some (.bool c) := (hB.cell (p := ⟨_, 3, none⟩) s0l).trans s0_3
   have z4 : X.cell? ⟨w.heap.size, 4, none⟩ = some (.bool d) := (hB.cell (p := ⟨_, 4, none⟩) s0l).trans s0_4
   have z5 : X.cell? ⟨w.heap.size, 5, none⟩ = some (.slice CA cn cc) := (hB.cell (p := ⟨_, 5, none⟩) s0l).trans s0_5
   rw [if_pos (show Region.wanted _ _ = true from rfl)]
   refine wp_val (v := .agg #[.slice OA on oc, .int .i64 q, .int .i64 u, .bool c, .bool d, .slice CA cn cc]) (w' := X) ?_ ⟨g1, P, Q, e6, e8, r, rfl, hB, hrow, hres, h6, h8, hne, hd, igr, i6, i8⟩
   simp [execOp, go_sem, Act.eval, z0, z1, z2, z3, z4, z5]
  ·cases ho
   rw [if_pos (show Region.wanted _ _ = true from rfl)]
   refine wp_val (v := .int .u8 xa) (w' := X) ?_ ⟨g1, P, Q, e6, e8, r, rfl, hB, hrow, hres, h6, h8, hne, hd, igr, i6, i8⟩
   simp [execOp, go_sem, Act.eval]
  ·cases ho
   have s1 : S 1 = true := hp ⟨1, .data⟩ (by simp) rfl
   rw [if_pos (show Region.wanted _ _ = true from rfl)]
   refine wp_cal ?_ (HCHA.out X) (fun v w' hR => ?_)
   ·simp [execOp, go_sem, Act.eval, s1]
    try rfl
   ·obtain ⟨rfl, hB'⟩ := hR
    exact ⟨g1, P, Q, e6, e8, r, rfl, hB.trans (hB'.mono hB.size), fun h h2 => ((hrow h h2).keep hB').mono hB'.size, fun h => ⟨(hres h).1.call hB', (hres h).2⟩, fun h => ⟨(h6 h).1, (h6 h).2.1.call hB', (h6 h).2.2⟩, fun h => ⟨(h8 h).1, (h8 h).2.1.call hB', (h8 h).2.2⟩, hne, hd, igr, i6, i8⟩
  ·cases ho
   rw [if_pos (show Region.wanted _ _ = true from rfl)]
   refine wp_val (v := .int .u8 xb) (w' := X) ?_ ⟨g1, P, Q, e6, e8, r, rfl, hB, hrow, hres, h6, h8, hne, hd, igr, i6, i8⟩
   simp [execOp, go_sem, Act.eval]
  ·cases ho
   have s3 : S 3 = true := hp ⟨3, .data⟩ (by simp) rfl
   rw [if_pos (show Region.wanted _ _ = true from rfl)]
   refine wp_cal ?_ (HCHB.out X) (fun v w' hR => ?_)
   ·simp [execOp, go_sem, Act.eval, s3]
    try rfl
   ·obtain ⟨rfl, hB'⟩ := hR
    exact ⟨g1, P, Q, e6, e8, r, rfl, hB.trans (hB'.mono hB.size), fun h h2 => ((hrow h h2).keep hB').mono hB'.size, fun h => ⟨(hres h).1.call hB', (hres h).2⟩, fun h => ⟨(h6 h).1, (h6 h).2.1.call hB', (h6 h).2.2⟩, fun h => ⟨(h8 h).1, (h8 h).2.1.call hB', (h8 h).2.2⟩, hne, hd, igr, i6, i8⟩
  ·cases ho
   have s2 : S 2 = true := hp ⟨2, .data⟩ (by simp) rfl
   have s4 : S 4 = true := hp ⟨4, .data⟩ (by simp) rfl
   rw [if_pos (show Region.wanted _ _ = true from rfl)]
   have dg : S 6 = false := by
    cases h : S 6
    ·rfl
    ·exact absurd (igr h) (by rw [hs]; simp)
   have ug : updF S 5 6 = false := dg
   have hB' := (Below.refl X.heap.size X).alloc (Nat.le_refl _) (.cells #[.int .i64 2, .int .i64 0, .string (chS xa), .slice none 0 0, .int .i64 2, .int .i64 0, .string (chS xb), .slice none 0 0] 26)
   have hrw := TmsK.rows (K := fun b => b < X.heap.size + 1) (w := X) (rs := [(atomT (chS xa), none, 0), (atomT (chS xb), none, 0)]) (e := 26) (by omega) (by simp [maxLen]) (fun x hx => by
    simp only [List.mem_cons, List.mem_nil_iff, or_false] at hx
    rcases hx with rfl | rfl <;> exact TmsK.nil)
   refine wp_val (v := .slice (some ⟨X.heap.size, 0, none⟩) 2 2) (w' := X.alloc (.cells #[.int .i64 2, .int .i64 0, .string (chS xa), .slice none 0 0, .int .i64 2, .int .i64 0, .string (chS xb), .slice none 0 0] 26)) ?_ ⟨X.heap.size, P, Q, e6, e8, r, ?_, hB.trans (hB'.mono hB.size), fun _ _ => TmsK.at' hrw, fun h => ⟨(hres h).1.call hB', (hres h).2⟩, fun h => ⟨(h6 h).1, (h6 h).2.1.call hB', (h6 h).2.2⟩, fun h => ⟨(h8 h).1, (h8 h).2.1.call hB', (h8 h).2.2⟩, hne, hd, fun _ => rfl, i6, i8⟩
   ·simp [execOp, go_sem, Act.eval, s2, s4]
   ·simp only [dg, ug, Bool.false_eq_true, if_false]
    rfl
  ·cases ho
   have s5 : S 5 = true := hp ⟨5, .data⟩ (by simp) rfl
   rw [if_pos (show Region.wanted _ _ = true from rfl)]
   refine wp_cal ?_ (HGOAL.out X g1) (fun v w' hR => ?_)
   ·simp [execOp, go_sem, Act.eval, s5]
    try rfl
   ·obtain ⟨rfl, hB'⟩ := hR
    exact ⟨g1, P, Q, e6, e8, r, rfl, hB.trans (hB'.mono hB.size), fun h h2 => ((hrow h h2).keep hB').mono hB'.size, fun h => ⟨(hres h).1.call hB', (hres h).2⟩, fun h => ⟨(h6 h).1, (h6 h).2.1.call hB', (h6 h).2.2⟩, fun h => ⟨(h8 h).1, (h8 h).2.1.call hB', (h8 h).2.2⟩, hne, hd, fun _ => s5, i6, i8⟩
  ·cases ho
   have s0 : S 0 = true := hp ⟨0, .data⟩ (by simp) rfl
   have s6 : S 6 = true := hp ⟨6, .data⟩ (by simp) rfl
   rw [if_pos (show Region.wanted _ _ = true from rfl)]
   have hrw0 := igr s6
   obtain ⟨d8, d9, d10, d11, d12, d15, d16, d17, d18⟩ := hd hs
   refine wp_cal ?_ (HCALL.out X g1 hB (hrow hrw0 hs)) (fun v w' hR => ?_)
   ·simp [execOp, go_sem, Act.eval, s0, s6]
    try rfl
   ·obtain ⟨⟨r', rfl, hO⟩, hB'⟩ := hR
    have K6 : ∀ h : S 13 = true, Bk w' e6 (if updF S 7 15 = true then [.slice r'.oa r'.on r'.oc, .int .i64 r'.q, .int .i64 r'.u, .bool r'.c, .bool r'.d, .slice r'.ca r'.cn r'.cc] else [.slice none 0 0, .int .i64 0, .int .i64 0, .bool false, .bool false, .slice none 0 0]) := fun h => by
     have hk := (h6 h).2.1.call hB'
     rw [if_neg (by rw [d15]; simp)] at hk
     rw [if_neg (show ¬ updF S 7 15 = true from fun hh => by rw [show updF S 7 15 = S 15 from rfl, d15] at hh; cases hh)]
     exact hk
    have K8 : ∀ h : S 14 = true, Bk w' e8 (if updF S 7 17 = true then [.int .i64 r'.bk, .int .i64 r'.bn, .string r'.bs, .slice r'.ba r'.bz r'.bc] else [.int .i64 0, .int .i64 0, .string ⟨#[]⟩, .slice none 0 0]) := fun h => by
     have hk := (h8 h).2.1.call hB'
     rw [if_neg (by rw [d17]; simp)] at hk
     rw [if_neg (show ¬ updF S 7 17 = true from fun hh => by rw [show updF S 7 17 = S 17 from rfl, d17] at hh; cases hh)]
     exact hk
    refine ⟨g1, X.heap.size, w'.heap.size, e6, e8, r', ?_, hB.trans (hB'.mono hB.size), fun _ h => (by cases h), fun _ => ⟨hO, hB.size⟩, fun h => ⟨(h6 h).1, K6 h, fun _ => .inl (h6 h).2.1.lt⟩, fun h => ⟨(h8 h).1, K8 h, fun _ => .inl (h8 h).2.1.lt⟩, hne, (fun h => nomatch (show true = false from h)), igr, i6, i8⟩
    have u8 : updF S 7 8 = false := d8
    have u9 : updF S 7 9 = false := d9
    have u10 : updF S 7 10 = false := d10
    have u11 : updF S 7 11 = false := d11
    have u12 : updF S 7 12 = false := d12
    have u16 : updF S 7 16 = false := d16
    have u18 : updF S 7 18 = false := d18
    simp only [d8, u8, d9, u9, d10, u10, d11, u11, d12, u12, d16, u16, d18, u18, Bool.false_eq_true, if_false]
    rfl
  ·cases ho
   have s7 : S 7 = true := hp ⟨7, .data⟩ (by simp) rfl
   rw [if_pos (show Region.wanted _ _ = true from rfl)]
   refine wp_val (v := .tuple #[.agg #[.slice r.oa r.on r.oc, .int .i64 r.q, .int .i64 r.u, .bool r.c, .bool r.d, .slice r.ca r.cn r.cc], .slice r.ra r.rn r.rc, .agg #[.int .i64 r.bk, .int .i64 r.bn, .string r.bs, .slice r.ba r.bz r.bc], .int .i64 r.er]) (w' := X) ?_ ⟨g1, P, Q, e6, e8, r, rfl, hB, hrow, hres, h6, h8, hne, fun h => absurd (show S 7 = false from h) (by rw [s7]; simp), igr, i6, i8⟩
   simp [execOp, go_sem, Act.eval, s7]
  ·cases ho
   have s8 : S 8 = true := hp ⟨8, .data⟩ (by simp) rfl
   have s7 : S 7 = true := by
    cases h : S 7
    ·have := (hd h).1
     rw [s8] at this; cases this
    ·rfl
   rw [if_pos (show Region.wanted _ _ = true from rfl)]
   refine wp_val (v := .agg #[.slice r.oa r.on r.oc, .int .i64 r.q, .int .i64 r.u, .bool r.c, .bool r.d, .slice r.ca r.cn r.cc]) (w' := X) ?_ ⟨g1, P, Q, e6, e8, r, rfl, hB, hrow, hres, h6, h8, hne, fun h => absurd (show S 7 = false from h) (by rw [s7]; simp), igr, i6, i8⟩
   simp [execOp, go_sem, Act.eval, s8]
  ·cases ho
   have s8 : S 8 = true := hp ⟨8, .data⟩ (by simp) rfl
   have s7 : S 7 = true := by
    cases h : S 7
    ·have := (hd h).1
     rw [s8] at this; cases this
    ·rfl
   rw [if_pos (show Region.wanted _ _ = true from rfl)]
   refine wp_val (v := .slice r.ra r.rn r.rc) (w' := X) ?_ ⟨g1, P, Q, e6, e8, r, rfl, hB, hrow, hres, h6, h8, hne, fun h => absurd (show S 7 = false from h) (by rw [s7]; simp), igr, i6, i8⟩
   simp [execOp, go_sem, Act.eval, s8]
  ·cases ho
   have s8 : S 8 = true := hp ⟨8, .data⟩ (by simp) rfl
   have s7 : S 7 = true := by
    cases h : S 7
    ·have := (hd h).1
     rw [s8] at this; cases this
    ·rfl
   rw [if_pos (show Region.wanted _ _ = true from rfl)]
   refine wp_val (v := .agg #[.int .i64 r.bk, .int .i64 r.bn, .string r.bs, .slice r.ba r.bz r.bc]) (w' := X) ?_ ⟨g1, P, Q, e6, e8, r, rfl, hB, hrow, hres, h6, h8, hne, fun h => absurd (show S 7 = false from h) (by rw [s7]; simp), igr, i6, i8⟩
   simp [execOp, go_sem, Act.eval, s8]
  ·cases ho
   have s8 : S 8 = true := hp ⟨8, .data⟩ (by simp) rfl
   have s7 : S 7 = true := by
    cases h : S 7
    ·have := (hd h).1
     rw [s8] at this; cases this
    ·rfl
   rw [if_pos (show Region.wanted _ _ = true from rfl)]
   refine wp_val (v := .int .i64 r.er) (w' := X) ?_ ⟨g1, P, Q, e6, e8, r, rfl, hB, hrow, hres, h6, h8, hne, fun h => absurd (show S 7 = false from h) (by rw [s7]; simp), igr, i6, i8⟩
   simp [execOp, go_sem, Act.eval, s8]
  ·cases ho
   rw [if_pos (show Region.wanted _ _ = true from rfl)]
   have hB' := (Below.refl X.heap.size X).alloc (Nat.le_refl _) (.cells #[.slice none 0 0, .int .i64 0, .int .i64 0, .bool false, .bool false, .slice none 0 0] 43)
   have KN : Bk (X.alloc (.cells #[.slice none 0 0, .int .i64 0, .int .i64 0, .bool false, .bool false, .slice none 0 0] 43)) X.heap.size (if updF S 13 15 = true then [.slice r.oa r.on r.oc, .int .i64 r.q, .int .i64 r.u, .bool r.c, .bool r.d, .slice r.ca r.cn r.cc] else [.slice none 0 0, .int .i64 0, .int .i64 0, .bool false, .bool false, .slice none 0 0]) := by
    rw [if_neg (show ¬ updF S 13 15 = true from fun hh => absurd (i6 hh) (by rw [hs]; simp))]
    exact Bk.new X [.slice none 0 0, .int .i64 0, .int .i64 0, .bool false, .bool false, .slice none 0 0] 43
   refine wp_val (v := .pointer (some ⟨X.heap.size, 0, none⟩)) (w' := X.alloc (.cells #[.slice none 0 0, .int .i64 0, .int .i64 0, .bool false, .bool false, .slice none 0 0] 43)) ?_ ⟨g1, P, Q, X.heap.size, e8, r, rfl, hB.alloc hB.size _, fun h h2 => ((hrow h h2).keep hB').mono hB'.size, fun h => ⟨(hres h).1.call hB', (hres h).2⟩, fun _ => ⟨hB.size, KN, fun h => .inr (hres h).1.qx⟩, fun h => ⟨(h8 h).1, (h8 h).2.1.call hB', (h8 h).2.2⟩, fun _ h => Nat.ne_of_gt (h8 h).2.1.lt, hd, igr, fun _ => rfl, i8⟩
   simp [execOp, go_sem]
  ·cases ho
   rw [if_pos (show Region.wanted _ _ = true from rfl)]
   have hB' := (Below.refl X.heap.size X).alloc (Nat.le_refl _) (.cells #[.int .i64 0, .int .i64 0, .string ⟨#[]⟩, .slice none 0 0] 26)
   have KN : Bk (X.alloc (.cells #[.int .i64 0, .int .i64 0, .string ⟨#[]⟩, .slice none 0 0] 26)) X.heap.size (if updF S 14 17 = true then [.int .i64 r.bk, .int .i64 r.bn, .string r.bs, .slice r.ba r.bz r.bc] else [.int .i64 0, .int .i64 0, .string ⟨#[]⟩, .slice none 0 0]) := by
    rw [if_neg (show ¬ updF S 14 17 = true from fun hh => absurd (i8 hh) (by rw [hs]; simp))]
    exact Bk.new X [.int .i64 0, .int .i64 0, .string ⟨#[]⟩, .slice none 0 0] 26
   refine wp_val (v := .pointer (some ⟨X.heap.size, 0, none⟩)) (w' := X.alloc (.cells #[.int .i64 0, .int .i64 0, .string ⟨#[]⟩, .slice none 0 0] 26)) ?_ ⟨g1, P, Q, e6, X.heap.size, r, rfl, hB.alloc hB.size _, fun h h2 => ((hrow h h2).keep hB').mono hB'.size, fun h => ⟨(hres h).1.call hB', (hres h).2⟩, fun h => ⟨(h6 h).1, (h6 h).2.1.call hB', (h6 h).2.2⟩, fun _ => ⟨hB.size, KN, fun h => .inr (hres h).1.qx⟩, fun h _ => Nat.ne_of_lt (h6 h).2.1.lt, hd, igr, i6, fun _ => rfl⟩
   simp [execOp, go_sem]
  ·cases ho
   have s9 : S 9 = true := hp ⟨9, .data⟩ (by simp) rfl
   have s13 : S 13 = true := hp ⟨13, .data⟩ (by simp) rfl
   have s7 : S 7 = true := by
    cases h : S 7
    ·have := (hd h).2.1
     rw [s9] at this; cases this
    ·rfl
   rw [if_pos (show Region.wanted _ _ = true from rfl)]
   have hk := (h6 s13).2.1
   rw [if_neg (by rw [hs]; simp)] at hk
   have NE : ∀ h : S 14 = true, e8 ≠ e6 := fun h => (hne s13 h).symm
   have z0 := hk.c 0 (.slice none 0 0) rfl
   have f0 := hk.f 0
   have z1 := hk.c 1 (.int .i64 0) rfl
   have f1 := hk.f 1
   have z2 := hk.c 2 (.int .i64 0) rfl
   have f2 := hk.f 2
   have z3 := hk.c 3 (.bool false) rfl
   have f3 := hk.f 3
   have z4 := hk.c 4 (.bool false) rfl
   have f4 := hk.f 4
   have z5 := hk.c 5 (.slice none 0 0) rfl
   have f5 := hk.f 5
   refine wp_skp (w' := ((((((X.setCell ⟨e6, 0, none⟩ (.slice r.oa r.on r.oc)).setCell ⟨e6, 1, none⟩ (.int .i64 r.q)).setCell ⟨e6, 2, none⟩ (.int .i64 r.u)).setCell ⟨e6, 3, none⟩ (.bool r.c)).setCell ⟨e6, 4, none⟩ (.bool r.d)).setCell ⟨e6, 5, none⟩ (.slice r.ca r.cn r.cc))) ?_ ⟨g1, P, Q, e6, e8, r, rfl, ((((((hB.setCell (p := ⟨_, _, none⟩) (h6 s13).1 _).setCell (p := ⟨_, _, none⟩) (h6 s13).1 _).setCell (p := ⟨_, _, none⟩) (h6 s13).1 _).setCell (p := ⟨_, _, none⟩) (h6 s13).1 _).setCell (p := ⟨_, _, none⟩) (h6 s13).1 _).setCell (p := ⟨_, _, none⟩) (h6 s13).1 _), fun _ h => absurd (show S 7 = false from h) (by rw [s7]; simp), fun _ => ⟨(hres s7).1.put e6 [.slice none 0 0, .int .i64 0, .int .i64 0, .bool false, .bool false, .slice none 0 0] ((h6 s13).2.2 s7) hk (by intro i s x; rcases i with _ | _ | _ | _ | _ | _ | i <;> simp) (by simp) (fun b hb => by rw [heap_setCell_other _ _ _ _ hb, heap_setCell_other _ _ _ _ hb, heap_setCell_other _ _ _ _ hb, heap_setCell_other _ _ _ _ hb, heap_setCell_other _ _ _ _ hb, heap_setCell_other _ _ _ _ hb]), (hres s7).2⟩, fun _ => ⟨(h6 s13).1, by rw [if_pos (show updF S 15 15 = true from rfl)]; exact ((((((hk.set 0 (.slice r.oa r.on r.oc)).set 1 (.int .i64 r.q)).set 2 (.int .i64 r.u)).set 3 (.bool r.c)).set 4 (.bool r.d)).set 5 (.slice r.ca r.cn r.cc)), (h6 s13).2.2⟩, fun h => ⟨(h8 h).1, (((((((h8 h).2.1.other (NE h) 0 (.slice r.oa r.on r.oc)).other (NE h) 1 (.int .i64 r.q)).other (NE h) 2 (.int .i64 r.u)).other (NE h) 3 (.bool r.c)).other (NE h) 4 (.bool r.d)).other (NE h) 5 (.slice r.ca r.cn r.cc)), (h8 h).2.2⟩, hne, fun h => absurd (show S 7 = false from h) (by rw [s7]; simp), igr, fun _ => s13, i8⟩
   simp [execOp, go_sem, Act.eval, s13, s9, z0, f0, z1, f1, z2, f2, z3, f3, z4, f4, z5, f5]
  ·cases ho
   have s10 : S 10 = true := hp ⟨10, .data⟩ (by simp) rfl
   have s7 : S 7 = true := by
    cases h : S 7
    ·have := (hd h).2.2.1
     rw [s10] at this; cases this
    ·rfl
   rw [if_pos (show Region.wanted _ _ = true from rfl)]
   refine wp_val (v := .slice r.ra r.rn r.rc) (w' := X) ?_ ⟨g1, P, Q, e6, e8, r, rfl, hB, hrow, hres, h6, h8, hne, fun h => absurd (show S 7 = false from h) (by rw [s7]; simp), igr, i6, i8⟩
   simp [execOp, go_sem, Act.eval, s10]
  ·cases ho
   have s11 : S 11 = true := hp ⟨11, .data⟩ (by simp) rfl
   have s14 : S 14 = true := hp ⟨14, .data⟩ (by simp) rfl
   have s7 : S 7 = true := by
    cases h : S 7
    ·have := (hd h).2.2.2.1
     rw [s11] at this; cases this
    ·rfl
   rw [if_pos (show Region.wanted _ _ = true from rfl)]
   have hk := (h8 s14).2.1
   rw [if_neg (by rw [hs]; simp)] at hk
   have NE : ∀ h : S 13 = true, e6 ≠ e8 := fun h => hne h s14
   have z0 := hk.c 0 (.int .i64 0) rfl
   have f0 := hk.f 0
   have z1 := hk.c 1 (.int .i64 0) rfl
   have f1 := hk.f 1
   have z2 := hk.c 2 (.string ⟨#[]⟩) rfl
   have f2 := hk.f 2
   have z3 := hk.c 3 (.slice none 0 0) rfl
   have f3 := hk.f 3
   refine wp_skp (w' := ((((X.setCell ⟨e8, 0, none⟩ (.int .i64 r.bk)).setCell ⟨e8, 1, none⟩ (.int .i64 r.bn)).setCell ⟨e8, 2, none⟩ (.string r.bs)).setCell ⟨e8, 3, none⟩ (.slice r.ba r.bz r.bc))) ?_ ⟨g1, P, Q, e6, e8, r, rfl, ((((hB.setCell (p := ⟨_, _, none⟩) (h8 s14).1 _).setCell (p := ⟨_, _, none⟩) (h8 s14).1 _).setCell (p := ⟨_, _, none⟩) (h8 s14).1 _).setCell (p := ⟨_, _, none⟩) (h8 s14).1 _), fun _ h => absurd (show S 7 = false from h) (by rw [s7]; simp), fun _ => ⟨(hres s7).1.put e8 [.int .i64 0, .int .i64 0, .string ⟨#[]⟩, .slice none 0 0] ((h8 s14).2.2 s7) hk (by intro i s x; rcases i with _ | _ | _ | _ | i <;> simp) (by simp) (fun b hb => by rw [heap_setCell_other _ _ _ _ hb, heap_setCell_other _ _ _ _ hb, heap_setCell_other _ _ _ _ hb, heap_setCell_other _ _ _ _ hb]), (hres s7).2⟩, fun h => ⟨(h6 h).1, (((((h6 h).2.1.other (NE h) 0 (.int .i64 r.bk)).other (NE h) 1 (.int .i64 r.bn)).other (NE h) 2 (.string r.bs)).other (NE h) 3 (.slice r.ba r.bz r.bc)), (h6 h).2.2⟩, fun _ => ⟨(h8 s14).1, by rw [if_pos (show updF S 17 17 = true from rfl)]; exact ((((hk.set 0 (.int .i64 r.bk)).set 1 (.int .i64 r.bn)).set 2 (.string r.bs)).set 3 (.slice r.ba r.bz r.bc)), (h8 s14).2.2⟩, hne, fun h => absurd (show S 7 = false from h) (by rw [s7]; simp), igr, i6, fun _ => s14⟩
   simp [execOp, go_sem, Act.eval, s14, s11, z0, f0, z1, f1, z2, f2, z3, f3]
  ·cases ho
   have s12 : S 12 = true := hp ⟨12, .data⟩ (by simp) rfl
   have s7 : S 7 = true := by
    cases h : S 7
    ·have := (hd h).2.2.2.2.1
     rw [s12] at this; cases this
    ·rfl
   rw [if_pos (show Region.wanted _ _ = true from rfl)]
   refine wp_val (v := .int .i64 r.er) (w' := X) ?_ ⟨g1, P, Q, e6, e8, r, rfl, hB, hrow, hres, h6, h8, hne, fun h => absurd (show S 7 = false from h) (by rw [s7]; simp), igr, i6, i8⟩
   simp [execOp, go_sem, Act.eval, s12]
 case finc =>
  rintro S a W1 hall ⟨gX, P, Q, eT, eU, r, rfl, hB, hrow, hres, h6, h8, hne, hd, igr, i6, i8⟩
  have s0 := hall 0 (show 0 < 19 by omega)
  have s1 := hall 1 (show 1 < 19 by omega)
  have s2 := hall 2 (show 2 < 19 by omega)
  have s3 := hall 3 (show 3 < 19 by omega)
  have s4 := hall 4 (show 4 < 19 by omega)
  have s5 := hall 5 (show 5 < 19 by omega)
  have s6 := hall 6 (show 6 < 19 by omega)
  have s7 := hall 7 (show 7 < 19 by omega)
  have s8 := hall 8 (show 8 < 19 by omega)
  have s9 := hall 9 (show 9 < 19 by omega)
  have s10 := hall 10 (show 10 < 19 by omega)
  have s11 := hall 11 (show 11 < 19 by omega)
  have s12 := hall 12 (show 12 < 19 by omega)
  have s13 := hall 13 (show 13 < 19 by omega)
  have s14 := hall 14 (show 14 < 19 by omega)
  have s15 := hall 15 (show 15 < 19 by omega)
  have s16 := hall 16 (show 16 < 19 by omega)
  have s17 := hall 17 (show 17 < 19 by omega)
  have s18 := hall 18 (show 18 < 19 by omega)
  have HR1 : Hid (ResOk P Q W1 r ⟨l, ⟨q, u, c, d⟩, cset cl xa xb⟩ [.mk 3 0 ⟨#[99, 104, 97, 114, 95, 99, 111, 110, 118, 101, 114, 115, 105, 111, 110]⟩ [atomT (chS xa), atomT (chS xb)]]) := Lib.hid (hres s7).1
  have HP1 := Lib.hid (hres s7).2
  have hk6 := (h6 s13).2.1
  have hk8 := (h8 s14).2.1
  rw [if_pos s15] at hk6
  rw [if_pos s17] at hk8
  have HK6 := Lib.hid hk6
  have HK8 := Lib.hid hk8
  have HL6 := Lib.hid (h6 s13).1
  have HL8 := Lib.hid (h8 s14).1
  have HB1 := Lib.hid hB
  refine hK0 _ _ ?_
  simp only [s0, s1, s2, s3, s4, s5, s6, s7, s8, s9, s10, s11, s12, s13, s14, s16, s18, if_true]
  clear hall hB hrow hres h6 h8 hne hd igr i6 i8 hk6 hk8 hK0 s0 s1 s2 s3 s4 s5 s6 s7 s8 s9 s10 s11 s12 s13 s14 s15 s16 s17 s18 HCALL HCAL HGOAL HCHA HCHB s0l s0_0 s0_1 s0_2 s0_3 s0_4 s0_5
  obtain ⟨oa, on1, oc1, q1, u1, c2, d1, ca1, cn1, cc1, ra, rn, rc, bk, bn, bs, ba, bz, bc, er⟩ := r
  have her : er = 0 := HR1.out.er
  have hrn : rn = 1 := HR1.out.rn
  have hfl := HR1.out.fl
  have hTab1 : Tab W1 oa on1 oc1 l := HR1.out.tab
  have hcv1 : PrI P W1 ca1 cn1 cc1 (cset cl xa xb) := HR1.out.cv
  dsimp only at hfl
  injection hfl with f1 f2 f3 f4
  subst her; subst hrn
  obtain rfl := f1.symm
  obtain rfl := f2.symm
  obtain rfl := f3.symm
  obtain rfl := f4.symm
  have HT1 := Lib.hid hTab1
  have HC1 := Lib.hid hcv1
  have HCO := Lib.hid (cset_ok (l := cl) (f := xa) HCV.out b0 b1)
  have HCP := Lib.hid ((cvOk_iff (cset cl xa xb)).2 HCO.out)
  have HBL1 := Lib.hid (HBL0.out.trans (HB1.out.mono HBL0.out.size))
  have HBK1 : Hid (Bks W1 [(w.heap.size, [.slice OA on oc, .int .i64 q, .int .i64 u, .bool c, .bool d, .slice CA cn cc])]) := Lib.hid (HBK0.out.keep fun x hx => HB1.out.block x.1 (HBK0.out.bk x hx).lt)
  have HK6a : Hid (Bk W1 eT [.slice oa on1 oc1, .int .i64 q, .int .i64 u, .bool c, .bool d, .slice ca1 cn1 cc1]) := HK6
  have HTON : Hid (∀ xz, 0 ≤ xz → xz ≤ 255 → ∀ X, Below W1.heap.size W1 X → Calls Tryz.prog 39 #[.agg #[.slice oa on1 oc1, .int .i64 q, .int .i64 u, .bool c, .bool d, .slice ca1 cn1 cc1], .int .u8 xz] X fun e w' => e = .returned (.tuple #[.int .u8 (if xz = xa then xb else convT cl xz), .bool true]) ∧ Below X.heap.size X w') := Lib.hid fun xz z0 z1 X hX => by
   have hc := HC1.out.below hX
   have h := law_to oa on1 oc1 q u c d ca1 cn1 cc1 xz z0 z1 l (cset cl xa xb) X (HT1.out.below hX) HOV.out HFV.out HCP.out hc.len hc.prs hc.nil
   rwa [cset_conv z0 z1] at h
  clear hTab1 hcv1 HR1 HP1 HK8 HL8 HB1 HBL0 HBK0 HL6 HK6
  dsimp only
  have s0_0 := HBK1.out.cell 0 0 rfl rfl
  have s0_1 := HBK1.out.cell 0 1 rfl rfl
  have s0_2 := HBK1.out.cell 0 2 rfl rfl
  have s0_3 := HBK1.out.cell 0 3 rfl rfl
  have s0_4 := HBK1.out.cell 0 4 rfl rfl
  have s0_5 := HBK1.out.cell 0 5 rfl rfl
  have x_0 := HK6a.out.c 0 (.slice oa on1 oc1) rfl
  have x_1 := HK6a.out.c 1 (.int .i64 q) rfl
  have x_2 := HK6a.out.c 2 (.int .i64 u) rfl
  have x_3 := HK6a.out.c 3 (.bool c) rfl
  have x_4 := HK6a.out.c 4 (.bool d) rfl
  have x_5 := HK6a.out.c 5 (.slice ca1 cn1 cc1) rfl
  have HA1 := Lib.hid (HTON.out xa a0 a1 W1 (Below.refl _ _))
  rw [if_pos rfl] at HA1
  go_wp2_with fail
  refine HA1.out.mono ?_; rintro e w2 ⟨rfl, hB2⟩
  have HB2 := Lib.hid hB2
  have HBL2 := Lib.hid (HBL1.out.trans (hB2.mono HBL1.out.size))
  have HBK2 := Lib.hid (HBK1.out.call hB2)
  have HK6b := Lib.hid (HK6a.out.call hB2)
  clear hB2 HBK1 HA1 x_0 x_1 x_2 x_3 x_4 x_5 s0_0 s0_1 s0_2 s0_3 s0_4 s0_5
  have s0_0 := HBK2.out.cell 0 0 rfl rfl
  have s0_1 := HBK2.out.cell 0 1 rfl rfl
  have s0_2 := HBK2.out.cell 0 2 rfl rfl
  have s0_3 := HBK2.out.cell 0 3 rfl rfl
  have s0_4 := HBK2.out.cell 0 4 rfl rfl
  have s0_5 := HBK2.out.cell 0 5 rfl rfl
  go_wp2_with fail
  refine (HTO0.out _ HBL2.out).mono ?_; rintro e w3 ⟨rfl, hB3⟩
  have HB3 := Lib.hid (HB2.out.trans (hB3.mono HB2.out.size))
  have HBL3 := Lib.hid (HBL2.out.trans (hB3.mono HBL2.out.size))
  have HK6c := Lib.hid (HK6b.out.call hB3)
  clear hB3 HB2 HBL2 HBK2 HK6b s0_0 s0_1 s0_2 s0_3 s0_4 s0_5
  have x_0 := HK6c.out.c 0 (.slice oa on1 oc1) rfl
  have x_1 := HK6c.out.c 1 (.int .i64 q) rfl
  have x_2 := HK6c.out.c 2 (.int .i64 u) rfl
  have x_3 := HK6c.out.c 3 (.bool c) rfl
  have x_4 := HK6c.out.c 4 (.bool d) rfl
  have x_5 := HK6c.out.c 5 (.slice ca1 cn1 cc1) rfl
  have HA3 := Lib.hid (HTON.out xc c0 c1 w3 HB3.out)
  go_wp2_with fail
  refine HA3.out.mono ?_; rintro e w4 ⟨rfl, hB4⟩
  have HB4 := Lib.hid (HB3.out.trans (hB4.mono HB3.out.size))
  have HBL4 := Lib.hid (HBL3.out.trans (hB4.mono HBL3.out.size))
  have HK6d := Lib.hid (HK6c.out.call hB4)
  clear hB4 HB3 HBL3 HK6c HA3 HTO0 HTON x_0 x_1 x_2 x_3 x_4 x_5
  have t0 : (xb != xb) = false := by simp
  by_cases hac : xa = xc
  ·have t1 : (xa != xc) = false := by simp [hac]
   rw [if_pos hac.symm]
   have HAC := Lib.hid hac
   clear hac
   go_wp2_with fail
   have HCL2 : Hid (∀ X g, Below w4.heap.size w4 X → TmsAt X.heap.size X (some ⟨g, 0, none⟩) [.mk 0 0 ⟨#[]⟩ [], .mk 0 1 ⟨#[]⟩ []] → Calls Tryz.prog 30 #[.agg #[.slice oa on1 oc1, .int .i64 q, .int .i64 u, .bool c, .bool d, .slice ca1 cn1 cc1], .agg #[.int .i64 3, .int .i64 0, .string ⟨#[99, 117, 114, 114, 101, 110, 116, 95, 99, 104, 97, 114, 95, 99, 111, 110, 118, 101, 114, 115, 105, 111, 110]⟩, .slice (some ⟨g, 0, none⟩) 2 2]] X fun e w' => ∃ v, e = .returned v ∧ ((∃ r : RV, v = r.val ∧ ResAny X.heap.size w'.heap.size w' r (.ok ⟨l, ⟨q, u, c, d⟩, cset cl xa xb⟩ ((cset cl xa xb).map cvAns))) ∧ Below X.heap.size X w')) := Lib.hid fun X g hX hT => by
    have hX1 := HB4.out.trans (hX.mono HB4.out.size)
    have hc := HC1.out.below hX1
    exact (call_convs oa on1 oc1 q u c d ca1 cn1 cc1 (some ⟨g, 0, none⟩) 2 l (cset cl xa xb) X (HT1.out.below hX1) HOV.out HFV.out HCP.out hc.len hc.prs hc.nil hT).mono fun e w' h => by
     obtain ⟨r, he, hB, hr⟩ := h
     exact ⟨_, he, ⟨r, rfl, ResOk.of hr⟩, hB⟩
   have HCALL := HCL2
   have HVA0 : Hid (∀ X, Calls Tryz.prog 40 #[.int .i64 0] X fun e w' => ∃ v, e = .returned v ∧ (v = .agg #[.int .i64 0, .int .i64 0, .string ⟨#[]⟩, .slice none 0 0] ∧ Below X.heap.size X w')) := Lib.hid fun X => (law_variable 0 X).mono fun e w' h => ⟨_, h.1, rfl, h.2⟩
   have HVA1 : Hid (∀ X, Calls Tryz.prog 40 #[.int .i64 1] X fun e w' => ∃ v, e = .returned v ∧ (v = .agg #[.int .i64 0, .int .i64 1, .string ⟨#[]⟩, .slice none 0 0] ∧ Below X.heap.size X w')) := Lib.hid fun X => (law_variable 1 X).mono fun e w' h => ⟨_, h.1, rfl, h.2⟩
   have HGOAL : Hid (∀ X g, Calls Tryz.prog 35 #[.string ⟨#[99, 117, 114, 114, 101, 110, 116, 95, 99, 104, 97, 114, 95, 99, 111, 110, 118, 101, 114, 115, 105, 111, 110]⟩, .slice (some ⟨g, 0, none⟩) 2 2] X fun e w' => ∃ v, e = .returned v ∧ (v = .agg #[.int .i64 3, .int .i64 0, .string ⟨#[99, 117, 114, 114, 101, 110, 116, 95, 99, 104, 97, 114, 95, 99, 111, 110, 118, 101, 114, 115, 105, 111, 110]⟩, .slice (some ⟨g, 0, none⟩) 2 2] ∧ Below X.heap.size X w')) := Lib.hid fun X g => (law_goal _ _ _ _ X).mono fun e w' h => ⟨_, h.1, rfl, h.2⟩
   have x_0 := HK6d.out.c 0 (.slice oa on1 oc1) rfl
   have x_1 := HK6d.out.c 1 (.int .i64 q) rfl
   have x_2 := HK6d.out.c 2 (.int .i64 u) rfl
   have x_3 := HK6d.out.c 3 (.bool c) rfl
   have x_4 := HK6d.out.c 4 (.bool d) rfl
   have x_5 := HK6d.out.c 5 (.slice ca1 cn1 cc1) rfl
   have xl := HK6d.out.lt
   rename_i K9 hK9
   refine wp_region_any (by kernel_rfl) ?_
   refine wpAny_inv (fun S a X => ∃ (g1 P Q e6 e8 : Nat) (r : RV), a = (⟨#[.agg #[.slice OA on oc, .int .i64 q, .int .i64 u, .bool c, .bool d, .slice CA cn cc], .int .u8 xa, .int .u8 xb, .int .u8 xc, .pointer (some ⟨w.heap.size, 0, none⟩), undef, undef, undef, .bool false, .pointer (some ⟨eT, 0, none⟩), .slice ra 1 rc, .pointer (some ⟨eU, 0, none⟩), if S 16 = true then .int .i64 r.er else .int .i64 0, .int .u8 xb, .bool true, .int .u8 (convT cl xc), .bool true, .int .u8 xb, .bool true, if S 11 = true then .pointer (some ⟨e6, 0, none⟩) else undef, if S 14 = true then .slice r.ra r.rn r.rc else undef, if S 12 = true then .pointer (some ⟨e8, 0, none⟩) else undef, undef, undef, .tuple #[.agg #[.slice oa on1 oc1, .int .i64 q, .int .i64 u, .bool c, .bool d, .slice ca1 cn1 cc1], .slice ra 1 rc, .agg #[.int .i64 bk, .int .i64 bn, .string bs, .slice ba bz bc], .int .i64 0], .agg #[.slice OA on oc, .int .i64 q, .int .i64 u, .bool c, .bool d, .slice CA cn cc], .int .u8 xa, .agg #[.int .i64 2, .int .i64 0, .string (chS xa), .slice none 0 0], .int .u8 xb, .agg #[.int .i64 2, .int .i64 0, .string (chS xb), .slice none 0 0], .slice (some ⟨gX, 0, none⟩) 2 2, .agg #[.int .i64 3, .int .i64 0, .string ⟨#[99, 104, 97, 114, 95, 99, 111, 110, 118, 101, 114, 115, 105, 111, 110]⟩, .slice (some ⟨gX, 0, none⟩) 2 2], .tuple #[.agg #[.slice oa on1 oc1, .int .i64 q, .int .i64 u, .bool c, .bool d, .slice ca1 cn1 cc1], .slice ra 1 rc, .agg #[.int .i64 bk, .int .i64 bn, .string bs, .slice ba bz bc], .int .i64 0], .agg #[.slice oa on1 oc1, .int .i64 q, .int .i64 u, .bool c, .bool d, .slice ca1 cn1 cc1], .slice ra 1 rc, .agg #[.int .i64 bk, .int .i64 bn, .string bs, .slice ba bz bc], .int .i64 0, .int .i64 0, .bool false, undef, undef, undef, undef, undef, undef, .tuple #[.int .u8 xb, .bool true], .agg #[.slice oa on1 oc1, .int .i64 q, .int .i64 u, .bool c, .bool d, .slice ca1 cn1 cc1], .int .u8 xa, .tuple #[.int .u8 xb, .bool true], .int .u8 xb, .bool true, .tuple #[.int .u8 (convT cl xc), .bool true], .agg #[.slice OA on oc, .int .i64 q, .int .i64 u, .bool c, .bool d, .slice CA cn cc], .int .u8 xc, .tuple #[.int .u8 (convT cl xc), .bool true], .int .u8 (convT cl xc), .bool true, .tuple #[.int .u8 xb, .bool true], .agg #[.slice oa on1 oc1, .int .i64 q, .int .i64 u, .bool c, .bool d, .slice ca1 cn1 cc1], .int .u8 xc, .tuple #[.int .u8 xb, .bool true], .int .u8 xb, .bool true, .slice ra 1 rc, .int .i64 1, .bool false, .bool false, .bool true, .bool false, .bool false, .bool false, .bool true, .bool false, .bool false, .bool false, .bool true, .bool false, .bool false, .bool false, .int .u8 xb, .int .u8 xb, .bool false, .bool false, .bool false, .int .u8 xa, .int .u8 xc, .bool false, .bool false, undef, undef, undef, .bool false, .bool false, if S 6 = true then .tuple #[.agg #[.slice r.oa r.on r.oc, .int .i64 r.q, .int .i64 r.u, .bool r.c, .bool r.d, .slice r.ca r.cn r.cc], .slice r.ra r.rn r.rc, .agg #[.int .i64 r.bk, .int .i64 r.bn, .string r.bs, .slice r.ba r.bz r.bc], .int .i64 r.er] else undef, if S 0 = true then .agg #[.slice oa on1 oc1, .int .i64 q, .int .i64 u, .bool c, .bool d, .slice ca1 cn1 cc1] else undef, if S 1 = true then .agg #[.int .i64 0, .int .i64 0, .string ⟨#[]⟩, .slice none 0 0] else undef, if S 2 = true then .agg #[.int .i64 0, .int .i64 1, .string ⟨#[]⟩, .slice none 0 0] else undef, if S 3 = true then .slice (some ⟨g1, 0, none⟩) 2 2 else undef, if S 4 = true then .agg #[.int .i64 3, .int .i64 0, .string ⟨#[99, 117, 114, 114, 101, 110, 116, 95, 99, 104, 97, 114, 95, 99, 111, 110, 118, 101, 114, 115, 105, 111, 110]⟩, .slice (some ⟨g1, 0, none⟩) 2 2] else undef, if S 5 = true then .tuple #[.agg #[.slice r.oa r.on r.oc, .int .i64 r.q, .int .i64 r.u, .bool r.c, .bool r.d, .slice r.ca r.cn r.cc], .slice r.ra r.rn r.rc, .agg #[.int .i64 r.bk, .int .i64 r.bn, .string r.bs, .slice r.ba r.bz r.bc], .int .i64 r.er] else undef, if S 7 = true then .agg #[.slice r.oa r.on r.oc, .int .i64 r.q, .int .i64 r.u, .bool r.c, .bool r.d, .slice r.ca r.cn r.cc] else undef, if S 8 = true then .slice r.ra r.rn r.rc else undef, if S 9 = true then .agg #[.int .i64 r.bk, .int .i64 r.bn, .string r.bs, .slice r.ba r.bz r.bc] else undef, if S 10 = true then .int .i64 r.er else undef, undef, undef, undef, undef, undef, undef, undef, undef, undef, undef, undef, undef, undef, undef, undef, undef, undef, undef, undef, undef, undef, undef, undef], []⟩ : Act) ∧ Below w4.heap.size w4 X ∧ (S 3 = true → S 5 = false → TmsAt X.heap.size X (some ⟨g1, 0, none⟩) [.mk 0 0 ⟨#[]⟩ [], .mk 0 1 ⟨#[]⟩ []]) ∧ (S 5 = true → ResAny P Q X r (.ok ⟨l, ⟨q, u, c, d⟩, cset cl xa xb⟩ ((cset cl xa xb).map cvAns)) ∧ w4.heap.size ≤ P) ∧ (S 11 = true → w4.heap.size ≤ e6 ∧ Bk X e6 (if S 13 = true then [.slice r.oa r.on r.oc, .int .i64 r.q, .int .i64 r.u, .bool r.c, .bool r.d, .slice r.ca r.cn r.cc] else [.slice none 0 0, .int .i64 0, .int .i64 0, .bool false, .bool false, .slice none 0 0]) ∧ (S 5 = true → e6 < P ∨ Q ≤ e6)) ∧ (S 12 = true → w4.heap.size ≤ e8 ∧ Bk X e8 (if S 15 = true then [.int .i64 r.bk, .int .i64 r.bn, .string r.bs, .slice r.ba r.bz r.bc] else [.int .i64 0, .int .i64 0, .string ⟨#[]⟩, .slice none 0 0]) ∧ (S 5 = true → e8 < P ∨ Q ≤ e8)) ∧ (S 11 = true → S 12 = true → e6 ≠ e8) ∧ (S 5 = false → S 6 = false ∧ S 7 = false ∧ S 8 = false ∧ S 9 = false ∧ S 10 = false ∧ S 13 = false ∧ S 14 = false ∧ S 15 = false ∧ S 16 = false) ∧ (S 4 = true → S 3 = true) ∧ (S 13 = true → S 11 = true) ∧ (S 15 = true → S 12 = true)) (by kernel_rfl) ?stepka ?finka 17 (fun _ => false) _ _ (by decide) ⟨0, 0, 0, 0, 0, ⟨none, 0, 0, 0, 0, false, false, none, 0, 0, none, 0, 0, 0, 0, ⟨#[]⟩, none, 0, 0, 0⟩, rfl, (Below.refl _ w4).drew, fun h => (by cases h), fun h => (by cases h), fun h => (by cases h), fun h => (by cases h), fun h => (by cases h), fun _ => ⟨rfl, rfl, rfl, rfl, rfl, rfl, rfl, rfl, rfl⟩, fun h => (by cases h), fun h => (by cases h), fun h => (by cases h)⟩
   case stepka =>
    rintro S j o a X ho hs hp ⟨g1, P, Q, e6, e8, r, rfl, hB, hrow, hres, h6, h8, hne, hd, igr, i6, i8⟩
    have hlt : j < 17 := (Array.getElem?_eq_some_iff.1 ho).1
    rcases (show j = 0 ∨ j = 1 ∨ j = 2 ∨ j = 3 ∨ j = 4 ∨ j = 5 ∨ j = 6 ∨ j = 7 ∨ j = 8 ∨ j = 9 ∨ j = 10 ∨ j = 11 ∨ j = 12 ∨ j = 13 ∨ j = 14 ∨ j = 15 ∨ j = 16 by omega) with rfl | rfl | rfl | rfl | rfl | rfl | rfl | rfl | rfl | rfl | rfl | rfl | rfl | rfl | rfl | rfl | rfl
    ·cases ho
     have z0 : X.cell? ⟨eT, 0, none⟩ = some (.slice oa on1 oc1) := (hB.cell (p := ⟨_, 0, none⟩) xl).trans x_0
     have z1 : X.cell? ⟨eT, 1, none⟩ = some (.int .i64 q) := (hB.cell (p := ⟨_, 1, none⟩) xl).trans x_1
     have z2 : X.cell? ⟨eT, 2, none⟩ = some (.int .i64 u) := (hB.cell (p := ⟨_, 2, none⟩) xl).trans x_2
     have z3 : X.cell? ⟨eT, 3, none⟩ = some (.bool c) := (hB.cell (p := ⟨_, 3, none⟩) xl).trans x_3
     have z4 : X.cell? ⟨eT, 4, none⟩ = some (.bool d) := (hB.cell (p := ⟨_, 4, none⟩) xl).trans x_4
     have z5 : X.cell? ⟨eT, 5, none⟩ = some (.slice ca1 cn1 cc1) := (hB.cell (p := ⟨_, 5, none⟩) xl).trans x_5
     rw [if_pos (show Region.wanted _ _ = true from rfl)]
     refine wp_val (v := .agg #[.slice oa on1 oc1, .int .i64 q, .int .i64 u, .bool c, .bool d, .slice ca1 cn1 cc1]) (w' := X) ?_ ⟨g1, P, Q, e6, e8, r, rfl, hB, hrow, hres, h6, h8, hne, hd, igr, i6, i8⟩
     simp [execOp, go_sem, Act.eval, z0, z1, z2, z3, z4, z5]
    ·cases ho
     rw [if_pos (show Region.wanted _ _ = true from rfl)]
     refine wp_cal ?_ (HVA0.out X) (fun v w' hR => ?_)
     ·simp [execOp, go_sem, Act.eval]
      try rfl
     ·obtain ⟨rfl, hB'⟩ := hR
      exact ⟨g1, P, Q, e6, e8, r, rfl, hB.trans (hB'.mono hB.size), fun h h2 => ((hrow h h2).keep hB').mono hB'.size, fun h => ⟨(hres h).1.call hB', (hres h).2⟩, fun h => ⟨(h6 h).1, (h6 h).2.1.call hB', (h6 h).2.2⟩, fun h => ⟨(h8 h).1, (h8 h).2.1.call hB', (h8 h).2.2⟩, hne, hd, igr, i6, i8⟩
    ·cases ho
     rw [if_pos (show Region.wanted _ _ = true from rfl)]
     refine wp_cal ?_ (HVA1.out X) (fun v w' hR => ?_)
     ·simp [execOp, go_sem, Act.eval]
      try rfl
     ·obtain ⟨rfl, hB'⟩ := hR
      exact ⟨g1, P, Q, e6, e8, r, rfl, hB.trans (hB'.mono hB.size), fun h h2 => ((hrow h h2).keep hB').mono hB'.size, fun h => ⟨(hres h).1.call hB', (hres h).2⟩, fun h => ⟨(h6 h).1, (h6 h).2.1.call hB', (h6 h).2.2⟩, fun h => ⟨(h8 h).1, (h8 h).2.1.call hB', (h8 h).2.2⟩, hne, hd, igr, i6, i8⟩
    ·cases ho
     have s1 : S 1 = true := hp ⟨1, .data⟩ (by simp) rfl
     have s2 : S 2 = true := hp ⟨2, .data⟩ (by simp) rfl
     rw [if_pos (show Region.wanted _ _ = true from rfl)]
     have dg : S 4 = false := by
      cases h : S 4
      ·rfl
      ·exact absurd (igr h) (by rw [hs]; simp)
     have ug : updF S 3 4 = false := dg
     have hB' := (Below.refl X.heap.size X).alloc (Nat.le_refl _) (.cells #[.int .i64 0, .int .i64 0, .string ⟨#[]⟩, .slice none 0 0, .int .i64 0, .int .i64 1, .string ⟨#[]⟩, .slice none 0 0] 26)
     have hrw := TmsK.rows (K := fun b => b < X.heap.size + 1) (w := X) (rs := [(.mk 0 0 ⟨#[]⟩ [], none, 0), (.mk 0 1 ⟨#[]⟩ [], none, 0)]) (e := 26) (by omega) (by simp [maxLen]) (fun x hx => by
      simp only [List.mem_cons, List.mem_nil_iff, or_false] at hx
      rcases hx with rfl | rfl <;> exact TmsK.nil)
     refine wp_val (v := .slice (some ⟨X.heap.size, 0, none⟩) 2 2) (w' := X.alloc (.cells #[.int .i64 0, .int .i64 0, .string ⟨#[]⟩, .slice none 0 0, .int .i64 0, .int .i64 1, .string ⟨#[]⟩, .slice none 0 0] 26)) ?_ ⟨X.heap.size, P, Q, e6, e8, r, ?_, hB.trans (hB'.mono hB.size), fun _ _ => TmsK.at' hrw, fun h => ⟨(hres h).1.call hB', (hres h).2⟩, fun h => ⟨(h6 h).1, (h6 h).2.1.call hB', (h6 h).2.2⟩, fun h => ⟨(h8 h).1, (h8 h).2.1.call hB', (h8 h).2.2⟩, hne, hd, fun _ => rfl, i6, i8⟩
     ·simp [execOp, go_sem, Act.eval, s1, s2]
     ·simp only [dg, ug, Bool.false_eq_true, if_false]
      rfl
    ·cases ho
     have s3 : S 3 = true := hp ⟨3, .data⟩ (by simp) rfl
     rw [if_pos (show Region.wanted _ _ = true from rfl)]
     refine wp_cal ?_ (HGOAL.out X g1) (fun v w' hR => ?_)
     ·simp [execOp, go_sem, Act.eval, s3]
      try rfl
     ·obtain ⟨rfl, hB'⟩ := hR
      exact ⟨g1, P, Q, e6, e8, r, rfl, hB.trans (hB'.mono hB.size), fun h h2 => ((hrow h h2).keep hB').mono hB'.size, fun h => ⟨(hres h).1.call hB', (hres h).2⟩, fun h => ⟨(h6 h).1, (h6 h).2.1.call hB', (h6 h).2.2⟩, fun h => ⟨(h8 h).1, (h8 h).2.1.call hB', (h8 h).2.2⟩, hne, hd, fun _ => s3, i6, i8⟩
    ·cases ho
     have s0 : S 0 = true := hp ⟨0, .data⟩ (by simp) rfl
     have s4 : S 4 = true := hp ⟨4, .data⟩ (by simp) rfl
     rw [if_pos (show Region.wanted _ _ = true from rfl)]
     have hrw0 := igr s4
     obtain ⟨d6, d7, d8, d9, d10, d13, d14, d15, d16⟩ := hd hs
     refine wp_cal ?_ (HCALL.out X g1 hB (hrow hrw0 hs)) (fun v w' hR => ?_)
     ·simp [execOp, go_sem, Act.eval, s0, s4]
      try rfl
     ·obtain ⟨⟨r', rfl, hO⟩, hB'⟩ := hR
      have K6 : ∀ h : S 11 = true, Bk w' e6 (if updF S 5 13 = true then [.slice r'.oa r'.on r'.oc, .int .i64 r'.q, .int .i64 r'.u, .bool r'.c, .bool r'.d, .slice r'.ca r'.cn r'.cc] else [.slice none 0 0, .int .i64 0, .int .i64 0, .bool false, .bool false, .slice none 0 0]) := fun h => by
       have hk := (h6 h).2.1.call hB'
       rw [if_neg (by rw [d13]; simp)] at hk
       rw [if_neg (show ¬ updF S 5 13 = true from fun hh => by rw [show updF S 5 13 = S 13 from rfl, d13] at hh; cases hh)]
       exact hk
      have K8 : ∀ h : S 12 = true, Bk w' e8 (if updF S 5 15 = true then [.int .i64 r'.bk, .int .i64 r'.bn, .string r'.bs, .slice r'.ba r'.bz r'.bc] else [.int .i64 0, .int .i64 0, .string ⟨#[]⟩, .slice none 0 0]) := fun h => by
       have hk := (h8 h).2.1.call hB'
       rw [if_neg (by rw [d15]; simp)] at hk
       rw [if_neg (show ¬ updF S 5 15 = true from fun hh => by rw [show updF S 5 15 = S 15 from rfl, d15] at hh; cases hh)]
       exact hk
      refine ⟨g1, X.heap.size, w'.heap.size, e6, e8, r', ?_, hB.trans (hB'.mono hB.size), fun _ h => (by cases h), fun _ => ⟨hO, hB.size⟩, fun h => ⟨(h6 h).1, K6 h, fun _ => .inl (h6 h).2.1.lt⟩, fun h => ⟨(h8 h).1, K8 h, fun _ => .inl (h8 h).2.1.lt⟩, hne, (fun h => nomatch (show true = false from h)), igr, i6, i8⟩
      have u6 : updF S 5 6 = false := d6
      have u7 : updF S 5 7 = false := d7
      have u8 : updF S 5 8 = false := d8
      have u9 : updF S 5 9 = false := d9
      have u10 : updF S 5 10 = false := d10
      have u14 : updF S 5 14 = false := d14
      have u16 : updF S 5 16 = false := d16
      simp only [d6, u6, d7, u7, d8, u8, d9, u9, d10, u10, d14, u14, d16, u16, Bool.false_eq_true, if_false]
      rfl
    ·cases ho
     have s5 : S 5 = true := hp ⟨5, .data⟩ (by simp) rfl
     rw [if_pos (show Region.wanted _ _ = true from rfl)]
     refine wp_val (v := .tuple #[.agg #[.slice r.oa r.on r.oc, .int .i64 r.q, .int .i64 r.u, .bool r.c, .bool r.d, .slice r.ca r.cn r.cc], .slice r.ra r.rn r.rc, .agg #[.int .i64 r.bk, .int .i64 r.bn, .string r.bs, .slice r.ba r.bz r.bc], .int .i64 r.er]) (w' := X) ?_ ⟨g1, P, Q, e6, e8, r, rfl, hB, hrow, hres, h6, h8, hne, fun h => absurd (show S 5 = false from h) (by rw [s5]; simp), igr, i6, i8⟩
     simp [execOp, go_sem, Act.eval, s5]
    ·cases ho
     have s6 : S 6 = true := hp ⟨6, .data⟩ (by simp) rfl
     have s5 : S 5 = true := by
      cases h : S 5
      ·have := (hd h).1
       rw [s6] at this; cases this
      ·rfl
     rw [if_pos (show Region.wanted _ _ = true from rfl)]
     refine wp_val (v := .agg #[.slice r.oa r.on r.oc, .int .i64 r.q, .int .i64 r.u, .bool r.c, .bool r.d, .slice r.ca r.cn r.cc]) (w' := X) ?_ ⟨g1, P, Q, e6, e8, r, rfl, hB, hrow, hres, h6, h8, hne, fun h => absurd (show S 5 = false from h) (by rw [s5]; simp), igr, i6, i8⟩
     simp [execOp, go_sem, Act.eval, s6]
    ·cases ho
     have s6 : S 6 = true := hp ⟨6, .data⟩ (by simp) rfl
     have s5 : S 5 = true := by
      cases h : S 5
      ·have := (hd h).1
       rw [s6] at this; cases this
      ·rfl
     rw [if_pos (show Region.wanted _ _ = true from rfl)]
     refine wp_val (v := .slice r.ra r.rn r.rc) (w' := X) ?_ ⟨g1, P, Q, e6, e8, r, rfl, hB, hrow, hres, h6, h8, hne, fun h => absurd (show S 5 = false from h) (by rw [s5]; simp), igr, i6, i8⟩
     simp [execOp, go_sem, Act.eval, s6]
    ·cases ho
     have s6 : S 6 = true := hp ⟨6, .data⟩ (by simp) rfl
     have s5 : S 5 = true := by
      cases h : S 5
      ·have := (hd h).1
       rw [s6] at this; cases this
      ·rfl
     rw [if_pos (show Region.wanted _ _ = true from rfl)]
     refine wp_val (v := .agg #[.int .i64 r.bk, .int .i64 r.bn, .string r.bs, .slice r.ba r.bz r.bc]) (w' := X) ?_ ⟨g1, P, Q, e6, e8, r, rfl, hB, hrow, hres, h6, h8, hne, fun h => absurd (show S 5 = false from h) (by rw [s5]; simp), igr, i6, i8⟩
     simp [execOp, go_sem, Act.eval, s6]
    ·cases ho
     have s6 : S 6 = true := hp ⟨6, .data⟩ (by simp) rfl
     have s5 : S 5 = true := by
      cases h : S 5
      ·have := (hd h).1
       rw [s6] at this; cases this
      ·rfl
     rw [if_pos (show Region.wanted _ _ = true from rfl)]
     refine wp_val (v := .int .i64 r.er) (w' := X) ?_ ⟨g1, P, Q, e6, e8, r, rfl, hB, hrow, hres, h6, h8, hne, fun h => absurd (show S 5 = false from h) (by rw [s5]; simp), igr, i6, i8⟩
     simp [execOp, go_sem, Act.eval, s6]
    ·cases ho
     rw [if_pos (show Region.wanted _ _ = true from rfl)]
     have hB' := (Below.refl X.heap.size X).alloc (Nat.le_refl _) (.cells #[.slice none 0 0, .int .i64 0, .int .i64 0, .bool false, .bool false, .slice none 0 0] 43)
     have KN : Bk (X.alloc (.cells #[.slice none 0 0, .int .i64 0, .int .i64 0, .bool false, .bool false, .slice none 0 0] 43)) X.heap.size (if updF S 11 13 = true then [.slice r.oa r.on r.oc, .int .i64 r.q, .int .i64 r.u, .bool r.c, .bool r.d, .slice r.ca r.cn r.cc] else [.slice none 0 0, .int .i64 0, .int .i64 0, .bool false, .bool false, .slice none 0 0]) := by
      rw [if_neg (show ¬ updF S 11 13 = true from fun hh => absurd (i6 hh) (by rw [hs]; simp))]
      exact Bk.new X [.slice none 0 0, .int .i64 0, .int .i64 0, .bool false, .bool false, .slice none 0 0] 43
     refine wp_val (v := .pointer (some ⟨X.heap.size, 0, none⟩)) (w' := X.alloc (.cells #[.slice none 0 0, .int .i64 0, .int .i64 0, .bool false, .bool false, .slice none 0 0] 43)) ?_ ⟨g1, P, Q, X.heap.size, e8, r, rfl, hB.alloc hB.size _, fun h h2 => ((hrow h h2).keep hB').mono hB'.size, fun h => ⟨(hres h).1.call hB', (hres h).2⟩, fun _ => ⟨hB.size, KN, fun h => .inr (hres h).1.qx⟩, fun h => ⟨(h8 h).1, (h8 h).2.1.call hB', (h8 h).2.2⟩, fun _ h => Nat.ne_of_gt (h8 h).2.1.lt, hd, igr, fun _ => rfl, i8⟩
     simp [execOp, go_sem]
    ·cases ho
     rw [if_pos (show Region.wanted _ _ = true from rfl)]
     have hB' := (Below.refl X.heap.size X).alloc (Nat.le_refl _) (.cells #[.int .i64 0, .int .i64 0, .string ⟨#[]⟩, .slice none 0 0] 26)
     have KN : Bk (X.alloc (.cells #[.int .i64 0, .int .i64 0, .string ⟨#[]⟩, .slice none 0 0] 26)) X.heap.size (if updF S 12 15 = true then [.int .i64 r.bk, .int .i64 r.bn, .string r.bs, .slice r.ba r.bz r.bc] else [.int .i64 0, .int .i64 0, .string ⟨#[]⟩, .slice none 0 0]) := by
      rw [if_neg (show ¬ updF S 12 15 = true from fun hh => absurd (i8 hh) (by rw [hs]; simp))]
      exact Bk.new X [.int .i64 0, .int .i64 0, .string ⟨#[]⟩, .slice none 0 0] 26
     refine wp_val (v := .pointer (some ⟨X.heap.size, 0, none⟩)) (w' := X.alloc (.cells #[.int .i64 0, .int .i64 0, .string ⟨#[]⟩, .slice none 0 0] 26)) ?_ ⟨g1, P, Q, e6, X.heap.size, r, rfl, hB.alloc hB.size _, fun h h2 => ((hrow h h2).keep hB').mono hB'.size, fun h => ⟨(hres h).1.call hB', (hres h).2⟩, fun h => ⟨(h6 h).1, (h6 h).2.1.call hB', (h6 h).2.2⟩, fun _ => ⟨hB.size, KN, fun h => .inr (hres h).1.qx⟩, fun h _ => Nat.ne_of_lt (h6 h).2.1.lt, hd, igr, i6, fun _ => rfl⟩
     simp [execOp, go_sem]
    ·cases ho
     have s7 : S 7 = true := hp ⟨7, .data⟩ (by simp) rfl
     have s11 : S 11 = true := hp ⟨11, .data⟩ (by simp) rfl
     have s5 : S 5 = true := by
      cases h : S 5
      ·have := (hd h).2.1
       rw [s7] at this; cases this
      ·rfl
     rw [if_pos (show Region.wanted _ _ = true from rfl)]
     have hk := (h6 s11).2.1
     rw [if_neg (by rw [hs]; simp)] at hk
     have NE : ∀ h : S 12 = true, e8 ≠ e6 := fun h => (hne s11 h).symm
     have z0 := hk.c 0 (.slice none 0 0) rfl
     have f0 := hk.f 0
     have z1 := hk.c 1 (.int .i64 0) rfl
     have f1 := hk.f 1
     have z2 := hk.c 2 (.int .i64 0) rfl
     have f2 := hk.f 2
     have z3 := hk.c 3 (.bool false) rfl
     have f3 := hk.f 3
     have z4 := hk.c 4 (.bool false) rfl
     have f4 := hk.f 4
     have z5 := hk.c 5 (.slice none 0 0) rfl
     have f5 := hk.f 5
     refine wp_skp (w' := ((((((X.setCell ⟨e6, 0, none⟩ (.slice r.oa r.on r.oc)).setCell ⟨e6, 1, none⟩ (.int .i64 r.q)).setCell ⟨e6, 2, none⟩ (.int .i64 r.u)).setCell ⟨e6, 3, none⟩ (.bool r.c)).setCell ⟨e6, 4, none⟩ (.bool r.d)).setCell ⟨e6, 5, none⟩ (.slice r.ca r.cn r.cc))) ?_ ⟨g1, P, Q, e6, e8, r, rfl, ((((((hB.setCell (p := ⟨_, _, none⟩) (h6 s11).1 _).setCell (p := ⟨_, _, none⟩) (h6 s11).1 _).setCell (p := ⟨_, _, none⟩) (h6 s11).1 _).setCell (p := ⟨_, _, none⟩) (h6 s11).1 _).setCell (p := ⟨_, _, none⟩) (h6 s11).1 _).setCell (p := ⟨_, _, none⟩) (h6 s11).1 _), fun _ h => absurd (show S 5 = false from h) (by rw [s5]; simp), fun _ => ⟨(hres s5).1.put e6 [.slice none 0 0, .int .i64 0, .int .i64 0, .bool false, .bool false, .slice none 0 0] ((h6 s11).2.2 s5) hk (by intro i s x; rcases i with _ | _ | _ | _ | _ | _ | i <;> simp) (by simp) (fun b hb => by rw [heap_setCell_other _ _ _ _ hb, heap_setCell_other _ _ _ _ hb, heap_setCell_other _ _ _ _ hb, heap_setCell_other _ _ _ _ hb, heap_setCell_other _ _ _ _ hb, heap_setCell_other _ _ _ _ hb]), (hres s5).2⟩, fun _ => ⟨(h6 s11).1, by rw [if_pos (show updF S 13 13 = true from rfl)]; exact ((((((hk.set 0 (.slice r.oa r.on r.oc)).set 1 (.int .i64 r.q)).set 2 (.int .i64 r.u)).set 3 (.bool r.c)).set 4 (.bool r.d)).set 5 (.slice r.ca r.cn r.cc)), (h6 s11).2.2⟩, fun h => ⟨(h8 h).1, (((((((h8 h).2.1.other (NE h) 0 (.slice r.oa r.on r.oc)).other (NE h) 1 (.int .i64 r.q)).other (NE h) 2 (.int .i64 r.u)).other (NE h) 3 (.bool r.c)).other (NE h) 4 (.bool r.d)).other (NE h) 5 (.slice r.ca r.cn r.cc)), (h8 h).2.2⟩, hne, fun h => absurd (show S 5 = false from h) (by rw [s5]; simp), igr, fun _ => s11, i8⟩
     simp [execOp, go_sem, Act.eval, s11, s7, z0, f0, z1, f1, z2, f2, z3, f3, z4, f4, z5, f5]
    ·cases ho
     have s8 : S 8 = true := hp ⟨8, .data⟩ (by simp) rfl
     have s5 : S 5 = true := by
      cases h : S 5
      ·have := (hd h).2.2.1
       rw [s8] at this; cases this
      ·rfl
     rw [if_pos (show Region.wanted _ _ = true from rfl)]
     refine wp_val (v := .slice r.ra r.rn r.rc) (w' := X) ?_ ⟨g1, P, Q, e6, e8, r, rfl, hB, hrow, hres, h6, h8, hne, fun h => absurd (show S 5 = false from h) (by rw [s5]; simp), igr, i6, i8⟩
     simp [execOp, go_sem, Act.eval, s8]
    ·cases ho
     have s9 : S 9 = true := hp ⟨9, .data⟩ (by simp) rfl
     have s12 : S 12 = true := hp ⟨12, .data⟩ (by simp) rfl
     have s5 : S 5 = true := by
      cases h : S 5
      ·have := (hd h).2.2.2.1
       rw [s9] at this; cases this
      ·rfl
     rw [if_pos (show Region.wanted _ _ = true from rfl)]
     have hk := (h8 s12).2.1
     rw [if_neg (by rw [hs]; simp)] at hk
     have NE : ∀ h : S 11 = true, e6 ≠ e8 := fun h => hne h s12
     have z0 := hk.c 0 (.int .i64 0) rfl
     have f0 := hk.f 0
     have z1 := hk.c 1 (.int .i64 0) rfl
     have f1 := hk.f 1
     have z2 := hk.c 2 (.string ⟨#[]⟩) rfl
     have f2 := hk.f 2
     have z3 := hk.c 3 (.slice none 0 0) rfl
     have f3 := hk.f 3
     refine wp_skp (w' := ((((X.setCell ⟨e8, 0, none⟩ (.int .i64 r.bk)).setCell ⟨e8, 1, none⟩ (.int .i64 r.bn)).setCell ⟨e8, 2, none⟩ (.string r.bs)).setCell ⟨e8, 3, none⟩ (.slice r.ba r.bz r.bc))) ?_ ⟨g1, P, Q, e6, e8, r, rfl, ((((hB.setCell (p := ⟨_, _, none⟩) (h8 s12).1 _).setCell (p := ⟨_, _, none⟩) (h8 s12).1 _).setCell (p := ⟨_, _, none⟩) (h8 s12).1 _).setCell (p := ⟨_, _, none⟩) (h8 s12).1 _), fun _ h => absurd (show S 5 = false from h) (by rw [s5]; simp), fun _ => ⟨(hres s5).1.put e8 [.int .i64 0, .int .i64 0, .string ⟨#[]⟩, .slice none 0 0] ((h8 s12).2.2 s5) hk (by intro i s x; rcases i with _ | _ | _ | _ | i <;> simp) (by simp) (fun b hb => by rw [heap_setCell_other _ _ _ _ hb, heap_setCell_other _ _ _ _ hb, heap_setCell_other _ _ _ _ hb, heap_setCell_other _ _ _ _ hb]), (hres s5).2⟩, fun h => ⟨(h6 h).1, (((((h6 h).2.1.other (NE h) 0 (.int .i64 r.bk)).other (NE h) 1 (.int .i64 r.bn)).other (NE h) 2 (.string r.bs)).other (NE h) 3 (.slice r.ba r.bz r.bc)), (h6 h).2.2⟩, fun _ => ⟨(h8 s12).1, by rw [if_pos (show updF S 15 15 = true from rfl)]; exact ((((hk.set 0 (.int .i64 r.bk)).set 1 (.int .i64 r.bn)).set 2 (.string r.bs)).set 3 (.slice r.ba r.bz r.bc)), (h8 s12).2.2⟩, hne, fun h => absurd (show S 5 = false from h) (by rw [s5]; simp), igr, i6, fun _ => s12⟩
     simp [execOp, go_sem, Act.eval, s12, s9, z0, f0, z1, f1, z2, f2, z3, f3]
    ·cases ho
     have s10 : S 10 = true := hp ⟨10, .data⟩ (by simp) rfl
     have s5 : S 5 = true := by
      cases h : S 5
      ·have := (hd h).2.2.2.2.1
       rw [s10] at this; cases this
      ·rfl
     rw [if_pos (show Region.wanted _ _ = true from rfl)]
     refine wp_val (v := .int .i64 r.er) (w' := X) ?_ ⟨g1, P, Q, e6, e8, r, rfl, hB, hrow, hres, h6, h8, hne, fun h => absurd (show S 5 = false from h) (by rw [s5]; simp), igr, i6, i8⟩
     simp [execOp, go_sem, Act.eval, s10]
   case finka =>
    rintro S a W9 hall ⟨g1, P, Q, e6, e8, r, rfl, hB, hrow, hres, h6, h8, hne, hd, igr, i6, i8⟩
    have s0 := hall 0 (show 0 < 17 by omega)
    have s1 := hall 1 (show 1 < 17 by omega)
    have s2 := hall 2 (show 2 < 17 by omega)
    have s3 := hall 3 (show 3 < 17 by omega)
    have s4 := hall 4 (show 4 < 17 by omega)
    have s5 := hall 5 (show 5 < 17 by omega)
    have s6 := hall 6 (show 6 < 17 by omega)
    have s7 := hall 7 (show 7 < 17 by omega)
    have s8 := hall 8 (show 8 < 17 by omega)
    have s9 := hall 9 (show 9 < 17 by omega)
    have s10 := hall 10 (show 10 < 17 by omega)
    have s11 := hall 11 (show 11 < 17 by omega)
    have s12 := hall 12 (show 12 < 17 by omega)
    have s13 := hall 13 (show 13 < 17 by omega)
    have s14 := hall 14 (show 14 < 17 by omega)
    have s15 := hall 15 (show 15 < 17 by omega)
    have s16 := hall 16 (show 16 < 17 by omega)
    have HR9 : Hid (ResOk P Q W9 r ⟨l, ⟨q, u, c, d⟩, cset cl xa xb⟩ ((cset cl xa xb).map cvAns)) := Lib.hid (hres s5).1
    have HP9 := Lib.hid (hres s5).2
    have hk6 := (h6 s11).2.1
    have hk8 := (h8 s12).2.1
    rw [if_pos s13] at hk6
    rw [if_pos s15] at hk8
    have HK69 := Lib.hid hk6
    have HK89 := Lib.hid hk8
    have HL69 := Lib.hid (h6 s11).1
    have HL89 := Lib.hid (h8 s12).1
    have HB9 := Lib.hid hB
    refine hK9 _ _ ?_
    simp only [s0, s1, s2, s3, s4, s5, s6, s7, s8, s9, s10, s11, s12, s14, s16, if_true]
    clear hall hB hrow hres h6 h8 hne hd igr i6 i8 hk6 hk8 hK9 s0 s1 s2 s3 s4 s5 s6 s7 s8 s9 s10 s11 s12 s13 s14 s15 s16 HCALL HCL2 HGOAL HVA0 HVA1 xl x_0 x_1 x_2 x_3 x_4 x_5
    obtain ⟨oa2, on2, oc2, q2, u2, c2, d2, ca2, cn2, cc2, ra2, rn2, rc2, bk2, bn2, bs2, ba2, bz2, bc2, er2⟩ := r
    have her : er2 = 0 := HR9.out.er
    have hrn : rn2 = ((cset cl xa xb).map cvAns).length := HR9.out.rn
    rw [List.length_map] at hrn
    subst her
    have HRN := Lib.hid hrn
    have HBL9 := Lib.hid (HBL4.out.trans (HB9.out.mono HBL4.out.size))
    have HC9 := Lib.hid (HC1.out.below (HB4.out.trans (HB9.out.mono HB4.out.size)))
    have HKT := Lib.hid (HK6d.out.keeps (HB9.out.block _ HK6d.out.lt))
    have HML := Lib.hid (cv_len HCO.out)
    have hrn2 : (rn2 : Int) ≤ 256 := by have := HML.out; omega
    obtain ⟨cnt, HCNT⟩ : ∃ f : Nat → Nat, Hid (f = fun k => (tabFrom (convT (cset cl xa xb)) 0 k).length) := ⟨_, Lib.hid rfl⟩
    have HC256 : Hid (cnt 256 = rn2) := Lib.hid (by
     rw [HCNT.out, HRN.out]
     have h := tab_of HCO.out
     unfold tabOf at h
     show (tabFrom (convT (cset cl xa xb)) 0 256).length = _
     rw [h])
    have HCS : Hid (∀ k, cnt (k + 1) = cnt k + (if convT (cset cl xa xb) (k : Int) = (k : Int) then 0 else 1)) := Lib.hid fun k => by
     rw [HCNT.out]
     show (tabFrom (convT (cset cl xa xb)) 0 (k + 1)).length = (tabFrom (convT (cset cl xa xb)) 0 k).length + _
     rw [tab_snoc, List.length_append, Nat.zero_add]
     split <;> rfl
    have HCLE : Hid (∀ k, cnt k ≤ k) := Lib.hid fun k => by rw [HCNT.out]; exact tab_len _ k 0
    have HC0 : Hid (cnt 0 = 0) := Lib.hid (by rw [HCNT.out]; rfl)
    clear hrn HR9 HP9 HK69 HK89 HL69 HL89 HB9 HBL4 HK6d HT1 HOV HFV HC1 HCNT HBL1
    dsimp only
    go_wp2_with fail
    go_loopw [22, 23] (fun m i wr => ∃ k : Nat, k ≤ 256 ∧ i = .int .i64 k ∧ m = .int .i64 (cnt k) ∧ Hid (Below W9.heap.size W9 wr)) (fun _ i _ => 256 - (intOf i).toNat)
    case atStart => exact ⟨0, by omega, rfl, by rw [HC0.out]; rfl, Lib.hid (Below.refl _ _)⟩
    case round =>
     obtain ⟨k, hk, rfl, rfl, HB⟩ := hrel
     by_cases hlt : k < 256
     ·have HBr := Lib.hid (HBL9.out.trans (HB.out.mono HBL9.out.size))
      have HKr := Lib.hid (HKT.out.call HB.out)
      have x5 := HKr.out.c 5 (.slice ca1 cn1 cc1) rfl
      have hk0 : (0 : Int) ≤ (k : Int) := by omega
      have hk1 : (k : Int) < 256 := by omega
      have hk2 : (k : Int) + 1 ≤ 256 := by omega
      have hq0 : (0 : Int) ≤ (cnt k : Int) := by omega
      have hq1 : (cnt k : Int) + 1 ≤ 256 := by have := HCLE.out k; omega
      have hcc := HC9.out.below HB.out
      have HCV2 := Lib.hid (r1_convert ca1 cn1 cc1 (cset cl xa xb) k wr hcc.len (by rw [hcc.len]; have := HML.out; omega) hcc.prs HCP.out hk0 (by omega))
      have HST := Lib.hid (HCS.out k)
      clear hcc
      generalize convT (cset cl xa xb) (k : Int) = cvk at *
      go_wp2_with fail
      refine HCV2.out.mono ?_; rintro e w6 ⟨rfl, hB6⟩
      have HB6 := Lib.hid (HB.out.trans (hB6.mono HB.out.size))
      clear hB6
      by_cases hc : cvk = (k : Int)
      ·have t1 : (cvk != (k : Int)) = false := by simp [hc]
       have HE : Hid (cnt (k + 1) = cnt k) := Lib.hid (by rw [HST.out, if_pos hc, Nat.add_zero])
       clear hc
       go_wp2_with fail
       go_roundw
       case rel => exact ⟨k + 1, by omega, by go_num, by rw [HE.out], HB6⟩
       case measure => simp [intOf] <;> omega
      ·have t1 : (cvk != (k : Int)) = true := by simp [hc]
       have HE : Hid (cnt (k + 1) = cnt k + 1) := Lib.hid (by rw [HST.out, if_neg hc])
       clear hc
       go_wp2_with fail
       go_roundw
       case rel => exact ⟨k + 1, by omega, by go_num, by rw [HE.out]; go_num, HB6⟩
       case measure => simp [intOf] <;> omega
     ·have hk256 : k = 256 := by omega
      subst hk256
      rw [HC256.out]
      have t1 : ((rn2 : Int) == (rn2 : Int)) = true := by simp
      have HBr := Lib.hid (HBL9.out.trans (HB.out.mono HBL9.out.size))
      go_wp2_with fail
      refine (law_example _).mono ?_; rintro e w7 ⟨rfl, hB7⟩
      have HB7 := Lib.hid (HBr.out.trans (hB7.mono HBr.out.size))
      go_wp2_with fail
      go_ret
      exact ⟨rfl, HB7.out⟩
  ·have t1 : (xa != xc) = true := by simp [hac]
   rw [if_neg (fun e => hac e.symm)]
   have t2 : (convT cl xc != convT cl xc) = false := by simp
   go_wp2_with fail
   have HCL2 : Hid (∀ X g, Below w4.heap.size w4 X → TmsAt X.heap.size X (some ⟨g, 0, none⟩) [.mk 0 0 ⟨#[]⟩ [], .mk 0 1 ⟨#[]⟩ []] → Calls Tryz.prog 30 #[.agg #[.slice oa on1 oc1, .int .i64 q, .int .i64 u, .bool c, .bool d, .slice ca1 cn1 cc1], .agg #[.int .i64 3, .int .i64 0, .string ⟨#[99, 117, 114, 114, 101, 110, 116, 95, 99, 104, 97, 114, 95, 99, 111, 110, 118, 101, 114, 115, 105, 111, 110]⟩, .slice (some ⟨g, 0, none⟩) 2 2]] X fun e w' => ∃ v, e = .returned v ∧ ((∃ r : RV, v = r.val ∧ ResAny X.heap.size w'.heap.size w' r (.ok ⟨l, ⟨q, u, c, d⟩, cset cl xa xb⟩ ((cset cl xa xb).map cvAns))) ∧ Below X.heap.size X w')) := Lib.hid fun X g hX hT => by
    have hX1 := HB4.out.trans (hX.mono HB4.out.size)
    have hc := HC1.out.below hX1
    exact (call_convs oa on1 oc1 q u c d ca1 cn1 cc1 (some ⟨g, 0, none⟩) 2 l (cset cl xa xb) X (HT1.out.below hX1) HOV.out HFV.out HCP.out hc.len hc.prs hc.nil hT).mono fun e w' h => by
     obtain ⟨r, he, hB, hr⟩ := h
     exact ⟨_, he, ⟨r, rfl, ResOk.of hr⟩, hB⟩
   have HCALL := HCL2
   have HVA0 : Hid (∀ X, Calls Tryz.prog 40 #[.int .i64 0] X fun e w' => ∃ v, e = .returned v ∧ (v = .agg #[.int .i64 0, .int .i64 0, .string ⟨#[]⟩, .slice none 0 0] ∧ Below X.heap.size X w')) := Lib.hid fun X => (law_variable 0 X).mono fun e w' h => ⟨_, h.1, rfl, h.2⟩
   have HVA1 : Hid (∀ X, Calls Tryz.prog 40 #[.int .i64 1] X fun e w' => ∃ v, e = .returned v ∧ (v = .agg #[.int .i64 0, .int .i64 1, .string ⟨#[]⟩, .slice none 0 0] ∧ Below X.heap.size X w')) := Lib.hid fun X => (law_variable 1 X).mono fun e w' h => ⟨_, h.1, rfl, h.2⟩
   have HGOAL : Hid (∀ X g, Calls Tryz.prog 35 #[.string ⟨#[99, 117, 114, 114, 101, 110, 116, 95, 99, 104, 97, 114, 95, 99, 111, 110, 118, 101, 114, 115, 105, 111, 110]⟩, .slice (some ⟨g, 0, none⟩) 2 2] X fun e w' => ∃ v, e = .returned v ∧ (v = .agg #[.int .i64 3, .int .i64 0, .string ⟨#[99, 117, 114, 114, 101, 110, 116, 95, 99, 104, 97, 114, 95, 99, 111, 110, 118, 101, 114, 115, 105, 111, 110]⟩, .slice (some ⟨g, 0, none⟩) 2 2] ∧ Below X.heap.size X w')) := Lib.hid fun X g => (law_goal _ _ _ _ X).mono fun e w' h => ⟨_, h.1, rfl, h.2⟩
   have x_0 := HK6d.out.c 0 (.slice oa on1 oc1) rfl
   have x_1 := HK6d.out.c 1 (.int .i64 q) rfl
   have x_2 := HK6d.out.c 2 (.int .i64 u) rfl
   have x_3 := HK6d.out.c 3 (.bool c) rfl
   have x_4 := HK6d.out.c 4 (.bool d) rfl
   have x_5 := HK6d.out.c 5 (.slice ca1 cn1 cc1) rfl
   have xl := HK6d.out.lt
   rename_i K9 hK9
   refine wp_region_any (by kernel_rfl) ?_
   refine wpAny_inv (fun S a X => ∃ (g1 P Q e6 e8 : Nat) (r : RV), a = (⟨#[.agg #[.slice OA on oc, .int .i64 q, .int .i64 u, .bool c, .bool d, .slice CA cn cc], .int .u8 xa, .int .u8 xb, .int .u8 xc, .pointer (some ⟨w.heap.size, 0, none⟩), undef, undef, undef, .bool false, .pointer (some ⟨eT, 0, none⟩), .slice ra 1 rc, .pointer (some ⟨eU, 0, none⟩), if S 16 = true then .int .i64 r.er else .int .i64 0, .int .u8 xb, .bool true, .int .u8 (convT cl xc), .bool true, .int .u8 (convT cl xc), .bool true, if S 11 = true then .pointer (some ⟨e6, 0, none⟩) else undef, if S 14 = true then .slice r.ra r.rn r.rc else undef, if S 12 = true then .pointer (some ⟨e8, 0, none⟩) else undef, undef, undef, .tuple #[.agg #[.slice oa on1 oc1, .int .i64 q, .int .i64 u, .bool c, .bool d, .slice ca1 cn1 cc1], .slice ra 1 rc, .agg #[.int .i64 bk, .int .i64 bn, .string bs, .slice ba bz bc], .int .i64 0], .agg #[.slice OA on oc, .int .i64 q, .int .i64 u, .bool c, .bool d, .slice CA cn cc], .int .u8 xa, .agg #[.int .i64 2, .int .i64 0, .string (chS xa), .slice none 0 0], .int .u8 xb, .agg #[.int .i64 2, .int .i64 0, .string (chS xb), .slice none 0 0], .slice (some ⟨gX, 0, none⟩) 2 2, .agg #[.int .i64 3, .int .i64 0, .string ⟨#[99, 104, 97, 114, 95, 99, 111, 110, 118, 101, 114, 115, 105, 111, 110]⟩, .slice (some ⟨gX, 0, none⟩) 2 2], .tuple #[.agg #[.slice oa on1 oc1, .int .i64 q, .int .i64 u, .bool c, .bool d, .slice ca1 cn1 cc1], .slice ra 1 rc, .agg #[.int .i64 bk, .int .i64 bn, .string bs, .slice ba bz bc], .int .i64 0], .agg #[.slice oa on1 oc1, .int .i64 q, .int .i64 u, .bool c, .bool d, .slice ca1 cn1 cc1], .slice ra 1 rc, .agg #[.int .i64 bk, .int .i64 bn, .string bs, .slice ba bz bc], .int .i64 0, .int .i64 0, .bool false, undef, undef, undef, undef, undef, undef, .tuple #[.int .u8 xb, .bool true], .agg #[.slice oa on1 oc1, .int .i64 q, .int .i64 u, .bool c, .bool d, .slice ca1 cn1 cc1], .int .u8 xa, .tuple #[.int .u8 xb, .bool true], .int .u8 xb, .bool true, .tuple #[.int .u8 (convT cl xc), .bool true], .agg #[.slice OA on oc, .int .i64 q, .int .i64 u, .bool c, .bool d, .slice CA cn cc], .int .u8 xc, .tuple #[.int .u8 (convT cl xc), .bool true], .int .u8 (convT cl xc), .bool true, .tuple #[.int .u8 (convT cl xc), .bool true], .agg #[.slice oa on1 oc1, .int .i64 q, .int .i64 u, .bool c, .bool d, .slice ca1 cn1 cc1], .int .u8 xc, .tuple #[.int .u8 (convT cl xc), .bool true], .int .u8 (convT cl xc), .bool true, .slice ra 1 rc, .int .i64 1, .bool false, .bool false, .bool true, .bool false, .bool false, .bool false, .bool true, .bool false, .bool false, .bool false, .bool true, .bool false, .bool false, .bool false, .int .u8 xb, .int .u8 xb, .bool false, .bool false, .bool false, .int .u8 xa, .int .u8 xc, .bool true, .bool true, .int .u8 (convT cl xc), .int .u8 (convT cl xc), .bool false, .bool false, .bool false, if S 6 = true then .tuple #[.agg #[.slice r.oa r.on r.oc, .int .i64 r.q, .int .i64 r.u, .bool r.c, .bool r.d, .slice r.ca r.cn r.cc], .slice r.ra r.rn r.rc, .agg #[.int .i64 r.bk, .int .i64 r.bn, .string r.bs, .slice r.ba r.bz r.bc], .int .i64 r.er] else undef, if S 0 = true then .agg #[.slice oa on1 oc1, .int .i64 q, .int .i64 u, .bool c, .bool d, .slice ca1 cn1 cc1] else undef, if S 1 = true then .agg #[.int .i64 0, .int .i64 0, .string ⟨#[]⟩, .slice none 0 0] else undef, if S 2 = true then .agg #[.int .i64 0, .int .i64 1, .string ⟨#[]⟩, .slice none 0 0] else undef, if S 3 = true then .slice (some ⟨g1, 0, none⟩) 2 2 else undef, if S 4 = true then .agg #[.int .i64 3, .int .i64 0, .string ⟨#[99, 117, 114, 114, 101, 110, 116, 95, 99, 104, 97, 114, 95, 99, 111, 110, 118, 101, 114, 115, 105, 111, 110]⟩, .slice (some ⟨g1, 0, none⟩) 2 2] else undef, if S 5 = true then .tuple #[.agg #[.slice r.oa r.on r.oc, .int .i64 r.q, .int .i64 r.u, .bool r.c, .bool r.d, .slice r.ca r.cn r.cc], .slice r.ra r.rn r.rc, .agg #[.int .i64 r.bk, .int .i64 r.bn, .string r.bs, .slice r.ba r.bz r.bc], .int .i64 r.er] else undef, if S 7 = true then .agg #[.slice r.oa r.on r.oc, .int .i64 r.q, .int .i64 r.u, .bool r.c, .bool r.d, .slice r.ca r.cn r.cc] else undef, if S 8 = true then .slice r.ra r.rn r.rc else undef, if S 9 = true then .agg #[.int .i64 r.bk, .int .i64 r.bn, .string r.bs, .slice r.ba r.bz r.bc] else undef, if S 10 = true then .int .i64 r.er else undef, undef, undef, undef, undef, undef, undef, undef, undef, undef, undef, undef, undef, undef, undef, undef, undef, undef, undef, undef, undef, undef, undef, undef], []⟩ : Act) ∧ Below w4.heap.size w4 X ∧ (S 3 = true → S 5 = false → TmsAt X.heap.size X (some ⟨g1, 0, none⟩) [.mk 0 0 ⟨#[]⟩ [], .mk 0 1 ⟨#[]⟩ []]) ∧ (S 5 = true → ResAny P Q X r (.ok ⟨l, ⟨q, u, c, d⟩, cset cl xa xb⟩ ((cset cl xa xb).map cvAns)) ∧ w4.heap.size ≤ P) ∧ (S 11 = true → w4.heap.size ≤ e6 ∧ Bk X e6 (if S 13 = true then [.slice r.oa r.on r.oc, .int .i64 r.q, .int .i64 r.u, .bool r.c, .bool r.d, .slice r.ca r.cn r.cc] else [.slice none 0 0, .int .i64 0, .int .i64 0, .bool false, .bool false, .slice none 0 0]) ∧ (S 5 = true → e6 < P ∨ Q ≤ e6)) ∧ (S 12 = true → w4.heap.size ≤ e8 ∧ Bk X e8 (if S 15 = true then [.int .i64 r.bk, .int .i64 r.bn, .string r.bs, .slice r.ba r.bz r.bc] else [.int .i64 0, .int .i64 0, .string ⟨#[]⟩, .slice none 0 0]) ∧ (S 5 = true → e8 < P ∨ Q ≤ e8)) ∧ (S 11 = true → S 12 = true → e6 ≠ e8) ∧ (S 5 = false → S 6 = false ∧ S 7 = false ∧ S 8 = false ∧ S 9 = false ∧ S 10 = false ∧ S 13 = false ∧ S 14 = false ∧ S 15 = false ∧ S 16 = false) ∧ (S 4 = true → S 3 = true) ∧ (S 13 = true → S 11 = true) ∧ (S 15 = true → S 12 = true)) (by kernel_rfl) ?stepkb ?finkb 17 (fun _ => false) _ _ (by decide) ⟨0, 0, 0, 0, 0, ⟨none, 0, 0, 0, 0, false, false, none, 0, 0, none, 0, 0, 0, 0, ⟨#[]⟩, none, 0, 0, 0⟩, rfl, (Below.refl _ w4).drew, fun h => (by cases h), fun h => (by cases h), fun h => (by cases h), fun h => (by cases h), fun h => (by cases h), fun _ => ⟨rfl, rfl, rfl, rfl, rfl, rfl, rfl, rfl, rfl⟩, fun h => (by cases h), fun h => (by cases h), fun h => (by cases h)⟩
   case stepkb =>
    rintro S j o a X ho hs hp ⟨g1, P, Q, e6, e8, r, rfl, hB, hrow, hres, h6, h8, hne, hd, igr, i6, i8⟩
    have hlt : j < 17 := (Array.getElem?_eq_some_iff.1 ho).1
    rcases (show j = 0 ∨ j = 1 ∨ j = 2 ∨ j = 3 ∨ j = 4 ∨ j = 5 ∨ j = 6 ∨ j = 7 ∨ j = 8 ∨ j = 9 ∨ j = 10 ∨ j = 11 ∨ j = 12 ∨ j = 13 ∨ j = 14 ∨ j = 15 ∨ j = 16 by omega) with rfl | rfl | rfl | rfl | rfl | rfl | rfl | rfl | rfl | rfl | rfl | rfl | rfl | rfl | rfl | rfl | rfl
    ·cases ho
     have z0 : X.cell? ⟨eT, 0, none⟩ = some (.slice oa on1 oc1) := (hB.cell (p := ⟨_, 0, none⟩) xl).trans x_0
     have z1 : X.cell? ⟨eT, 1, none⟩ = some (.int .i64 q) := (hB.cell (p := ⟨_, 1, none⟩) xl).trans x_1
     have z2 : X.cell? ⟨eT, 2, none⟩ = some (.int .i64 u) := (hB.cell (p := ⟨_, 2, none⟩) xl).trans x_2
     have z3 : X.cell? ⟨eT, 3, none⟩ = some (.bool c) := (hB.cell (p := ⟨_, 3, none⟩) xl).trans x_3
     have z4 : X.cell? ⟨eT, 4, none⟩ = some (.bool d) := (hB.cell (p := ⟨_, 4, none⟩) xl).trans x_4
     have z5 : X.cell? ⟨eT, 5, none⟩ = some (.slice ca1 cn1 cc1) := (hB.cell (p := ⟨_, 5, none⟩) xl).trans x_5
     rw [if_pos (show Region.wanted _ _ = true from rfl)]
     refine wp_val (v := .agg #[.slice oa on1 oc1, .int .i64 q, .int .i64 u, .bool c, .bool d, .slice ca1 cn1 cc1]) (w' := X) ?_ ⟨g1, P, Q, e6, e8, r, rfl, hB, hrow, hres, h6, h8, hne, hd, igr, i6, i8⟩
     simp [execOp, go_sem, Act.eval, z0, z1, z2, z3, z4, z5]
    ·cases ho
     rw [if_pos (show Region.wanted _ _ = true from rfl)]
     refine wp_cal ?_ (HVA0.out X) (fun v w' hR => ?_)
     ·simp [execOp, go_sem, Act.eval]
      try rfl
     ·obtain ⟨rfl, hB'⟩ := hR
      exact ⟨g1, P, Q, e6, e8, r, rfl, hB.trans (hB'.mono hB.size), fun h h2 => ((hrow h h2).keep hB').mono hB'.size, fun h => ⟨(hres h).1.call hB', (hres h).2⟩, fun h => ⟨(h6 h).1, (h6 h).2.1.call hB', (h6 h).2.2⟩, fun h => ⟨(h8 h).1, (h8 h).2.1.call hB', (h8 h).2.2⟩, hne, hd, igr, i6, i8⟩
    ·cases ho
     rw [if_pos (show Region.wanted _ _ = true from rfl)]
     refine wp_cal ?_ (HVA1.out X) (fun v w' hR => ?_)
     ·simp [execOp, go_sem, Act.eval]
      try rfl
     ·obtain ⟨rfl, hB'⟩ := hR
      exact ⟨g1, P, Q, e6, e8, r, rfl, hB.trans (hB'.mono hB.size), fun h h2 => ((hrow h h2).keep hB').mono hB'.size, fun h => ⟨(hres h).1.call hB', (hres h).2⟩, fun h => ⟨(h6 h).1, (h6 h).2.1.call hB', (h6 h).2.2⟩, fun h => ⟨(h8 h).1, (h8 h).2.1.call hB', (h8 h).2.2⟩, hne, hd, igr, i6, i8⟩
    ·cases ho
     have s1 : S 1 = true := hp ⟨1, .data⟩ (by simp) rfl
     have s2 : S 2 = true := hp ⟨2, .data⟩ (by simp) rfl
     rw [if_pos (show Region.wanted _ _ = true from rfl)]
     have dg : S 4 = false := by
      cases h : S 4
      ·rfl
      ·exact absurd (igr h) (by rw [hs]; simp)
     have ug : updF S 3 4 = false := dg
     have hB' := (Below.refl X.heap.size X).alloc (Nat.le_refl _) (.cells #[.int .i64 0, .int .i64 0, .string ⟨#[]⟩, .slice none 0 0, .int .i64 0, .int .i64 1, .string ⟨#[]⟩, .slice none 0 0] 26)
     have hrw := TmsK.rows (K := fun b => b < X.heap.size + 1) (w := X) (rs := [(.mk 0 0 ⟨#[]⟩ [], none, 0), (.mk 0 1 ⟨#[]⟩ [], none, 0)]) (e := 26) (by omega) (by simp [maxLen]) (fun x hx => by
      simp only [List.mem_cons, List.mem_nil_iff, or_false] at hx
      rcases hx with rfl | rfl <;> exact TmsK.nil)
     refine wp_val (v := .slice (some ⟨X.heap.size, 0, none⟩) 2 2) (w' := X.alloc (.cells #[.int .i64 0, .int .i64 0, .string ⟨#[]⟩, .slice none 0 0, .int .i64 0, .int .i64 1, .string ⟨#[]⟩, .slice none 0 0] 26)) ?_ ⟨X.heap.size, P, Q, e6, e8, r, ?_, hB.trans (hB'.mono hB.size), fun _ _ => TmsK.at' hrw, fun h => ⟨(hres h).1.call hB', (hres h).2⟩, fun h => ⟨(h6 h).1, (h6 h).2.1.call hB', (h6 h).2.2⟩, fun h => ⟨(h8 h).1, (h8 h).2.1.call hB', (h8 h).2.2⟩, hne, hd, fun _ => rfl, i6, i8⟩
     ·simp [execOp, go_sem, Act.eval, s1, s2]
     ·simp only [dg, ug, Bool.false_eq_true, if_false]
      rfl
    ·cases ho
     have s3 : S 3 = true := hp ⟨3, .data⟩ (by simp) rfl
     rw [if_pos (show Region.wanted _ _ = true from rfl)]
     refine wp_cal ?_ (HGOAL.out X g1) (fun v w' hR => ?_)
     ·simp [execOp, go_sem, Act.eval, s3]
      try rfl
     ·obtain ⟨rfl, hB'⟩ := hR
      exact ⟨g1, P, Q, e6, e8, r, rfl, hB.trans (hB'.mono hB.size), fun h h2 => ((hrow h h2).keep hB').mono hB'.size, fun h => ⟨(hres h).1.call hB', (hres h).2⟩, fun h => ⟨(h6 h).1, (h6 h).2.1.call hB', (h6 h).2.2⟩, fun h => ⟨(h8 h).1, (h8 h).2.1.call hB', (h8 h).2.2⟩, hne, hd, fun _ => s3, i6, i8⟩
    ·cases ho
     have s0 : S 0 = true := hp ⟨0, .data⟩ (by simp) rfl
     have s4 : S 4 = true := hp ⟨4, .data⟩ (by simp) rfl
     rw [if_pos (show Region.wanted _ _ = true from rfl)]
     have hrw0 := igr s4
     obtain ⟨d6, d7, d8, d9, d10, d13, d14, d15, d16⟩ := hd hs
     refine wp_cal ?_ (HCALL.out X g1 hB (hrow hrw0 hs)) (fun v w' hR => ?_)
     ·simp [execOp, go_sem, Act.eval, s0, s4]
      try rfl
     ·obtain ⟨⟨r', rfl, hO⟩, hB'⟩ := hR
      have K6 : ∀ h : S 11 = true, Bk w' e6 (if updF S 5 13 = true then [.slice r'.oa r'.on r'.oc, .int .i64 r'.q, .int .i64 r'.u, .bool r'.c, .bool r'.d, .slice r'.ca r'.cn r'.cc] else [.slice none 0 0, .int .i64 0, .int .i64 0, .bool false, .bool false, .slice none 0 0]) := fun h => by
       have hk := (h6 h).2.1.call hB'
       rw [if_neg (by rw [d13]; simp)] at hk
       rw [if_neg (show ¬ updF S 5 13 = true from fun hh => by rw [show updF S 5 13 = S 13 from rfl, d13] at hh; cases hh)]
       exact hk
      have K8 : ∀ h : S 12 = true, Bk w' e8 (if updF S 5 15 = true then [.int .i64 r'.bk, .int .i64 r'.bn, .string r'.bs, .slice r'.ba r'.bz r'.bc] else [.int .i64 0, .int .i64 0, .string ⟨#[]⟩, .slice none 0 0]) := fun h => by
       have hk := (h8 h).2.1.call hB'
       rw [if_neg (by rw [d15]; simp)] at hk
       rw [if_neg (show ¬ updF S 5 15 = true from fun hh => by rw [show updF S 5 15 = S 15 from rfl, d15] at hh; cases hh)]
       exact hk
      refine ⟨g1, X.heap.size, w'.heap.size, e6, e8, r', ?_, hB.trans (hB'.mono hB.size), fun _ h => (by cases h), fun _ => ⟨hO, hB.size⟩, fun h => ⟨(h6 h).1, K6 h, fun _ => .inl (h6 h).2.1.lt⟩, fun h => ⟨(h8 h).1, K8 h, fun _ => .inl (h8 h).2.1.lt⟩, hne, (fun h => nomatch (show true = false from h)), igr, i6, i8⟩
      have u6 : updF S 5 6 = false := d6
      have u7 : updF S 5 7 = false := d7
      have u8 : updF S 5 8 = false := d8
      have u9 : updF S 5 9 = false := d9
      have u10 : updF S 5 10 = false := d10
      have u14 : updF S 5 14 = false := d14
      have u16 : updF S 5 16 = false := d16
      simp only [d6, u6, d7, u7, d8, u8, d9, u9, d10, u10, d14, u14, d16, u16, Bool.false_eq_true, if_false]
      rfl
    ·cases ho
     have s5 : S 5 = true := hp ⟨5, .data⟩ (by simp) rfl
     rw [if_pos (show Region.wanted _ _ = true from rfl)]
     refine wp_val (v := .tuple #[.agg #[.slice r.oa r.on r.oc, .int .i64 r.q, .int .i64 r.u, .bool r.c, .bool r.d, .slice r.ca r.cn r.cc], .slice r.ra r.rn r.rc, .agg #[.int .i64 r.bk, .int .i64 r.bn, .string r.bs, .slice r.ba r.bz r.bc], .int .i64 r.er]) (w' := X) ?_ ⟨g1, P, Q, e6, e8, r, rfl, hB, hrow, hres, h6, h8, hne, fun h => absurd (show S 5 = false from h) (by rw [s5]; simp), igr, i6, i8⟩
     simp [execOp, go_sem, Act.eval, s5]
    ·cases ho
     have s6 : S 6 = true := hp ⟨6, .data⟩ (by simp) rfl
     have s5 : S 5 = true := by
      cases h : S 5
      ·have := (hd h).1
       rw [s6] at this; cases this
      ·rfl
     rw [if_pos (show Region.wanted _ _ = true from rfl)]
     refine wp_val (v := .agg #[.slice r.oa r.on r.oc, .int .i64 r.q, .int .i64 r.u, .bool r.c, .bool r.d, .slice r.ca r.cn r.cc]) (w' := X) ?_ ⟨g1, P, Q, e6, e8, r, rfl, hB, hrow, hres, h6, h8, hne, fun h => absurd (show S 5 = false from h) (by rw [s5]; simp), igr, i6, i8⟩
     simp [execOp, go_sem, Act.eval, s6]
    ·cases ho
     have s6 : S 6 = true := hp ⟨6, .data⟩ (by simp) rfl
     have s5 : S 5 = true := by
      cases h : S 5
      ·have := (hd h).1
       rw [s6] at this; cases this
      ·rfl
     rw [if_pos (show Region.wanted _ _ = true from rfl)]
     refine wp_val (v := .slice r.ra r.rn r.rc) (w' := X) ?_ ⟨g1, P, Q, e6, e8, r, rfl, hB, hrow, hres, h6, h8, hne, fun h => absurd (show S 5 = false from h) (by rw [s5]; simp), igr, i6, i8⟩
     simp [execOp, go_sem, Act.eval, s6]
    ·cases ho
     have s6 : S 6 = true := hp ⟨6, .data⟩ (by simp) rfl
     have s5 : S 5 = true := by
      cases h : S 5
      ·have := (hd h).1
       rw [s6] at this; cases this
      ·rfl
     rw [if_pos (show Region.wanted _ _ = true from rfl)]
     refine wp_val (v := .agg #[.int .i64 r.bk, .int .i64 r.bn, .string r.bs, .slice r.ba r.bz r.bc]) (w' := X) ?_ ⟨g1, P, Q, e6, e8, r, rfl, hB, hrow, hres, h6, h8, hne, fun h => absurd (show S 5 = false from h) (by rw [s5]; simp), igr, i6, i8⟩
     simp [execOp, go_sem, Act.eval, s6]
    ·cases ho
     have s6 : S 6 = true := hp ⟨6, .data⟩ (by simp) rfl
     have s5 : S 5 = true := by
      cases h : S 5
      ·have := (hd h).1
       rw [s6] at this; cases this
      ·rfl
     rw [if_pos (show Region.wanted _ _ = true from rfl)]
     refine wp_val (v := .int .i64 r.er) (w' := X) ?_ ⟨g1, P, Q, e6, e8, r, rfl, hB, hrow, hres, h6, h8, hne, fun h => absurd (show S 5 = false from h) (by rw [s5]; simp), igr, i6, i8⟩
     simp [execOp, go_sem, Act.eval, s6]
    ·cases ho
     rw [if_pos (show Region.wanted _ _ = true from rfl)]
     have hB' := (Below.refl X.heap.size X).alloc (Nat.le_refl _) (.cells #[.slice none 0 0, .int .i64 0, .int .i64 0, .bool false, .bool false, .slice none 0 0] 43)
     have KN : Bk (X.alloc (.cells #[.slice none 0 0, .int .i64 0, .int .i64 0, .bool false, .bool false, .slice none 0 0] 43)) X.heap.size (if updF S 11 13 = true then [.slice r.oa r.on r.oc, .int .i64 r.q, .int .i64 r.u, .bool r.c, .bool r.d, .slice r.ca r.cn r.cc] else [.slice none 0 0, .int .i64 0, .int .i64 0, .bool false, .bool false, .slice none 0 0]) := by
      rw [if_neg (show ¬ updF S 11 13 = true from fun hh => absurd (i6 hh) (by rw [hs]; simp))]
      exact Bk.new X [.slice none 0 0, .int .i64 0, .int .i64 0, .bool false, .bool false, .slice none 0 0] 43
     refine wp_val (v := .pointer (some ⟨X.heap.size, 0, none⟩)) (w' := X.alloc (.cells #[.slice none 0 0, .int .i64 0, .int .i64 0, .bool false, .bool false, .slice none 0 0] 43)) ?_ ⟨g1, P, Q, X.heap.size, e8, r, rfl, hB.alloc hB.size _, fun h h2 => ((hrow h h2).keep hB').mono hB'.size, fun h => ⟨(hres h).1.call hB', (hres h).2⟩, fun _ => ⟨hB.size, KN, fun h => .inr (hres h).1.qx⟩, fun h => ⟨(h8 h).1, (h8 h).2.1.call hB', (h8 h).2.2⟩, fun _ h => Nat.ne_of_gt (h8 h).2.1.lt, hd, igr, fun _ => rfl, i8⟩
     simp [execOp, go_sem]
    ·cases ho
     rw [if_pos (show Region.wanted _ _ = true from rfl)]
     have hB' := (Below.refl X.heap.size X).alloc (Nat.le_refl _) (.cells #[.int .i64 0, .int .i64 0, .string ⟨#[]⟩, .slice none 0 0] 26)
     have KN : Bk (X.alloc (.cells #[.int .i64 0, .int .i64 0, .string ⟨#[]⟩, .slice none 0 0] 26)) X.heap.size (if updF S 12 15 = true then [.int .i64 r.bk, .int .i64 r.bn, .string r.bs, .slice r.ba r.bz r.bc] else [.int .i64 0, .int .i64 0, .string ⟨#[]⟩, .slice none 0 0]) := by
      rw [if_neg (show ¬ updF S 12 15 = true from fun hh => absurd (i8 hh) (by rw [hs]; simp))]
      exact Bk.new X [.int .i64 0, .int .i64 0, .string ⟨#[]⟩, .slice none 0 0] 26
     refine wp_val (v := .pointer (some ⟨X.heap.size, 0, none⟩)) (w' := X.alloc (.cells #[.int .i64 0, .int .i64 0, .string ⟨#[]⟩, .slice none 0 0] 26)) ?_ ⟨g1, P, Q, e6, X.heap.size, r, rfl, hB.alloc hB.size _, fun h h2 => ((hrow h h2).keep hB').mono hB'.size, fun h => ⟨(hres h).1.call hB', (hres h).2⟩, fun h => ⟨(h6 h).1, (h6 h).2.1.call hB', (h6 h).2.2⟩, fun _ => ⟨hB.size, KN, fun h => .inr (hres h).1.qx⟩, fun h _ => Nat.ne_of_lt (h6 h).2.1.lt, hd, igr, i6, fun _ => rfl⟩
     simp [execOp, go_sem]
    ·cases ho
     have s7 : S 7 = true := hp ⟨7, .data⟩ (by simp) rfl
     have s11 : S 11 = true := hp ⟨11, .data⟩ (by simp) rfl
     have s5 : S 5 = true := by
      cases h : S 5
      ·have := (hd h).2.1
       rw [s7] at this; cases this
      ·rfl
     rw [if_pos (show Region.wanted _ _ = true from rfl)]
     have hk := (h6 s11).2.1
     rw [if_neg (by rw [hs]; simp)] at hk
     have NE : ∀ h : S 12 = true, e8 ≠ e6 := fun h => (hne s11 h).symm
     have z0 := hk.c 0 (.slice none 0 0) rfl
     have f0 := hk.f 0
     have z1 := hk.c 1 (.int .i64 0) rfl
     have f1 := hk.f 1
     have z2 := hk.c 2 (.int .i64 0) rfl
     have f2 := hk.f 2
     have z3 := hk.c 3 (.bool false) rfl
     have f3 := hk.f 3
     have z4 := hk.c 4 (.bool false) rfl
     have f4 := hk.f 4
     have z5 := hk.c 5 (.slice none 0 0) rfl
     have f5 := hk.f 5
     refine wp_skp (w' := ((((((X.setCell ⟨e6, 0, none⟩ (.slice r.oa r.on r.oc)).setCell ⟨e6, 1, none⟩ (.int .i64 r.q)).setCell ⟨e6, 2, none⟩ (.int .i64 r.u)).setCell ⟨e6, 3, none⟩ (.bool r.c)).setCell ⟨e6, 4, none⟩ (.bool r.d)).setCell ⟨e6, 5, none⟩ (.slice r.ca r.cn r.cc))) ?_ ⟨g1, P, Q, e6, e8, r, rfl, ((((((hB.setCell (p := ⟨_, _, none⟩) (h6 s11).1 _).setCell (p := ⟨_, _, none⟩) (h6 s11).1 _).setCell (p := ⟨_, _, none⟩) (h6 s11).1 _).setCell (p := ⟨_, _, none⟩) (h6 s11).1 _).setCell (p := ⟨_, _, none⟩) (h6 s11).1 _).setCell (p := ⟨_, _, none⟩) (h6 s11).1 _), fun _ h => absurd (show S 5 = false from h) (by rw [s5]; simp), fun _ => ⟨(hres s5).1.put e6 [.slice none 0 0, .int .i64 0, .int .i64 0, .bool false, .bool false, .slice none 0 0] ((h6 s11).2.2 s5) hk (by intro i s x; rcases i with _ | _ | _ | _ | _ | _ | i <;> simp) (by simp) (fun b hb => by rw [heap_setCell_other _ _ _ _ hb, heap_setCell_other _ _ _ _ hb, heap_setCell_other _ _ _ _ hb, heap_setCell_other _ _ _ _ hb, heap_setCell_other _ _ _ _ hb, heap_setCell_other _ _ _ _ hb]), (hres s5).2⟩, fun _ => ⟨(h6 s11).1, by rw [if_pos (show updF S 13 13 = true from rfl)]; exact ((((((hk.set 0 (.slice r.oa r.on r.oc)).set 1 (.int .i64 r.q)).set 2 (.int .i64 r.u)).set 3 (.bool r.c)).set 4 (.bool r.d)).set 5 (.slice r.ca r.cn r.cc)), (h6 s11).2.2⟩, fun h => ⟨(h8 h).1, (((((((h8 h).2.1.other (NE h) 0 (.slice r.oa r.on r.oc)).other (NE h) 1 (.int .i64 r.q)).other (NE h) 2 (.int .i64 r.u)).other (NE h) 3 (.bool r.c)).other (NE h) 4 (.bool r.d)).other (NE h) 5 (.slice r.ca r.cn r.cc)), (h8 h).2.2⟩, hne, fun h => absurd (show S 5 = false from h) (by rw [s5]; simp), igr, fun _ => s11, i8⟩
     simp [execOp, go_sem, Act.eval, s11, s7, z0, f0, z1, f1, z2, f2, z3, f3, z4, f4, z5, f5]
    ·cases ho
     have s8 : S 8 = true := hp ⟨8, .data⟩ (by simp) rfl
     have s5 : S 5 = true := by
      cases h : S 5
      ·have := (hd h).2.2.1
       rw [s8] at this; cases this
      ·rfl
     rw [if_pos (show Region.wanted _ _ = true from rfl)]
     refine wp_val (v := .slice r.ra r.rn r.rc) (w' := X) ?_ ⟨g1, P, Q, e6, e8, r, rfl, hB, hrow, hres, h6, h8, hne, fun h => absurd (show S 5 = false from h) (by rw [s5]; simp), igr, i6, i8⟩
     simp [execOp, go_sem, Act.eval, s8]
    ·cases ho
     have s9 : S 9 = true := hp ⟨9, .data⟩ (by simp) rfl
     have s12 : S 12 = true := hp ⟨12, .data⟩ (by simp) rfl
     have s5 : S 5 = true := by
      cases h : S 5
      ·have := (hd h).2.2.2.1
       rw [s9] at this; cases this
      ·rfl
     rw [if_pos (show Region.wanted _ _ = true from rfl)]
     have hk := (h8 s12).2.1
     rw [if_neg (by rw [hs]; simp)] at hk
     have NE : ∀ h : S 11 = true, e6 ≠ e8 := fun h => hne h s12
     have z0 := hk.c 0 (.int .i64 0) rfl
     have f0 := hk.f 0
     have z1 := hk.c 1 (.int .i64 0) rfl
     have f1 := hk.f 1
     have z2 := hk.c 2 (.string ⟨#[]⟩) rfl
     have f2 := hk.f 2
     have z3 := hk.c 3 (.slice none 0 0) rfl
     have f3 := hk.f 3
     refine wp_skp (w' := ((((X.setCell ⟨e8, 0, none⟩ (.int .i64 r.bk)).setCell ⟨e8, 1, none⟩ (.int .i64 r.bn)).setCell ⟨e8, 2, none⟩ (.string r.bs)).setCell ⟨e8, 3, none⟩ (.slice r.ba r.bz r.bc))) ?_ ⟨g1, P, Q, e6, e8, r, rfl, ((((hB.setCell (p := ⟨_, _, none⟩) (h8 s12).1 _).setCell (p := ⟨_, _, none⟩) (h8 s12).1 _).setCell (p := ⟨_, _, none⟩) (h8 s12).1 _).setCell (p := ⟨_, _, none⟩) (h8 s12).1 _), fun _ h => absurd (show S 5 = false from h) (by rw [s5]; simp), fun _ => ⟨(hres s5).1.put e8 [.int .i64 0, .int .i64 0, .string ⟨#[]⟩, .slice none 0 0] ((h8 s12).2.2 s5) hk (by intro i s x; rcases i with _ | _ | _ | _ | i <;> simp) (by simp) (fun b hb => by rw [heap_setCell_other _ _ _ _ hb, heap_setCell_other _ _ _ _ hb, heap_setCell_other _ _ _ _ hb, heap_setCell_other _ _ _ _ hb]), (hres s5).2⟩, fun h => ⟨(h6 h).1, (((((h6 h).2.1.other (NE h) 0 (.int .i64 r.bk)).other (NE h) 1 (.int .i64 r.bn)).other (NE h) 2 (.string r.bs)).other (NE h) 3 (.slice r.ba r.bz r.bc)), (h6 h).2.2⟩, fun _ => ⟨(h8 s12).1, by rw [if_pos (show updF S 15 15 = true from rfl)]; exact ((((hk.set 0 (.int .i64 r.bk)).set 1 (.int .i64 r.bn)).set 2 (.string r.bs)).set 3 (.slice r.ba r.bz r.bc)), (h8 s12).2.2⟩, hne, fun h => absurd (show S 5 = false from h) (by rw [s5]; simp), igr, i6, fun _ => s12⟩
     simp [execOp, go_sem, Act.eval, s12, s9, z0, f0, z1, f1, z2, f2, z3, f3]
    ·cases ho
     have s10 : S 10 = true := hp ⟨10, .data⟩ (by simp) rfl
     have s5 : S 5 = true := by
      cases h : S 5
      ·have := (hd h).2.2.2.2.1
       rw [s10] at this; cases this
      ·rfl
     rw [if_pos (show Region.wanted _ _ = true from rfl)]
     refine wp_val (v := .int .i64 r.er) (w' := X) ?_ ⟨g1, P, Q, e6, e8, r, rfl, hB, hrow, hres, h6, h8, hne, fun h => absurd (show S 5 = false from h) (by rw [s5]; simp), igr, i6, i8⟩
     simp [execOp, go_sem, Act.eval, s10]
   case finkb =>
    rintro S a W9 hall ⟨g1, P, Q, e6, e8, r, rfl, hB, hrow, hres, h6, h8, hne, hd, igr, i6, i8⟩
    have s0 := hall 0 (show 0 < 17 by omega)
    have s1 := hall 1 (show 1 < 17 by omega)
    have s2 := hall 2 (show 2 < 17 by omega)
    have s3 := hall 3 (show 3 < 17 by omega)
    have s4 := hall 4 (show 4 < 17 by omega)
    have s5 := hall 5 (show 5 < 17 by omega)
    have s6 := hall 6 (show 6 < 17 by omega)
    have s7 := hall 7 (show 7 < 17 by omega)
    have s8 := hall 8 (show 8 < 17 by omega)
    have s9 := hall 9 (show 9 < 17 by omega)
    have s10 := hall 10 (show 10 < 17 by omega)
    have s11 := hall 11 (show 11 < 17 by omega)
    have s12 := hall 12 (show 12 < 17 by omega)
    have s13 := hall 13 (show 13 < 17 by omega)
    have s14 := hall 14 (show 14 < 17 by omega)
    have s15 := hall 15 (show 15 < 17 by omega)
    have s16 := hall 16 (show 16 < 17 by omega)
    have HR9 : Hid (ResOk P Q W9 r ⟨l, ⟨q, u, c, d⟩, cset cl xa xb⟩ ((cset cl xa xb).map cvAns)) := Lib.hid (hres s5).1
    have HP9 := Lib.hid (hres s5).2
    have hk6 := (h6 s11).2.1
    have hk8 := (h8 s12).2.1
    rw [if_pos s13] at hk6
    rw [if_pos s15] at hk8
    have HK69 := Lib.hid hk6
    have HK89 := Lib.hid hk8
    have HL69 := Lib.hid (h6 s11).1
    have HL89 := Lib.hid (h8 s12).1
    have HB9 := Lib.hid hB
    refine hK9 _ _ ?_
    simp only [s0, s1, s2, s3, s4, s5, s6, s7, s8, s9, s10, s11, s12, s14, s16, if_true]
    clear hall hB hrow hres h6 h8 hne hd igr i6 i8 hk6 hk8 hK9 s0 s1 s2 s3 s4 s5 s6 s7 s8 s9 s10 s11 s12 s13 s14 s15 s16 HCALL HCL2 HGOAL HVA0 HVA1 xl x_0 x_1 x_2 x_3 x_4 x_5
    obtain ⟨oa2, on2, oc2, q2, u2, c2, d2, ca2, cn2, cc2, ra2, rn2, rc2, bk2, bn2, bs2, ba2, bz2, bc2, er2⟩ := r
    have her : er2 = 0 := HR9.out.er
    have hrn : rn2 = ((cset cl xa xb).map cvAns).length := HR9.out.rn
    rw [List.length_map] at hrn
    subst her
    have HRN := Lib.hid hrn
    have HBL9 := Lib.hid (HBL4.out.trans (HB9.out.mono HBL4.out.size))
    have HC9 := Lib.hid (HC1.out.below (HB4.out.trans (HB9.out.mono HB4.out.size)))
    have HKT := Lib.hid (HK6d.out.keeps (HB9.out.block _ HK6d.out.lt))
    have HML := Lib.hid (cv_len HCO.out)
    have hrn2 : (rn2 : Int) ≤ 256 := by have := HML.out; omega
    obtain ⟨cnt, HCNT⟩ : ∃ f : Nat → Nat, Hid (f = fun k => (tabFrom (convT (cset cl xa xb)) 0 k).length) := ⟨_, Lib.hid rfl⟩
    have HC256 : Hid (cnt 256 = rn2) := Lib.hid (by
     rw [HCNT.out, HRN.out]
     have h := tab_of HCO.out
     unfold tabOf at h
     show (tabFrom (convT (cset cl xa xb)) 0 256).length = _
     rw [h])
    have HCS : Hid (∀ k, cnt (k + 1) = cnt k + (if convT (cset cl xa xb) (k : Int) = (k : Int) then 0 else 1)) := Lib.hid fun k => by
     rw [HCNT.out]
     show (tabFrom (convT (cset cl xa xb)) 0 (k + 1)).length = (tabFrom (convT (cset cl xa xb)) 0 k).length + _
     rw [tab_snoc, List.length_append, Nat.zero_add]
     split <;> rfl
    have HCLE : Hid (∀ k, cnt k ≤ k) := Lib.hid fun k => by rw [HCNT.out]; exact tab_len _ k 0
    have HC0 : Hid (cnt 0 = 0) := Lib.hid (by rw [HCNT.out]; rfl)
    clear hrn HR9 HP9 HK69 HK89 HL69 HL89 HB9 HBL4 HK6d HT1 HOV HFV HC1 HCNT HBL1
    dsimp only
    go_wp2_with fail
    go_loopw [22, 23] (fun m i wr => ∃ k : Nat, k ≤ 256 ∧ i = .int .i64 k ∧ m = .int .i64 (cnt k) ∧ Hid (Below W9.heap.size W9 wr)) (fun _ i _ => 256 - (intOf i).toNat)
    case atStart => exact ⟨0, by omega, rfl, by rw [HC0.out]; rfl, Lib.hid (Below.refl _ _)⟩
    case round =>
     obtain ⟨k, hk, rfl, rfl, HB⟩ := hrel
     by_cases hlt : k < 256
     ·have HBr := Lib.hid (HBL9.out.trans (HB.out.mono HBL9.out.size))
      have HKr := Lib.hid (HKT.out.call HB.out)
      have x5 := HKr.out.c 5 (.slice ca1 cn1 cc1) rfl
      have hk0 : (0 : Int) ≤ (k : Int) := by omega
      have hk1 : (k : Int) < 256 := by omega
      have hk2 : (k : Int) + 1 ≤ 256 := by omega
      have hq0 : (0 : Int) ≤ (cnt k : Int) := by omega
      have hq1 : (cnt k : Int) + 1 ≤ 256 := by have := HCLE.out k; omega
      have hcc := HC9.out.below HB.out
      have HCV2 := Lib.hid (r1_convert ca1 cn1 cc1 (cset cl xa xb) k wr hcc.len (by rw [hcc.len]; have := HML.out; omega) hcc.prs HCP.out hk0 (by omega))
      have HST := Lib.hid (HCS.out k)
      clear hcc
      generalize convT (cset cl xa xb) (k : Int) = cvk at *
      go_wp2_with fail
      refine HCV2.out.mono ?_; rintro e w6 ⟨rfl, hB6⟩
      have HB6 := Lib.hid (HB.out.trans (hB6.mono HB.out.size))
      clear hB6
      by_cases hc : cvk = (k : Int)
      ·have t1 : (cvk != (k : Int)) = false := by simp [hc]
       have HE : Hid (cnt (k + 1) = cnt k) := Lib.hid (by rw [HST.out, if_pos hc, Nat.add_zero])
       clear hc
       go_wp2_with fail
       go_roundw
       case rel => exact ⟨k + 1, by omega, by go_num, by rw [HE.out], HB6⟩
       case measure => simp [intOf] <;> omega
      ·have t1 : (cvk != (k : Int)) = true := by simp [hc]
       have HE : Hid (cnt (k + 1) = cnt k + 1) := Lib.hid (by rw [HST.out, if_neg hc])
       clear hc
       go_wp2_with fail
       go_roundw
       case rel => exact ⟨k + 1, by omega, by go_num, by rw [HE.out]; go_num, HB6⟩
       case measure => simp [intOf] <;> omega
     ·have hk256 : k = 256 := by omega
      subst hk256
      rw [HC256.out]
      have t1 : ((rn2 : Int) == (rn2 : Int)) = true := by simp
      have HBr := Lib.hid (HBL9.out.trans (HB.out.mono HBL9.out.size))
      go_wp2_with fail
      refine (law_example _).mono ?_; rintro e w7 ⟨rfl, hB7⟩
      have HB7 := Lib.hid (HBr.out.trans (hB7.mono HBr.out.size))
      go_wp2_with fail
      go_ret
      exact ⟨rfl, HB7.out⟩
end Go.Proofs.YtfkhcpeahdkafaaGreat
namespace Go.Proofs.YtfkhcpeahdkafaaGreat
open Go.RowKit Hb Go.Shelf
set_option maxRecDepth 100000
theorem u8_range {n : Int} (h : (Lit.int .u8 n).wf = true) : 0 ≤ n ∧ n ≤ 255 := by
 unfold Lit.wf at h; rw [Bool.and_eq_true, decide_eq_true_iff, decide_eq_true_iff] at h; exact h
theorem law_conversions (OA : Option Addr) (on oc : Nat) (q u : Int) (c d : Bool) (CA : Option Addr) (cn cc : Nat) (xa xb xc : Int) (ha : (Lit.int .u8 xa).wf = true) (hb : (Lit.int .u8 xb).wf = true) (hc : (Lit.int .u8 xc).wf = true) (l : List OpR) (cl : List (Int × Int)) (w : World) (hTab : Tab w OA on oc l) (hcl : cn = cl.length) (hcm : cn ≤ maxLen) (hcp : Pairs w CA cl) (hc0 : cn = 0 → (Value.slice CA cn cc = .slice none 0 0 ∨ ∃ ad, CA = some ad)) :
  Calls Tryz.prog 8 #[.agg #[.slice OA on oc, .int .i64 q, .int .i64 u, .bool c, .bool d, .slice CA cn cc], .int .u8 xa, .int .u8 xb, .int .u8 xc] w fun e w' => e = .returned (.bool true) ∧ Below w.heap.size w w' := by
 obtain ⟨a0, a1⟩ := u8_range ha
 obtain ⟨b0, b1⟩ := u8_range hb
 obtain ⟨c0, c1⟩ := u8_range hc
 cases hv : (opsValid l && (flOk ⟨q, u, c, d⟩ && pvalid cl)) with
 | false => exact law_conv_bad OA on oc q u c d CA cn cc xa xb xc a0 a1 b0 b1 c0 c1 l cl w hTab hcl hcp hc0 hcm hv
 | true =>
  rw [Bool.and_eq_true, Bool.and_eq_true] at hv
  exact law_conv_good OA on oc q u c d CA cn cc xa xb xc a0 a1 b0 b1 c0 c1 l cl w hTab hv.1 hv.2.1 hv.2.2 hcl hcp hc0
end Go.Proofs.YtfkhcpeahdkafaaGreat
