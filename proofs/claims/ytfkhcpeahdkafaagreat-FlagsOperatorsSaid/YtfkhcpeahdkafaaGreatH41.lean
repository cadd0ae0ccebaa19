/- Flags: the laws' listed. -/
import Derived.Test.YtfkhcpeahdkafaaGreatH40
import Derived.Test.YtfkhcpeahdkafaaGreatH34
namespace Hb
open Go Go.RowKit
def opM (o : OpR) : Tm := .mk 3 0 ⟨#[99, 117, 114, 114, 101, 110, 116, 95, 111, 112]⟩ [.mk 1 o.prec ⟨#[]⟩ [], atomT (tyNm o.typ), atomT o.name]
theorem opM_valid {o : OpR} (h : o.name.size ≤ 100) : validT (opM o) = true := by
 unfold opM
 rw [leaf3_valid (by decide) rfl rfl rfl, int_node, atom_node, atom_node, decide_eq_true h, decide_eq_true (tyNm_small o.typ)]
 rfl
theorem opT_eq {o : OpR} (h : o.name.size ≤ 100) : opT o = opM o := by
 unfold opT
 rw [structT_cons (by simp)]
 exact cloneT_yes (opM_valid h)
theorem ops_names {l : List OpR} (hov : opsValid l = true) : ∀ o ∈ l, o.name.size ≤ 100 := fun o ho => by
 have h := valid_all hov o ho
 unfold opOk at h
 split at h
 ·cases h
 ·rename_i h1
  simp only [Bool.or_eq_true, decide_eq_true_eq, not_or] at h1
  omega
theorem opT_map {l : List OpR} (hov : opsValid l = true) : l.map opT = l.map opM := List.map_congr_left fun o ho => opT_eq (ops_names hov o ho)
theorem rows_own {lo B : Nat} {e : TypeId} {w : World} {v : Value} {rs : List TR} (hB : lo ≤ B) (hw : B ≤ w.heap.size) (hown : w.ownsRow B e 4 v rs.length (rowsC rs)) (hs : ∀ r ∈ rs, TmsK (fun b => lo ≤ b ∧ b < B) w r.2.1 r.1.args) : ∃ A cap, v = .slice A rs.length cap ∧ TmsK (fun b => lo ≤ b ∧ b < w.heap.size) w A (rs.map (·.1)) :=
 OwnR.tms (e := e) ⟨⟨hown.1, hown.2.imp id fun ⟨g, cap, cur, e, hg, r⟩ => ⟨g, cap, cur, e, Nat.le_trans hB hg, r⟩⟩, fun r hr => (hs r hr).keep (fun _ _ => rfl) (fun b hb => ⟨hb.1, by omega, fun e => by have := (hown.lt b e).1; omega⟩)⟩
theorem ownsRow_le {B B' : Nat} {e size n : Nat} {w : World} {v : Value} {xs : List Value} (h : B' ≤ B) (ho : w.ownsRow B e size v n xs) : w.ownsRow B' e size v n xs := ⟨ho.1, ho.2.imp id fun ⟨g, cap, cur, e, hg, r⟩ => ⟨g, cap, cur, e, Nat.le_trans h hg, r⟩⟩
theorem rowsC_snoc (rs : List TR) (r : TR) : rowsC rs ++ rowC r = rowsC (rs ++ [r]) := by rw [rowsC_app]; unfold rowsC; simp
theorem filter_snoc {α : Type} (p : α → Bool) (l : List α) (k : Nat) (h : k < l.length) : (l.take (k + 1)).filter p = (l.take k).filter p ++ (if p l[k] = true then [l[k]] else []) := by
 rw [List.take_succ_eq_append_getElem h, List.filter_append]
 by_cases hp : p l[k] = true
 ·simp [hp]
 ·simp [hp]
end Hb
namespace Go.Proofs.YtfkhcpeahdkafaaGreat
open Go.RowKit Hb Go.Shelf
set_option maxRecDepth 100000
set_option maxHeartbeats 6400000 in
theorem law_listed (OA : Option Addr) (on oc : Nat) (q u : Int) (c d : Bool) (CA : Option Addr) (cn cc : Nat) (nm : ByteArray) (l : List OpR) (cl : List (Int × Int)) (w : World) (hS : SyAt w OA on oc CA cn cc l cl) (hok : sokB l ⟨q, u, c, d⟩ cl = true) :
  Calls Tryz.prog 37 #[.agg #[.slice OA on oc, .int .i64 q, .int .i64 u, .bool c, .bool d, .slice CA cn cc], .string nm] w fun e w' => ∃ A n c, e = .returned (.tuple #[.slice A n c, .int .i64 ((l.length : Int) - (n : Int)), .bool true]) ∧ Below w.heap.size w w' ∧ n = (l.filter fun o => decide (o.name.toList = nm.toList)).length ∧ NewT w w' A ((l.filter fun o => decide (o.name.toList = nm.toList)).map opM) := by
 have hov : opsValid l = true := by unfold sokB at hok; rw [Bool.and_eq_true] at hok; exact hok.1
 have HV : Hid (∀ (i : Int) X, Calls Tryz.prog 40 #[.int .i64 i] X fun e w' => e = .returned (.agg #[.int .i64 0, .int .i64 i, .string ⟨#[]⟩, .slice none 0 0]) ∧ Below X.heap.size X w') := Lib.hid fun i X => law_variable i X
 have HCAL : Hid (∀ X g, Below w.heap.size w X → TmsAt X.heap.size X (some ⟨g, 0, none⟩) [.mk 0 0 ⟨#[]⟩ [], .mk 0 1 ⟨#[]⟩ [], .mk 0 2 ⟨#[]⟩ []] → Calls Tryz.prog 30 #[.agg #[.slice OA on oc, .int .i64 q, .int .i64 u, .bool c, .bool d, .slice CA cn cc], .agg #[.int .i64 3, .int .i64 0, .string ⟨#[99, 117, 114, 114, 101, 110, 116, 95, 111, 112]⟩, .slice (some ⟨g, 0, none⟩) 3 3]] X fun e w' => ∃ r : RV, e = .returned r.val ∧ Below X.heap.size X w' ∧ RIs (X.heap.size + 1 + 1 + 1 + 1) X w' r (.ok ⟨l, ⟨q, u, c, d⟩, cl⟩ (l.map opM)) ∧ (r.er ≠ 0 → r.rn = 0)) := Lib.hid fun X g hX hT =>
  (call_ops OA on oc q u c d CA cn cc (some ⟨g, 0, none⟩) 3 l cl X (hS.below hX) hok hT).mono fun e w' h => by
   obtain ⟨r, he, hB, hr, hb⟩ := h
   rw [opT_map hov] at hr
   exact ⟨r, he, hB, hr, hb.rn⟩
 have HLN : Hid (l.length ≤ 100 ∧ on ≤ maxLen ∧ cn ≤ maxLen) := Lib.hid (by
  have h1 := opsValid_len hov
  have h2 := hS.tab.len
  have h3 := hS.cle
  unfold sokB at hok
  rw [Bool.and_eq_true, Bool.and_eq_true] at hok
  have h4 := cv_len ((cvOk_iff cl).1 hok.2.2)
  unfold maxLen
  refine ⟨h1, by omega, by omega⟩)
 have HS := Lib.hid hS
 have HBL0 : Hid (Below w.heap.size w (w.alloc (.cells #[.slice OA on oc, .int .i64 q, .int .i64 u, .bool c, .bool d, .slice CA cn cc] 43))) := Lib.hid ((Below.refl _ w).alloc (Nat.le_refl _) _)
 have HBK0 : Hid (Bks (w.alloc (.cells #[.slice OA on oc, .int .i64 q, .int .i64 u, .bool c, .bool d, .slice CA cn cc] 43)) [(w.heap.size, [.slice OA on oc, .int .i64 q, .int .i64 u, .bool c, .bool d, .slice CA cn cc])]) := Lib.hid ((Bks.nil w).new [.slice OA on oc, .int .i64 q, .int .i64 u, .bool c, .bool d, .slice CA cn cc] 43 rfl)
 clear hS hok hov
 go_enter Tryz.func37, Tryz.ntmps37
 go_wp2_with fail
 obtain ⟨W0, HW0⟩ : ∃ W0, Hid (W0 = (w.alloc (.cells #[.slice OA on oc, .int .i64 q, .int .i64 u, .bool c, .bool d, .slice CA cn cc] 43))) := ⟨_, Lib.hid rfl⟩
 rw [← HW0.out] at HBL0 HBK0 ⊢
 clear HW0
 rename_i K0 hK0
 have s0_0 := HBK0.out.cell 0 0 rfl rfl
 have s0_1 := HBK0.out.cell 0 1 rfl rfl
 have s0_2 := HBK0.out.cell 0 2 rfl rfl
 have s0_3 := HBK0.out.cell 0 3 rfl rfl
 have s0_4 := HBK0.out.cell 0 4 rfl rfl
 have s0_5 := HBK0.out.cell 0 5 rfl rfl
 have s0l : w.heap.size < W0.heap.size := HBK0.out.lt 0 rfl
 have HCALL : Hid (∀ X g, Below W0.heap.size W0 X → TmsAt X.heap.size X (some ⟨g, 0, none⟩) [.mk 0 0 ⟨#[]⟩ [], .mk 0 1 ⟨#[]⟩ [], .mk 0 2 ⟨#[]⟩ []] → Calls Tryz.prog 30 #[.agg #[.slice OA on oc, .int .i64 q, .int .i64 u, .bool c, .bool d, .slice CA cn cc], .agg #[.int .i64 3, .int .i64 0, .string ⟨#[99, 117, 114, 114, 101, 110, 116, 95, 111, 112]⟩, .slice (some ⟨g, 0, none⟩) 3 3]] X fun e w' => ∃ r : RV, e = .returned r.val ∧ Below X.heap.size X w' ∧ RIs (X.heap.size + 1 + 1 + 1 + 1) X w' r (.ok ⟨l, ⟨q, u, c, d⟩, cl⟩ (l.map opM)) ∧ (r.er ≠ 0 → r.rn = 0)) := Lib.hid fun X g hX hT => HCAL.out X g (HBL0.out.trans (hX.mono HBL0.out.size)) hT
 refine region_own (w0 := W0) [rVal [] [0] (fun | [v] => v = .agg #[.slice OA on oc, .int .i64 q, .int .i64 u, .bool c, .bool d, .slice CA cn cc] | _ => False),
  rVal [] [1] (fun | [v] => v = .agg #[.int .i64 0, .int .i64 0, .string ⟨#[]⟩, .slice none 0 0] | _ => False),
  rVal [1] [2] (fun | [v] => v = .agg #[.int .i64 0, .int .i64 1, .string ⟨#[]⟩, .slice none 0 0] | _ => False),
  rVal [1, 2] [3] (fun | [v] => v = .agg #[.int .i64 0, .int .i64 2, .string ⟨#[]⟩, .slice none 0 0] | _ => False),
  rRow [1, 2, 3] 4 3 [.mk 0 0 ⟨#[]⟩ [], .mk 0 1 ⟨#[]⟩ [], .mk 0 2 ⟨#[]⟩ []],
  rGoal [1, 2, 3, 4] 5 ⟨#[99, 117, 114, 114, 101, 110, 116, 95, 111, 112]⟩ 3 [.mk 0 0 ⟨#[]⟩ [], .mk 0 1 ⟨#[]⟩ [], .mk 0 2 ⟨#[]⟩ []],
  rRV (List.range 6) 6 W0.heap.size (.ok ⟨l, ⟨q, u, c, d⟩, cl⟩ (l.map opM)),
  rPure (List.range 7) [7, 6] (fun | [v, u] => v = u | _ => False),
  rPure (List.range 8) [8, 7] (fun | [v, u] => v = tupC u 0 | _ => False),
  rPure (List.range 8) [9, 7] (fun | [v, u] => v = tupC u 1 | _ => False),
  rPure (List.range 8) [10, 7] (fun | [v, u] => v = tupC u 2 | _ => False),
  rPure (List.range 8) [11, 7] (fun | [v, u] => v = tupC u 3 | _ => False),
  rBox [] [.slice none 0 0, .int .i64 0, .int .i64 0, .bool false, .bool false, .slice none 0 0] 14,
  rBox [] [.int .i64 0, .int .i64 0, .string ⟨#[]⟩, .slice none 0 0] 16,
  rStore [0, 1, 2, 3, 4, 5, 6, 7, 8, 12, 13] [8] 12 (fun | [v] => contV v | _ => []),
  rPure [0, 1, 2, 3, 4, 5, 6, 7, 8, 9, 12, 13, 14] [15, 9] (fun | [v, u] => v = u | _ => False),
  rStore [0, 1, 2, 3, 4, 5, 6, 7, 8, 9, 10, 12, 13, 14, 15] [10] 13 (fun | [v] => contV v | _ => []),
  rPure (List.range 17) [17, 11] (fun | [v, u] => v = u | _ => False)]
  [some 14, some 15, some 16, some 17, some 18, some 19, some 20, some 13, some 21, some 22, some 23, some 24, some 7, some 9, none, some 8, none, some 10] (noOp) (W0.heap.size) (by kernel_rfl) (Nat.le_refl _) (by kernel_rfl) (by kernel_rfl) (by kernel_rfl) (fun j o ho => ?srv) (fun val Y N hv HF => ?fin)
 case srv =>
  have hlt : j < 18 := (Array.getElem?_eq_some_iff.1 ho).1
  rcases (show j = 0 ∨ j = 1 ∨ j = 2 ∨ j = 3 ∨ j = 4 ∨ j = 5 ∨ j = 6 ∨ j = 7 ∨ j = 8 ∨ j = 9 ∨ j = 10 ∨ j = 11 ∨ j = 12 ∨ j = 13 ∨ j = 14 ∨ j = 15 ∨ j = 16 ∨ j = 17 by omega) with rfl | rfl | rfl | rfl | rfl | rfl | rfl | rfl | rfl | rfl | rfl | rfl | rfl | rfl | rfl | rfl | rfl | rfl
  ·cases ho
   refine srv_val rfl rfl (fun _ _ _ => trivial) (fun val E X hE hB hA => ?_)
   have e2 : E (.tmp 2) = .pointer (some ⟨w.heap.size, 0, none⟩) := by rw [hE.eq]; rfl
   have z0 : X.cell? ⟨w.heap.size, 0, none⟩ = some (.slice OA on oc) := (hB.cell (p := ⟨_, 0, none⟩) s0l).trans s0_0
   have z1 : X.cell? ⟨w.heap.size, 1, none⟩ = some (.int .i64 q) := (hB.cell (p := ⟨_, 1, none⟩) s0l).trans s0_1
   have z2 : X.cell? ⟨w.heap.size, 2, none⟩ = some (.int .i64 u) := (hB.cell (p := ⟨_, 2, none⟩) s0l).trans s0_2
   have z3 : X.cell? ⟨w.heap.size, 3, none⟩ = some (.bool c) := (hB.cell (p := ⟨_, 3, none⟩) s0l).trans s0_3
   have z4 : X.cell? ⟨w.heap.size, 4, none⟩ = some (.bool d) := (hB.cell (p := ⟨_, 4, none⟩) s0l).trans s0_4
   have z5 : X.cell? ⟨w.heap.size, 5, none⟩ = some (.slice CA cn cc) := (hB.cell (p := ⟨_, 5, none⟩) s0l).trans s0_5
   exact ⟨.agg #[.slice OA on oc, .int .i64 q, .int .i64 u, .bool c, .bool d, .slice CA cn cc], by simp [execOp, go_sem, e2, z0, z1, z2, z3, z4, z5], rfl⟩
  ·cases ho
   refine srv_calV rfl rfl (fun _ _ _ => trivial) (fun val E X hE hB hA => ?_)
   exact ⟨_, _, _, by simp [execOp, go_sem, hE.c, hE.f] <;> rfl, HV.out 0 X, rfl⟩
  ·cases ho
   refine srv_calV rfl rfl (fun _ _ _ => trivial) (fun val E X hE hB hA => ?_)
   exact ⟨_, _, _, by simp [execOp, go_sem, hE.c, hE.f] <;> rfl, HV.out 1 X, rfl⟩
  ·cases ho
   refine srv_calV rfl rfl (fun _ _ _ => trivial) (fun val E X hE hB hA => ?_)
   exact ⟨_, _, _, by simp [execOp, go_sem, hE.c, hE.f] <;> rfl, HV.out 2 X, rfl⟩
  ·cases ho
   refine srv_mk rfl rfl fun val E X N hE hC hA hc => ?_
   have e15 : E (.tmp 15) = val 1 := by rw [hE.eq]; rfl
   have h1 : val 1 = .agg #[.int .i64 0, .int .i64 0, .string ⟨#[]⟩, .slice none 0 0] := hA 1 (of_decide_eq_true rfl)
   have e16 : E (.tmp 16) = val 2 := by rw [hE.eq]; rfl
   have h2 : val 2 = .agg #[.int .i64 0, .int .i64 1, .string ⟨#[]⟩, .slice none 0 0] := hA 2 (of_decide_eq_true rfl)
   have e17 : E (.tmp 17) = val 3 := by rw [hE.eq]; rfl
   have h3 : val 3 = .agg #[.int .i64 0, .int .i64 2, .string ⟨#[]⟩, .slice none 0 0] := hA 3 (of_decide_eq_true rfl)
   exact ⟨.slice (some ⟨X.heap.size, 0, none⟩) 3 3, X.alloc (.cells #[.int .i64 0, .int .i64 0, .string ⟨#[]⟩, .slice none 0 0, .int .i64 0, .int .i64 1, .string ⟨#[]⟩, .slice none 0 0, .int .i64 0, .int .i64 2, .string ⟨#[]⟩, .slice none 0 0] 26), by simp [execOp, go_sem, e15, h1, e16, h2, e17, h3], (Below.refl _ _).alloc (Nat.le_refl _) _, ⟨_, rfl⟩, fun N' _ h2 => ⟨_, rfl, rows_leaf (N := N') (X := X) (rs := [(.mk 0 0 ⟨#[]⟩ [], none, 0), (.mk 0 1 ⟨#[]⟩ [], none, 0), (.mk 0 2 ⟨#[]⟩ [], none, 0)]) (e := 26) (h2 _ (Nat.le_refl _) (by simp)) (by simp [maxLen]) (fun x hx => by
    simp only [List.mem_cons, List.mem_nil_iff, or_false] at hx
    rcases hx with rfl | rfl | rfl <;> rfl)⟩⟩
  ·cases ho
   refine srv_cal rfl rfl fun val E X N hE hC hA hc => ?_
   obtain ⟨g, h4, ht⟩ : ∃ g, val 4 = .slice (some ⟨g, 0, none⟩) 3 3 ∧ TmsK N X (some ⟨g, 0, none⟩) [.mk 0 0 ⟨#[]⟩ [], .mk 0 1 ⟨#[]⟩ [], .mk 0 2 ⟨#[]⟩ []] := hc 4 (of_decide_eq_true rfl) rfl
   have e18 : E (.tmp 18) = val 4 := by rw [hE.eq]; rfl
   exact ⟨_, _, by simp [execOp, go_sem, hE.c, hE.f, e18, h4] <;> rfl, (law_goal _ _ _ _ X).mono fun e w' h => ⟨_, h.1, h.2, ⟨g, rfl⟩, fun N' h1 _ => ⟨g, rfl, row_stab ht (fun b hb => h.2.block b (hC.lt b hb)) h1⟩⟩⟩
  ·cases ho
   refine srv_cal rfl rfl fun val E X N hE hC hA hc => ?_
   obtain ⟨g, h5, ht⟩ : ∃ g, val 5 = .agg #[.int .i64 3, .int .i64 0, .string ⟨#[99, 117, 114, 114, 101, 110, 116, 95, 111, 112]⟩, .slice (some ⟨g, 0, none⟩) 3 3] ∧ TmsK N X (some ⟨g, 0, none⟩) [.mk 0 0 ⟨#[]⟩ [], .mk 0 1 ⟨#[]⟩ [], .mk 0 2 ⟨#[]⟩ []] := hc 5 (of_decide_eq_true rfl) rfl
   have e19 : E (.tmp 19) = val 5 := by rw [hE.eq]; rfl
   have e14 : E (.tmp 14) = val 0 := by rw [hE.eq]; rfl
   have h0 : val 0 = .agg #[.slice OA on oc, .int .i64 q, .int .i64 u, .bool c, .bool d, .slice CA cn cc] := hA 0 (of_decide_eq_true rfl)
   exact ⟨_, _, by simp [execOp, go_sem, hE.f, e19, e14, h5, h0] <;> rfl, (HCALL.out X g hC.bel (TmsK.at' ht)).mono fun e w' h => by
    obtain ⟨r, he, hB', hr, hrn⟩ := h
    exact ⟨_, he, hB', ⟨r, rfl⟩, fun N' h1 h2 => ⟨r, rfl, ResC.of hC.bel.size hr hrn hB' hC.bx h1 h2⟩⟩⟩
  ·cases ho
   refine srv_pure rfl rfl (fun val E hE hA => ?_)
   have e20 : E (.tmp 20) = val 6 := by rw [hE.eq]; rfl
   obtain ⟨r, h6⟩ : ∃ r : RV, val 6 = r.val := hA 6 (of_decide_eq_true rfl)
   exact ⟨val 6, fun X => by simp [execOp, go_sem, e20, h6], rfl⟩
  ·cases ho
   refine srv_pure rfl rfl (fun val E hE hA => ?_)
   have e13 : E (.tmp 13) = val 7 := by rw [hE.eq]; rfl
   obtain ⟨r, h6⟩ : ∃ r : RV, val 6 = r.val := hA 6 (of_decide_eq_true rfl)
   have h7 : val 7 = val 6 := hA 7 (of_decide_eq_true rfl)
   rw [h6] at h7
   exact ⟨tupC (val 7) 0, fun X => by simp [execOp, go_sem, e13, h7, tupC, RV.val], rfl⟩
  ·cases ho
   refine srv_pure rfl rfl (fun val E hE hA => ?_)
   have e13 : E (.tmp 13) = val 7 := by rw [hE.eq]; rfl
   obtain ⟨r, h6⟩ : ∃ r : RV, val 6 = r.val := hA 6 (of_decide_eq_true rfl)
   have h7 : val 7 = val 6 := hA 7 (of_decide_eq_true rfl)
   rw [h6] at h7
   exact ⟨tupC (val 7) 1, fun X => by simp [execOp, go_sem, e13, h7, tupC, RV.val], rfl⟩
  ·cases ho
   refine srv_pure rfl rfl (fun val E hE hA => ?_)
   have e13 : E (.tmp 13) = val 7 := by rw [hE.eq]; rfl
   obtain ⟨r, h6⟩ : ∃ r : RV, val 6 = r.val := hA 6 (of_decide_eq_true rfl)
   have h7 : val 7 = val 6 := hA 7 (of_decide_eq_true rfl)
   rw [h6] at h7
   exact ⟨tupC (val 7) 2, fun X => by simp [execOp, go_sem, e13, h7, tupC, RV.val], rfl⟩
  ·cases ho
   refine srv_pure rfl rfl (fun val E hE hA => ?_)
   have e13 : E (.tmp 13) = val 7 := by rw [hE.eq]; rfl
   obtain ⟨r, h6⟩ : ∃ r : RV, val 6 = r.val := hA 6 (of_decide_eq_true rfl)
   have h7 : val 7 = val 6 := hA 7 (of_decide_eq_true rfl)
   rw [h6] at h7
   exact ⟨tupC (val 7) 3, fun X => by simp [execOp, go_sem, e13, h7, tupC, RV.val], rfl⟩
  ·cases ho
   exact srv_box rfl (fun _ => trivial) (noOp_syn _ _ _ _ _ _ _ _ _ _) 43 fun E X => by simp [execOp, go_sem]
  ·cases ho
   exact srv_box rfl (fun _ => trivial) (noOp_term _ _ _ _ _ _) 26 fun E X => by simp [execOp, go_sem]
  ·cases ho
   refine srv_store rfl rfl (fun _ => trivial) fun val E X b hE hA hb hk => ?_
   have e7 : E (.tmp 7) = val 12 := by rw [hE.eq]; rfl
   have e21 : E (.tmp 21) = val 8 := by rw [hE.eq]; rfl
   obtain ⟨r, h6⟩ : ∃ r : RV, val 6 = r.val := hA 6 (of_decide_eq_true rfl)
   have h7 : val 7 = val 6 := hA 7 (of_decide_eq_true rfl)
   rw [h6] at h7
   have h8 : val 8 = tupC (val 7) 0 := hA 8 (of_decide_eq_true rfl)
   rw [h7] at h8
   have z0 := hk.c 0 (.slice none 0 0) rfl
   have f0 := hk.f 0
   have z1 := hk.c 1 (.int .i64 0) rfl
   have f1 := hk.f 1
   have z2 := hk.c 2 (.int .i64 0) rfl
   have f2 := hk.f 2
   have z3 := hk.c 3 (.bool false) rfl
   have f3 := hk.f 3
   have z4 := hk.c 4 (.bool false) rfl
   have f4 := hk.f 4
   have z5 := hk.c 5 (.slice none 0 0) rfl
   have f5 := hk.f 5
   exact ⟨((((((X.setCell ⟨b, 0, none⟩ (.slice r.oa r.on r.oc)).setCell ⟨b, 1, none⟩ (.int .i64 r.q)).setCell ⟨b, 2, none⟩ (.int .i64 r.u)).setCell ⟨b, 3, none⟩ (.bool r.c)).setCell ⟨b, 4, none⟩ (.bool r.d)).setCell ⟨b, 5, none⟩ (.slice r.ca r.cn r.cc)), [.slice r.oa r.on r.oc, .int .i64 r.q, .int .i64 r.u, .bool r.c, .bool r.d, .slice r.ca r.cn r.cc], by simp [execOp, go_sem, hb, e7, e21, h8, z0, f0, z1, f1, z2, f2, z3, f3, z4, f4, z5, f5, tupC, RV.val], (((((((PutTo.start hk).more 0 (.slice r.oa r.on r.oc)).more 1 (.int .i64 r.q)).more 2 (.int .i64 r.u)).more 3 (.bool r.c)).more 4 (.bool r.d)).more 5 (.slice r.ca r.cn r.cc)), (show contV (val 8) = _ by rw [h8]; rfl), noOp_syn _ _ _ _ _ _ _ _ _ _⟩
  ·cases ho
   refine srv_pure rfl rfl (fun val E hE hA => ?_)
   have e22 : E (.tmp 22) = val 9 := by rw [hE.eq]; rfl
   obtain ⟨r, h6⟩ : ∃ r : RV, val 6 = r.val := hA 6 (of_decide_eq_true rfl)
   have h7 : val 7 = val 6 := hA 7 (of_decide_eq_true rfl)
   rw [h6] at h7
   have h9 : val 9 = tupC (val 7) 1 := hA 9 (of_decide_eq_true rfl)
   rw [h7] at h9
   exact ⟨val 9, fun X => by simp [execOp, go_sem, e22, h9], rfl⟩
  ·cases ho
   refine srv_store rfl rfl (fun _ => trivial) fun val E X b hE hA hb hk => ?_
   have e9 : E (.tmp 9) = val 13 := by rw [hE.eq]; rfl
   have e23 : E (.tmp 23) = val 10 := by rw [hE.eq]; rfl
   obtain ⟨r, h6⟩ : ∃ r : RV, val 6 = r.val := hA 6 (of_decide_eq_true rfl)
   have h7 : val 7 = val 6 := hA 7 (of_decide_eq_true rfl)
   rw [h6] at h7
   have h10 : val 10 = tupC (val 7) 2 := hA 10 (of_decide_eq_true rfl)
   rw [h7] at h10
   have z0 := hk.c 0 (.int .i64 0) rfl
   have f0 := hk.f 0
   have z1 := hk.c 1 (.int .i64 0) rfl
   have f1 := hk.f 1
   have z2 := hk.c 2 (.string ⟨#[]⟩) rfl
   have f2 := hk.f 2
   have z3 := hk.c 3 (.slice none 0 0) rfl
   have f3 := hk.f 3
   exact ⟨((((X.setCell ⟨b, 0, none⟩ (.int .i64 r.bk)).setCell ⟨b, 1, none⟩ (.int .i64 r.bn)).setCell ⟨b, 2, none⟩ (.string r.bs)).setCell ⟨b, 3, none⟩ (.slice r.ba r.bz r.bc)), [.int .i64 r.bk, .int .i64 r.bn, .string r.bs, .slice r.ba r.bz r.bc], by simp [execOp, go_sem, hb, e9, e23, h10, z0, f0, z1, f1, z2, f2, z3, f3, tupC, RV.val], (((((PutTo.start hk).more 0 (.int .i64 r.bk)).more 1 (.int .i64 r.bn)).more 2 (.string r.bs)).more 3 (.slice r.ba r.bz r.bc)), (show contV (val 10) = _ by rw [h10]; rfl), noOp_term _ _ _ _ _ _⟩
  ·cases ho
   refine srv_pure rfl rfl (fun val E hE hA => ?_)
   have e24 : E (.tmp 24) = val 11 := by rw [hE.eq]; rfl
   obtain ⟨r, h6⟩ : ∃ r : RV, val 6 = r.val := hA 6 (of_decide_eq_true rfl)
   have h7 : val 7 = val 6 := hA 7 (of_decide_eq_true rfl)
   rw [h6] at h7
   have h11 : val 11 = tupC (val 7) 3 := hA 11 (of_decide_eq_true rfl)
   rw [h7] at h11
   exact ⟨val 11, fun X => by simp [execOp, go_sem, e24, h11], rfl⟩
 case fin =>
  have h0 : val 0 = .agg #[.slice OA on oc, .int .i64 q, .int .i64 u, .bool c, .bool d, .slice CA cn cc] := hv 0 (show 0 < 18 by decide)
  have h1 : val 1 = .agg #[.int .i64 0, .int .i64 0, .string ⟨#[]⟩, .slice none 0 0] := hv 1 (show 1 < 18 by decide)
  have h2 : val 2 = .agg #[.int .i64 0, .int .i64 1, .string ⟨#[]⟩, .slice none 0 0] := hv 2 (show 2 < 18 by decide)
  have h3 : val 3 = .agg #[.int .i64 0, .int .i64 2, .string ⟨#[]⟩, .slice none 0 0] := hv 3 (show 3 < 18 by decide)
  obtain ⟨g, h4⟩ : ∃ g, val 4 = .slice (some ⟨g, 0, none⟩) 3 3 := hv 4 (show 4 < 18 by decide)
  obtain ⟨gg, h5⟩ : ∃ g, val 5 = .agg #[.int .i64 3, .int .i64 0, .string ⟨#[99, 117, 114, 114, 101, 110, 116, 95, 111, 112]⟩, .slice (some ⟨g, 0, none⟩) 3 3] := hv 5 (show 5 < 18 by decide)
  obtain ⟨r, h6, HR⟩ : ∃ r : RV, val 6 = r.val ∧ ResC N W0.heap.size Y r (.ok ⟨l, ⟨q, u, c, d⟩, cl⟩ (l.map opM)) := HF.vcs 6 (show 6 < 18 by decide) rfl
  have h7 : val 7 = val 6 := hv 7 (show 7 < 18 by decide)
  rw [h6] at h7
  have h8 : val 8 = tupC (val 7) 0 := hv 8 (show 8 < 18 by decide)
  rw [h7] at h8
  have h9 : val 9 = tupC (val 7) 1 := hv 9 (show 9 < 18 by decide)
  rw [h7] at h9
  have h10 : val 10 = tupC (val 7) 2 := hv 10 (show 10 < 18 by decide)
  rw [h7] at h10
  have h11 : val 11 = tupC (val 7) 3 := hv 11 (show 11 < 18 by decide)
  rw [h7] at h11
  have h15 : val 15 = val 9 := hv 15 (show 15 < 18 by decide)
  rw [h9] at h15
  have h17 : val 17 = val 11 := hv 17 (show 17 < 18 by decide)
  rw [h11] at h17
  obtain ⟨oa, on1, oc1, q1, u1, c1, d1, ca, cn1, cc1, ra, rn, rc, bk, bn, bs, ba, bz, bc, er⟩ := r
  have h6 : val 6 = .tuple #[.agg #[.slice oa on1 oc1, .int .i64 q1, .int .i64 u1, .bool c1, .bool d1, .slice ca cn1 cc1], .slice ra rn rc, .agg #[.int .i64 bk, .int .i64 bn, .string bs, .slice ba bz bc], .int .i64 er] := h6
  have h7 : val 7 = .tuple #[.agg #[.slice oa on1 oc1, .int .i64 q1, .int .i64 u1, .bool c1, .bool d1, .slice ca cn1 cc1], .slice ra rn rc, .agg #[.int .i64 bk, .int .i64 bn, .string bs, .slice ba bz bc], .int .i64 er] := h7
  have h8 : val 8 = .agg #[.slice oa on1 oc1, .int .i64 q1, .int .i64 u1, .bool c1, .bool d1, .slice ca cn1 cc1] := h8
  have h9 : val 9 = .slice ra rn rc := h9
  have h10 : val 10 = .agg #[.int .i64 bk, .int .i64 bn, .string bs, .slice ba bz bc] := h10
  have h11 : val 11 = .int .i64 er := h11
  have h15 : val 15 = .slice ra rn rc := h15
  have h17 : val 17 = .int .i64 er := h17
  obtain ⟨e12, h12, l12, hK12, n12⟩ := HF.at_box 12 (by decide) rfl
  have hK12 : Bk Y e12 (contV (val 8)) := hK12
  rw [h8] at hK12
  have hK12 : Bk Y e12 [.slice oa on1 oc1, .int .i64 q1, .int .i64 u1, .bool c1, .bool d1, .slice ca cn1 cc1] := hK12
  obtain ⟨e13, h13, l13, hK13, n13⟩ := HF.at_box 13 (by decide) rfl
  have hK13 : Bk Y e13 (contV (val 10)) := hK13
  rw [h10] at hK13
  have hK13 : Bk Y e13 [.int .i64 bk, .int .i64 bn, .string bs, .slice ba bz bc] := hK13
  refine hK0 _ _ ?_
  simp only [fillD, List.set_cons_zero, List.set_cons_succ, Nat.reduceAdd, Nat.zero_add, h0, h1, h2, h3, h4, h5, h6, h7, h8, h9, h10, h11, h15, h17, h12, h13]
  clear hv hK0 h0 h1 h2 h3 h4 h5 h6 h7 h8 h9 h10 h11 h15 h17 h12 h13 HCALL HCAL s0_0 s0_1 s0_2 s0_3 s0_4 s0_5 s0l
  have HR : ResN N W0.heap.size Y ⟨oa, on1, oc1, q1, u1, c1, d1, ca, cn1, cc1, ra, rn, rc, bk, bn, bs, ba, bz, bc, er⟩ ⟨l, ⟨q, u, c, d⟩, cl⟩ (l.map opM) := HR
  have her : er = 0 := HR.er
  have hrn : rn = (l.map opM).length := HR.rn
  rw [List.length_map] at hrn
  have hfl := HR.fl
  dsimp only at hfl
  injection hfl with f1 f2 f3 f4
  subst her
  obtain rfl := f1.symm
  obtain rfl := f2.symm
  obtain rfl := f3.symm
  obtain rfl := f4.symm
  have hTab1 : Tab Y oa on1 oc1 l := HR.tab
  have hcv1 : PrI W0.heap.size Y ca cn1 cc1 cl := HR.cv
  have hra : TmsK (fun b => N b ∧ W0.heap.size ≤ b) Y ra (l.map opM) := HR.ra
  have HRA : Hid (TmsK (fun b => W0.heap.size ≤ b ∧ b < Y.heap.size) Y ra (l.map opM)) := Lib.hid (hra.keep (fun _ _ => rfl) (fun b hb => ⟨hb.2, HF.lt b hb.1⟩))
  have HBLY := Lib.hid (HBL0.out.trans (HF.bel.mono HBL0.out.size))
  have HBKY := Lib.hid (HBK0.out.keep fun x hx => HF.bel.block x.1 (HBK0.out.bk x hx).lt)
  have HK7 := Lib.hid hK12
  have HSY := Lib.hid (HS.out.below HBLY.out)
  have HST : Hid (SyAt Y oa on1 oc1 ca cn1 cc1 l cl) := Lib.hid ⟨hTab1, hcv1.len, hcv1.prs, hcv1.nil⟩
  have HON : Hid (on1 = on ∧ cn1 = cn) := Lib.hid ⟨by rw [hTab1.len, HS.out.tab.len], by rw [hcv1.len, HS.out.cle]⟩
  have HRN := Lib.hid hrn
  have HWY := Lib.hid HF.bel.size
  have HW0L := Lib.hid HBL0.out.size
  clear hTab1 hcv1 hra HR HF hK12 hK13 n12 n13 l12 l13 hrn HBL0 HBK0
  obtain ⟨rfl, rfl⟩ := HON.out
  clear HON
  have HSS := Lib.hid (law_sameSyn OA oa CA ca on1 oc oc1 cn1 cc cc1 q u c d l cl Y HSY.out HST.out HLN.out.2.1 HLN.out.2.2)
  have c7 := HK7.out.all0
  simp only [bkAll, Nat.zero_add, Nat.reduceAdd, and_true] at c7
  have c0 := HBKY.out.all
  simp only [bksAll, bkAll, Nat.zero_add, Nat.reduceAdd, and_true] at c0
  go_wp2_with fail
  refine HSS.out.mono ?_; rintro e w1 ⟨rfl, hB1⟩
  have HBL1 := Lib.hid (HBLY.out.trans (hB1.mono HBLY.out.size))
  have HB1 := Lib.hid hB1
  have HRA1 : Hid (TmsK (fun b => W0.heap.size ≤ b ∧ b < Y.heap.size) w1 ra (l.map opM)) := Lib.hid (HRA.out.keep (fun b hb => hB1.block b hb.2) (fun _ hb => hb))
  clear hB1 c7 c0 HSS HBLY HBKY HRA HK7 HSY HST
  obtain ⟨PF, HPF⟩ : ∃ p : OpR → Bool, Hid (p = fun o => decide (o.name.toList = nm.toList)) := ⟨_, Lib.hid rfl⟩
  go_wp2_with fail
  go_loopw [11, 12] (fun v i wr => ∃ (k : Nat) (rs : List TR), k ≤ rn ∧ i = .int .i64 k ∧ Hid (Below w1.heap.size w1 wr) ∧ Hid (wr.ownsRow w1.heap.size 26 4 v rs.length (rowsC rs)) ∧ Hid (rs.map (fun x : TR => x.1) = ((l.take k).filter PF).map opM) ∧ Hid (∀ r ∈ rs, TmsK (fun b => W0.heap.size ≤ b ∧ b < Y.heap.size) wr r.2.1 r.1.args)) (fun _ i _ => rn - (intOf i).toNat)
  case atStart => exact ⟨0, [], Nat.zero_le _, rfl, Lib.hid (Below.refl _ _), Lib.hid (World.ownsRow_nil _ _ _ _), Lib.hid rfl, Lib.hid fun r hr => by cases hr⟩
  case round =>
   obtain ⟨k, rs, hk, rfl, HB, HO, HM, HS4⟩ := hrel
   have hrl : rs.length ≤ k := by
    have h := congrArg List.length HM.out
    rw [List.length_map, List.length_map] at h
    have := List.length_filter_le PF (l.take k)
    rw [List.length_take] at this
    omega
   have hln := HLN.out.1
   have hrn0 := HRN.out
   by_cases hlt : k < rn
   ·have hkl : k < l.length := by omega
    have hy1 := HB1.out.size
    have HRAk : Hid (TmsK (fun b => W0.heap.size ≤ b ∧ b < Y.heap.size) wr ra (l.map opM)) := Lib.hid (HRA1.out.keep (fun b hb => HB.out.block b (by omega)) (fun _ hb => hb))
    obtain ⟨rb, ro, XA, xc, hra, hrb, j0, j1, j2, j3, hXA⟩ := HRAk.out.get k (by rw [List.length_map]; exact hkl)
    obtain ⟨o, HOE⟩ : ∃ o, Hid (o = l[k]) := ⟨_, Lib.hid rfl⟩
    have hge : (l.map opM)[k]'(by rw [List.length_map]; exact hkl) = opM o := by rw [List.getElem_map, HOE.out]
    rw [hge] at j0 j1 j2 j3 hXA
    obtain ⟨xb, xo, FC, fc, hxa, hxb, -, -, j4, -, -⟩ := hXA.get 2 (show 2 < 3 by omega)
    have HXA := Lib.hid hXA
    subst hra
    subst hxa
    have k3 : wr.cell? ⟨rb, ro + k * 4 + 3, none⟩ = some (.slice (some ⟨xb, xo, none⟩) 3 xc) := j3
    have k0 : wr.cell? ⟨rb, ro + k * 4, none⟩ = some (.int .i64 3) := j0
    have k1 : wr.cell? ⟨rb, ro + k * 4 + 1, none⟩ = some (.int .i64 0) := j1
    have k2 : wr.cell? ⟨rb, ro + k * 4 + 2, none⟩ = some (.string ⟨#[99, 117, 114, 114, 101, 110, 116, 95, 111, 112]⟩) := j2
    have v2 : wr.cell? ⟨xb, xo + 8 + 2, none⟩ = some (.string o.name) := j4
    have HFS := Lib.hid (filter_snoc PF l k hkl)
    rw [← HOE.out] at HFS
    have hwr : Y.heap.size ≤ wr.heap.size := Nat.le_trans hy1 HB.out.size
    have lrb : rb < wr.heap.size := by have := hrb.2; omega
    have lxb : xb < wr.heap.size := by have := hxb.2; omega
    have hk0 : (0 : Int) ≤ (k : Int) := by omega
    have hk1 : (k : Int) < (rn : Int) := by omega
    have hk2 : (k : Int) + 1 ≤ 100 := by omega
    clear hge hXA HRAk hrn0 j0 j1 j2 j3 j4
    by_cases hn : o.name.toList = nm.toList
    ·have t1 : (o.name.toList == nm.toList) = true := by simp [hn]
     have hp : PF o = true := by rw [HPF.out]; exact decide_eq_true hn
     rw [if_pos hp] at HFS
     have HM2 : Hid ((rs ++ [((opM o, some ⟨xb, xo, none⟩, xc) : TR)]).map (fun x : TR => x.1) = ((l.take (k + 1)).filter PF).map opM) := Lib.hid (by rw [HFS.out, List.map_append, List.map_append, HM.out]; rfl)
     clear hp hn HFS
     go_wp2_with ((with_reducible refine at_appMT ?_); go_must (refine wpList_append_one rfl _ _ 24 26 rfl Tryz.underlying24 _ 4 56 infoTm rfl (by decide) w1.heap.size _ _ _ rfl _ HO.out #[.int .i64 3, .int .i64 0, .string ⟨#[99, 117, 114, 114, 101, 110, 116, 95, 111, 112]⟩, .slice (some ⟨xb, xo, none⟩) 3 xc] rfl (by simp [Value.oneCell']) rfl rfl (by omega) (by omega) HB.out.size ?_; intro v4 w4 ho4 hB4 hg4))
     have HB4 := Lib.hid (HB.out.trans hB4)
     have HO4 : Hid (w4.ownsRow w1.heap.size 26 4 v4 (rs ++ [((opM o, some ⟨xb, xo, none⟩, xc) : TR)]).length (rowsC (rs ++ [((opM o, some ⟨xb, xo, none⟩, xc) : TR)]))) := Lib.hid (by rw [← rowsC_snoc, List.length_append]; exact ho4)
     have HS5 : Hid (∀ r ∈ rs ++ [((opM o, some ⟨xb, xo, none⟩, xc) : TR)], TmsK (fun b => W0.heap.size ≤ b ∧ b < Y.heap.size) w4 r.2.1 r.1.args) := Lib.hid fun r hr => by
      have key : ∀ {A : Option Addr} {l : List Tm}, TmsK (fun b => W0.heap.size ≤ b ∧ b < Y.heap.size) wr A l → TmsK (fun b => W0.heap.size ≤ b ∧ b < Y.heap.size) w4 A l := fun h => h.keep (fun b hb => hB4.block b (by omega)) (fun _ hb => hb)
      rcases List.mem_append.1 hr with hr | hr
      ·exact key (HS4.out r hr)
      ·rw [List.mem_singleton.1 hr]; exact key HXA.out
     clear ho4 hB4 hg4 HO HS4 HB HM HXA
     go_wp2_with fail
     go_roundw
     case rel => exact ⟨k + 1, _, by omega, by go_num, HB4, HO4, HM2, HS5⟩
     case measure => simp [intOf] <;> omega
    ·have t1 : (o.name.toList == nm.toList) = false := by simp [hn]
     have hp : ¬ PF o = true := by rw [HPF.out]; simpa using hn
     rw [if_neg hp, List.append_nil] at HFS
     have HM2 : Hid (rs.map (fun x : TR => x.1) = ((l.take (k + 1)).filter PF).map opM) := Lib.hid (by rw [HFS.out, HM.out])
     clear hp hn HFS
     go_wp2_with fail
     go_roundw
     case rel => exact ⟨k + 1, rs, by omega, by go_num, HB, HO, HM2, HS4⟩
     case measure => simp [intOf] <;> omega
   ·obtain rfl : k = rn := by omega
    obtain ⟨A, cap, hv, hA⟩ := rows_own HWY.out (by have := HB1.out.size; have := HB.out.size; omega : Y.heap.size ≤ wr.heap.size) (ownsRow_le HB1.out.size HO.out) HS4.out
    have HM3 : Hid (rs.map (fun x : TR => x.1) = (l.filter fun o => decide (o.name.toList = nm.toList)).map opM) := Lib.hid (by
     have h := HM.out
     rw [HRN.out, List.take_length, HPF.out] at h
     exact h)
    have HA : Hid (TmsK (fun b => W0.heap.size ≤ b ∧ b < wr.heap.size) wr A ((l.filter fun o => decide (o.name.toList = nm.toList)).map opM)) := Lib.hid (by rw [← HM3.out]; exact hA)
    have hrs : rs.length = (l.filter fun o => decide (o.name.toList = nm.toList)).length := by
     have h := congrArg List.length HM3.out
     rwa [List.length_map, List.length_map] at h
    have HRS := Lib.hid hrs
    have HBF := Lib.hid (HBL1.out.trans (HB.out.mono HBL1.out.size))
    subst hv
    have hwr : wrap64 ((k : Int) - (rs.length : Int)) = (k : Int) - (rs.length : Int) := by unfold wrap64; omega
    clear hA HM HM3 HO HS4 hrs HB hlt hrl hln hrn0
    go_wp2_with fail
    exact bodyPost_ret (v := .tuple #[.slice A rs.length cap, .int .i64 ((k : Int) - (rs.length : Int)), .bool true]) (by simp [results, Tryz.results37, go_sem, hwr]) rfl ⟨A, rs.length, cap, by rw [HRN.out], HBF.out, HRS.out, HA.out.keep (fun _ _ => rfl) (fun b hb => ⟨Nat.le_trans HW0L.out hb.1, hb.2⟩)⟩
end Go.Proofs.YtfkhcpeahdkafaaGreat
