/- Operators: the reference's one and before, in worlds that grow. Operators: the reference's Valid. Operators: what Set keeps, in plain words. Operators: the reference's without and with. Operators: the reference's Find and Is. -/
import Derived.Test.YtfkhcpeahdkafaaGreatH07
import Derived.Shelf.SlSortCmp.QuietGrown
namespace Hb
open Go Go.RowKit
theorem bl_grow (w : World) (n : Nat) (os : Array Obj) : Below w.heap.size w (Sort.grow (w.drewN n) os) :=
 ⟨rfl, rfl, rfl, by show w.heap.size ≤ (w.heap ++ os).size; simp, fun k hk => by show (w.heap ++ os)[k]? = _; rw [Array.getElem?_append_left hk]⟩
end Hb
namespace Go.Proofs.YtfkhcpeahdkafaaGreat
open Go.RowKit Hb
set_option maxRecDepth 100000
set_option maxHeartbeats 1600000 in
theorem ref_one_up (o : OpR) (w : World) : Calls Tryz.prog 104 #[opV o] w fun e w' => e = .returned (.bool (opOk o)) ∧ ∃ q os', w' = Sort.grow (w.drewN q) os' := by
 unfold opV
 go_enter Tryz.func104, Tryz.ntmps104
 go_wp2_with (first | (go_at_call 99; (with_reducible refine (ref_classO o.typ _).mono ?_); rintro e w2 ⟨rfl, rfl⟩))
 all_goals go_ret
 all_goals refine ⟨ret_bool ?_, grows_of ((Below.refl _ _).alloc (Nat.le_refl _) _) (Nat.le_refl _)⟩
 all_goals unfold opOk isN
 all_goals grind
theorem ref_before_up (a b : OpR) (w : World) : Calls Tryz.prog 105 #[opV a, opV b] w fun e w' => e = .returned (.bool (befOp a b)) ∧ ∃ q os', w' = Sort.grow (w.drewN q) os' := by
 have H1 := CmpHeld.start w a b 82
 unfold opV
 cases h : (a.name.toList == b.name.toList)
 ·have hs := Lib.hid (show befOp a b = Op.bytesLess a.name.toList b.name.toList by unfold befOp; rw [h, if_neg (by simp)])
  have h2 : ¬a.name.toList = b.name.toList := by simpa using h
  go_enter Tryz.func105, Tryz.ntmps105
  go_wp2_with fail
  go_ret
  exact ⟨ret_bool hs.out.symm, grows_of H1.bel H1.dr⟩
 ·have hs := Lib.hid (show befOp a b = decide (clsOp a.typ < clsOp b.typ) by unfold befOp; rw [h, if_pos rfl])
  have h2 : a.name.toList = b.name.toList := by simpa using h
  go_enter Tryz.func105, Tryz.ntmps105
  go_wp2_with fail
  go_quiet ((go_at_call 99; first | with_reducible exact quiet0 ((ref_classO a.typ _).mono fun _ _ ⟨he, hw⟩ => ⟨he, hw.symm⟩) | with_reducible exact quiet0 ((ref_classO b.typ _).mono fun _ _ ⟨he, hw⟩ => ⟨he, hw.symm⟩)))
  go_wp2_with fail
  go_ret
  exact ⟨ret_bool hs.out.symm, grows_of (bl_drewN H1.bel _) (Nat.le_trans H1.dr (Nat.le_add_right _ _))⟩
end Go.Proofs.YtfkhcpeahdkafaaGreat
namespace Go.Proofs.YtfkhcpeahdkafaaGreat
open Go.RowKit Hb
set_option maxRecDepth 100000
theorem wpQuiet_run {P : Program} {ops : Array Oper} {C : World → Prop} {Q : Act → Prop} {a : Act} {o : Oper} {rest : List Oper} (hw : Region.wanted o (yielded ops a.tmps) = true) (h : ∀ K : Act → Prop, (∀ a, wpQuiet P ops C Q rest a → K a) → o.quiet P a C K) : wpQuiet P ops C Q (o :: rest) a :=
 wpQuiet_step fun K hK => by rw [if_pos hw]; exact h K hK
theorem wpQuiet_skip {P : Program} {ops : Array Oper} {C : World → Prop} {Q : Act → Prop} {a : Act} {o : Oper} {rest : List Oper} (hw : Region.wanted o (yielded ops a.tmps) = false) (h : wpQuiet P ops C Q rest (a.put o.dst undef)) : wpQuiet P ops C Q (o :: rest) a :=
 wpQuiet_step fun K hK => by rw [if_neg (by rw [hw]; simp)]; exact hK _ h
set_option maxHeartbeats 6400000 in
theorem ref_valid (A : Option Addr) (n cap : Nat) (l : List OpR) (w : World) (hn : n = l.length) (hm : n ≤ 400) (hp : OpsAt w A l) :
  Calls Tryz.prog 58 #[.slice A n cap] w fun e w' => e = .returned (.bool (opsValid l)) ∧ Below w.heap.size w w' := by
 by_cases c1 : 100 < n
 ·have b1 : decide ((100 : Int) < n) = true := by simp; omega
  have HV := Lib.hid (opsValid_long l (by omega))
  clear hn hp c1
  go_enter Tryz.func58, Tryz.ntmps58
  go_wp2_with fail
  go_ret
  exact ⟨ret_bool HV.out.symm, Below.refl _ _⟩
 have b1 : decide ((100 : Int) < n) = false := by simp; omega
 have h100 : n ≤ 100 := by omega
 have HN := Lib.hid hn
 have HP := Lib.hid hp
 have mixed : Tryz.prog.follows Departure.mixedOrders = true := by kernel_rfl
 clear hn hp c1
 go_enter Tryz.func58, Tryz.ntmps58
 go_wp2_with fail
 go_loopw [3] (fun i wr => ∃ k : Nat, k ≤ n ∧ i = .int .i64 k ∧ Below w.heap.size w wr ∧ Hid (∀ j, j < k → okJ l j = true)) (fun i _ => n - (intOf i).toNat)
 case atStart => exact ⟨0, Nat.zero_le _, rfl, Below.refl _ _, fun j hj => absurd hj (by omega)⟩
 case round =>
  obtain ⟨k, hk, rfl, hB, HA⟩ := hrel
  by_cases hlt : k < n
  ·have hbs := hB.size
   have hkl : k < l.length := by have := HN.out; omega
   obtain ⟨b, off, rfl, hb, c0, c1, c2⟩ := (HP.out.below hB) k hkl
   have hprev : 0 < k → wr.cell? ⟨b, off + (k - 1) * 3, none⟩ = some (.string (l[k - 1]'(by omega)).name) ∧ wr.cell? ⟨b, off + (k - 1) * 3 + 1, none⟩ = some (.int .i64 (l[k - 1]'(by omega)).typ) ∧ wr.cell? ⟨b, off + (k - 1) * 3 + 2, none⟩ = some (.int .i64 (l[k - 1]'(by omega)).prec) := fun h0 => by
    obtain ⟨b', off', e', _, d0, d1, d2⟩ := (HP.out.below hB) (k - 1) (by omega)
    injection e' with e'
    injection e' with e1 e2 _
    subst e1 e2
    exact ⟨d0, d1, d2⟩
   have HPr := Lib.hid hprev
   have J1 := Lib.hid (okJ_1 l k hkl)
   have J0 := Lib.hid (okJ_0 l k hkl)
   have JS := Lib.hid (okJ_s l k hkl)
   have HNO := Lib.hid (opsValid_no l k hkl)
   generalize l[k] = o at *
   clear hprev
   have hki0 : (0 : Int) ≤ (k : Int) := by omega
   have hki1 : (k : Int) < (n : Int) := by omega
   have HW := Lib.hid (fun W => ref_one_up o W)
   unfold opV at HW
   have hcW : ∀ n os, Calls Tryz.prog 104 #[.agg #[.string o.name, .int .i64 o.typ, .int .i64 o.prec]] (Sort.grow (wr.drewN n) os) fun e w' => e = .returned (.bool (opOk o)) ∧ ∃ q os', w' = Sort.grow ((Sort.grow (wr.drewN n) os).drewN q) os' := fun n os => HW.out _
   have HCW := Lib.hid hcW
   clear hcW HW
   have q0 : ∀ n os, (Sort.grow (wr.drewN n) os).cell? ⟨b, off + k * 3, none⟩ = some (.string o.name) := cell_grown hb c0
   have q1 : ∀ n os, (Sort.grow (wr.drewN n) os).cell? ⟨b, off + k * 3 + 1, none⟩ = some (.int .i64 o.typ) := cell_grown hb c1
   have q2 : ∀ n os, (Sort.grow (wr.drewN n) os).cell? ⟨b, off + k * 3 + 2, none⟩ = some (.int .i64 o.prec) := cell_grown hb c2
   clear c0 c1 c2
   by_cases h0 : k = 0
   ·have HH0 := Lib.hid h0
    have g1 : decide (0 < (k : Int)) = false := by simp; omega
    have g1b : decide (0 < k) = false := by simp; omega
    have g1c : ¬ (0 : Int) < (k : Int) := by omega
    clear h0
    cases hok : opOk o
    ·skip
     have HO := Lib.hid hok
     rw [hok] at HCW
     clear hok
     go_wp2_with fail
     refine wp_region_quiet_grown (by assumption) (by kernel_rfl) ?_
     with_reducible refine wpQuiet_run (by kernel_rfl) (fun K hK => ?_)
     go_simp
     refine hK _ ?_
     clear hK K
     with_reducible refine wpQuiet_run (by kernel_rfl) (fun K hK => ?_)
     go_simp
     refine hK _ ?_
     clear hK K
     with_reducible refine wpQuiet_run (by kernel_rfl) (fun K hK => ?_)
     go_simp
     refine hK _ ?_
     clear hK K
     with_reducible refine wpQuiet_run (by kernel_rfl) (fun K hK => ?_)
     go_simp
     refine hK _ ?_
     clear hK K
     with_reducible refine wpQuiet_run (by kernel_rfl) (fun K hK => ?_)
     go_simp
     apply Exists.intro
     refine ⟨fun _ => ?_, hK _ ?_⟩
     (go_at_call 104; (with_reducible refine Calls.grown_of (HCW.out _ _)))
     clear hK K
     with_reducible refine wpQuiet_run (by kernel_rfl) (fun K hK => ?_)
     go_simp
     refine hK _ ?_
     clear hK K
     with_reducible refine wpQuiet_run (by kernel_rfl) (fun K hK => ?_)
     go_simp
     refine hK _ ?_
     clear hK K
     with_reducible refine wpQuiet_skip (by kernel_rfl) ?_
     simp only [Act.put, List.setIfInBounds_toArray, List.set_cons_zero, List.set_cons_succ]
     with_reducible refine wpQuiet_skip (by kernel_rfl) ?_
     simp only [Act.put, List.setIfInBounds_toArray, List.set_cons_zero, List.set_cons_succ]
     with_reducible refine wpQuiet_skip (by kernel_rfl) ?_
     simp only [Act.put, List.setIfInBounds_toArray, List.set_cons_zero, List.set_cons_succ]
     with_reducible refine wpQuiet_skip (by kernel_rfl) ?_
     simp only [Act.put, List.setIfInBounds_toArray, List.set_cons_zero, List.set_cons_succ]
     with_reducible refine wpQuiet_skip (by kernel_rfl) ?_
     simp only [Act.put, List.setIfInBounds_toArray, List.set_cons_zero, List.set_cons_succ]
     with_reducible refine wpQuiet_skip (by kernel_rfl) ?_
     simp only [Act.put, List.setIfInBounds_toArray, List.set_cons_zero, List.set_cons_succ]
     with_reducible refine wpQuiet_skip (by kernel_rfl) ?_
     simp only [Act.put, List.setIfInBounds_toArray, List.set_cons_zero, List.set_cons_succ]
     with_reducible refine wpQuiet_skip (by kernel_rfl) ?_
     simp only [Act.put, List.setIfInBounds_toArray, List.set_cons_zero, List.set_cons_succ]
     with_reducible refine wpQuiet_skip (by kernel_rfl) ?_
     simp only [Act.put, List.setIfInBounds_toArray, List.set_cons_zero, List.set_cons_succ]
     with_reducible refine wpQuiet_skip (by kernel_rfl) ?_
     simp only [Act.put, List.setIfInBounds_toArray, List.set_cons_zero, List.set_cons_succ]
     with_reducible refine wpQuiet_skip (by kernel_rfl) ?_
     simp only [Act.put, List.setIfInBounds_toArray, List.set_cons_zero, List.set_cons_succ]
     with_reducible refine wpQuiet_skip (by kernel_rfl) ?_
     simp only [Act.put, List.setIfInBounds_toArray, List.set_cons_zero, List.set_cons_succ]
     with_reducible refine wpQuiet_skip (by kernel_rfl) ?_
     simp only [Act.put, List.setIfInBounds_toArray, List.set_cons_zero, List.set_cons_succ]
     with_reducible refine wpQuiet_skip (by kernel_rfl) ?_
     simp only [Act.put, List.setIfInBounds_toArray, List.set_cons_zero, List.set_cons_succ]
     with_reducible refine wpQuiet_skip (by kernel_rfl) ?_
     simp only [Act.put, List.setIfInBounds_toArray, List.set_cons_zero, List.set_cons_succ]
     with_reducible refine wpQuiet_run (by kernel_rfl) (fun K hK => ?_)
     go_simp
     refine hK _ ?_
     clear hK K
     refine wpQuiet_nil ?_
     intro _ hw'
     obtain ⟨⟨nq, osq⟩, hw''⟩ := hw'
     subst hw''
     have hBf := bl_grow wr nq osq
     go_wp2_with fail
     go_ret
     exact ⟨ret_bool (HNO.out (J1.out HO.out)).symm, hB.trans (hBf.mono hbs)⟩
    ·have HO := Lib.hid hok
     have HJ := Lib.hid (J0.out HH0.out hok)
     rw [hok] at HCW
     clear hok
     go_wp2_with fail
     refine wp_region_quiet_grown (by assumption) (by kernel_rfl) ?_
     with_reducible refine wpQuiet_run (by kernel_rfl) (fun K hK => ?_)
     go_simp
     refine hK _ ?_
     clear hK K
     with_reducible refine wpQuiet_run (by kernel_rfl) (fun K hK => ?_)
     go_simp
     refine hK _ ?_
     clear hK K
     with_reducible refine wpQuiet_run (by kernel_rfl) (fun K hK => ?_)
     go_simp
     refine hK _ ?_
     clear hK K
     with_reducible refine wpQuiet_run (by kernel_rfl) (fun K hK => ?_)
     go_simp
     refine hK _ ?_
     clear hK K
     with_reducible refine wpQuiet_run (by kernel_rfl) (fun K hK => ?_)
     go_simp
     apply Exists.intro
     refine ⟨fun _ => ?_, hK _ ?_⟩
     (go_at_call 104; (with_reducible refine Calls.grown_of (HCW.out _ _)))
     clear hK K
     with_reducible refine wpQuiet_run (by kernel_rfl) (fun K hK => ?_)
     go_simp
     refine hK _ ?_
     clear hK K
     with_reducible refine wpQuiet_run (by kernel_rfl) (fun K hK => ?_)
     go_simp
     refine hK _ ?_
     clear hK K
     with_reducible refine wpQuiet_run (by kernel_rfl) (fun K hK => ?_)
     go_simp
     refine hK _ ?_
     clear hK K
     with_reducible refine wpQuiet_run (by kernel_rfl) (fun K hK => ?_)
     go_simp
     refine hK _ ?_
     clear hK K
     with_reducible refine wpQuiet_run (by kernel_rfl) (fun K hK => ?_)
     go_simp
     refine hK _ ?_
     clear hK K
     with_reducible refine wpQuiet_skip (by kernel_rfl) ?_
     simp only [Act.put, List.setIfInBounds_toArray, List.set_cons_zero, List.set_cons_succ]
     with_reducible refine wpQuiet_skip (by kernel_rfl) ?_
     simp only [Act.put, List.setIfInBounds_toArray, List.set_cons_zero, List.set_cons_succ]
     with_reducible refine wpQuiet_skip (by kernel_rfl) ?_
     simp only [Act.put, List.setIfInBounds_toArray, List.set_cons_zero, List.set_cons_succ]
     with_reducible refine wpQuiet_skip (by kernel_rfl) ?_
     simp only [Act.put, List.setIfInBounds_toArray, List.set_cons_zero, List.set_cons_succ]
     with_reducible refine wpQuiet_skip (by kernel_rfl) ?_
     simp only [Act.put, List.setIfInBounds_toArray, List.set_cons_zero, List.set_cons_succ]
     with_reducible refine wpQuiet_skip (by kernel_rfl) ?_
     simp only [Act.put, List.setIfInBounds_toArray, List.set_cons_zero, List.set_cons_succ]
     with_reducible refine wpQuiet_skip (by kernel_rfl) ?_
     simp only [Act.put, List.setIfInBounds_toArray, List.set_cons_zero, List.set_cons_succ]
     with_reducible refine wpQuiet_skip (by kernel_rfl) ?_
     simp only [Act.put, List.setIfInBounds_toArray, List.set_cons_zero, List.set_cons_succ]
     with_reducible refine wpQuiet_skip (by kernel_rfl) ?_
     simp only [Act.put, List.setIfInBounds_toArray, List.set_cons_zero, List.set_cons_succ]
     with_reducible refine wpQuiet_skip (by kernel_rfl) ?_
     simp only [Act.put, List.setIfInBounds_toArray, List.set_cons_zero, List.set_cons_succ]
     with_reducible refine wpQuiet_skip (by kernel_rfl) ?_
     simp only [Act.put, List.setIfInBounds_toArray, List.set_cons_zero, List.set_cons_succ]
     with_reducible refine wpQuiet_run (by kernel_rfl) (fun K hK => ?_)
     go_simp
     refine hK _ ?_
     clear hK K
     with_reducible refine wpQuiet_run (by kernel_rfl) (fun K hK => ?_)
     go_simp
     refine hK _ ?_
     clear hK K
     refine wpQuiet_nil ?_
     intro _ hw'
     obtain ⟨⟨nq, osq⟩, hw''⟩ := hw'
     subst hw''
     have hBf := bl_grow wr nq osq
     have z0 := q0 nq osq
     have z1 := q1 nq osq
     have z2 := q2 nq osq
     have hbl := Nat.lt_of_lt_of_le hb hBf.size
     have hBm := hB.trans (hBf.mono hbs)
     generalize Sort.grow (wr.drewN nq) osq = w6 at *
     clear q0 q1 q2
     go_wp2_with fail
     refine wp_region_quiet_grown (by assumption) (by kernel_rfl) ?_
     with_reducible refine wpQuiet_run (by kernel_rfl) (fun K hK => ?_)
     go_simp
     refine hK _ ?_
     clear hK K
     with_reducible refine wpQuiet_run (by kernel_rfl) (fun K hK => ?_)
     go_simp
     refine hK _ ?_
     clear hK K
     with_reducible refine wpQuiet_run (by kernel_rfl) (fun K hK => ?_)
     go_simp
     refine hK _ ?_
     clear hK K
     with_reducible refine wpQuiet_skip (by kernel_rfl) ?_
     simp only [Act.put, List.setIfInBounds_toArray, List.set_cons_zero, List.set_cons_succ]
     with_reducible refine wpQuiet_skip (by kernel_rfl) ?_
     simp only [Act.put, List.setIfInBounds_toArray, List.set_cons_zero, List.set_cons_succ]
     with_reducible refine wpQuiet_skip (by kernel_rfl) ?_
     simp only [Act.put, List.setIfInBounds_toArray, List.set_cons_zero, List.set_cons_succ]
     with_reducible refine wpQuiet_skip (by kernel_rfl) ?_
     simp only [Act.put, List.setIfInBounds_toArray, List.set_cons_zero, List.set_cons_succ]
     with_reducible refine wpQuiet_skip (by kernel_rfl) ?_
     simp only [Act.put, List.setIfInBounds_toArray, List.set_cons_zero, List.set_cons_succ]
     with_reducible refine wpQuiet_skip (by kernel_rfl) ?_
     simp only [Act.put, List.setIfInBounds_toArray, List.set_cons_zero, List.set_cons_succ]
     with_reducible refine wpQuiet_skip (by kernel_rfl) ?_
     simp only [Act.put, List.setIfInBounds_toArray, List.set_cons_zero, List.set_cons_succ]
     with_reducible refine wpQuiet_skip (by kernel_rfl) ?_
     simp only [Act.put, List.setIfInBounds_toArray, List.set_cons_zero, List.set_cons_succ]
     with_reducible refine wpQuiet_skip (by kernel_rfl) ?_
     simp only [Act.put, List.setIfInBounds_toArray, List.set_cons_zero, List.set_cons_succ]
     with_reducible refine wpQuiet_skip (by kernel_rfl) ?_
     simp only [Act.put, List.setIfInBounds_toArray, List.set_cons_zero, List.set_cons_succ]
     with_reducible refine wpQuiet_skip (by kernel_rfl) ?_
     simp only [Act.put, List.setIfInBounds_toArray, List.set_cons_zero, List.set_cons_succ]
     with_reducible refine wpQuiet_skip (by kernel_rfl) ?_
     simp only [Act.put, List.setIfInBounds_toArray, List.set_cons_zero, List.set_cons_succ]
     with_reducible refine wpQuiet_run (by kernel_rfl) (fun K hK => ?_)
     go_simp
     refine hK _ ?_
     clear hK K
     with_reducible refine wpQuiet_run (by kernel_rfl) (fun K hK => ?_)
     go_simp
     refine hK _ ?_
     clear hK K
     with_reducible refine wpQuiet_skip (by kernel_rfl) ?_
     simp only [Act.put, List.setIfInBounds_toArray, List.set_cons_zero, List.set_cons_succ]
     with_reducible refine wpQuiet_skip (by kernel_rfl) ?_
     simp only [Act.put, List.setIfInBounds_toArray, List.set_cons_zero, List.set_cons_succ]
     with_reducible refine wpQuiet_skip (by kernel_rfl) ?_
     simp only [Act.put, List.setIfInBounds_toArray, List.set_cons_zero, List.set_cons_succ]
     with_reducible refine wpQuiet_skip (by kernel_rfl) ?_
     simp only [Act.put, List.setIfInBounds_toArray, List.set_cons_zero, List.set_cons_succ]
     with_reducible refine wpQuiet_skip (by kernel_rfl) ?_
     simp only [Act.put, List.setIfInBounds_toArray, List.set_cons_zero, List.set_cons_succ]
     with_reducible refine wpQuiet_skip (by kernel_rfl) ?_
     simp only [Act.put, List.setIfInBounds_toArray, List.set_cons_zero, List.set_cons_succ]
     with_reducible refine wpQuiet_skip (by kernel_rfl) ?_
     simp only [Act.put, List.setIfInBounds_toArray, List.set_cons_zero, List.set_cons_succ]
     with_reducible refine wpQuiet_skip (by kernel_rfl) ?_
     simp only [Act.put, List.setIfInBounds_toArray, List.set_cons_zero, List.set_cons_succ]
     with_reducible refine wpQuiet_run (by kernel_rfl) (fun K hK => ?_)
     go_simp
     refine hK _ ?_
     clear hK K
     with_reducible refine wpQuiet_run (by kernel_rfl) (fun K hK => ?_)
     go_simp
     refine hK _ ?_
     clear hK K
     with_reducible refine wpQuiet_skip (by kernel_rfl) ?_
     simp only [Act.put, List.setIfInBounds_toArray, List.set_cons_zero, List.set_cons_succ]
     with_reducible refine wpQuiet_skip (by kernel_rfl) ?_
     simp only [Act.put, List.setIfInBounds_toArray, List.set_cons_zero, List.set_cons_succ]
     with_reducible refine wpQuiet_skip (by kernel_rfl) ?_
     simp only [Act.put, List.setIfInBounds_toArray, List.set_cons_zero, List.set_cons_succ]
     with_reducible refine wpQuiet_skip (by kernel_rfl) ?_
     simp only [Act.put, List.setIfInBounds_toArray, List.set_cons_zero, List.set_cons_succ]
     with_reducible refine wpQuiet_skip (by kernel_rfl) ?_
     simp only [Act.put, List.setIfInBounds_toArray, List.set_cons_zero, List.set_cons_succ]
     with_reducible refine wpQuiet_skip (by kernel_rfl) ?_
     simp only [Act.put, List.setIfInBounds_toArray, List.set_cons_zero, List.set_cons_succ]
     with_reducible refine wpQuiet_skip (by kernel_rfl) ?_
     simp only [Act.put, List.setIfInBounds_toArray, List.set_cons_zero, List.set_cons_succ]
     with_reducible refine wpQuiet_run (by kernel_rfl) (fun K hK => ?_)
     go_simp
     refine hK _ ?_
     clear hK K
     refine wpQuiet_nil ?_
     intro _ hw'
     obtain ⟨⟨nq, osq⟩, hw''⟩ := hw'
     subst hw''
     have hBn := hBm.trans ((bl_grow w6 nq osq).mono hBm.size)
     go_wp2_with fail
     go_roundw
     case rel => exact ⟨k + 1, by omega, by go_num, hBn, Lib.hid fun j hj => by
      rcases Nat.lt_or_ge j k with h | h
      ·exact HA.out j h
      ·have : j = k := by omega
       subst this; exact HJ.out⟩
     case measure => simp [intOf] <;> omega
   ·have h0' : 0 < k := by omega
    obtain ⟨d0, d1, d2⟩ := HPr.out h0'
    have JS2 := Lib.hid (JS.out h0')
    clear JS HPr
    generalize l[k - 1]'(by omega) = p at *
    have r0 : ∀ n os, (Sort.grow (wr.drewN n) os).cell? ⟨b, off + (k - 1) * 3, none⟩ = some (.string p.name) := cell_grown hb d0
    have r1 : ∀ n os, (Sort.grow (wr.drewN n) os).cell? ⟨b, off + (k - 1) * 3 + 1, none⟩ = some (.int .i64 p.typ) := cell_grown hb d1
    have r2 : ∀ n os, (Sort.grow (wr.drewN n) os).cell? ⟨b, off + (k - 1) * 3 + 2, none⟩ = some (.int .i64 p.prec) := cell_grown hb d2
    clear d0 d1 d2
    have HX := Lib.hid (fun W => ref_before_up p o W)
    unfold opV at HX
    have HCX : Hid (∀ n os, Calls Tryz.prog 105 #[.agg #[.string p.name, .int .i64 p.typ, .int .i64 p.prec], .agg #[.string o.name, .int .i64 o.typ, .int .i64 o.prec]] (Sort.grow (wr.drewN n) os) fun e w' => e = .returned (.bool (befOp p o)) ∧ ∃ q os', w' = Sort.grow ((Sort.grow (wr.drewN n) os).drewN q) os') := Lib.hid fun n os => HX.out _
    clear HX
    have g1 : decide (0 < (k : Int)) = true := by simp; omega
    have g1b : decide (0 < k) = true := by simp; omega
    have p0 : (0 : Int) ≤ (k : Int) - 1 := by omega
    have p4 : (1 : Int) ≤ (k : Int) := by omega
    have p1 : (k : Int) - 1 < (n : Int) := by omega
    have p2 : IntKind.i64.wrap ((k : Int) - 1) = (k : Int) - 1 := IntWalk.i64_in _ (by omega)
    have p3 : ((k : Int) - 1).toNat = k - 1 := by omega
    clear h0
    cases hok : opOk o
    ·skip
     have HO := Lib.hid hok
     rw [hok] at HCW
     clear hok
     go_wp2_with fail
     refine wp_region_quiet_grown (by assumption) (by kernel_rfl) ?_
     with_reducible refine wpQuiet_run (by kernel_rfl) (fun K hK => ?_)
     go_simp
     refine hK _ ?_
     clear hK K
     with_reducible refine wpQuiet_run (by kernel_rfl) (fun K hK => ?_)
     go_simp
     refine hK _ ?_
     clear hK K
     with_reducible refine wpQuiet_run (by kernel_rfl) (fun K hK => ?_)
     go_simp
     refine hK _ ?_
     clear hK K
     with_reducible refine wpQuiet_run (by kernel_rfl) (fun K hK => ?_)
     go_simp
     refine hK _ ?_
     clear hK K
     with_reducible refine wpQuiet_run (by kernel_rfl) (fun K hK => ?_)
     go_simp
     apply Exists.intro
     refine ⟨fun _ => ?_, hK _ ?_⟩
     (go_at_call 104; (with_reducible refine Calls.grown_of (HCW.out _ _)))
     clear hK K
     with_reducible refine wpQuiet_run (by kernel_rfl) (fun K hK => ?_)
     go_simp
     refine hK _ ?_
     clear hK K
     with_reducible refine wpQuiet_run (by kernel_rfl) (fun K hK => ?_)
     go_simp
     refine hK _ ?_
     clear hK K
     with_reducible refine wpQuiet_skip (by kernel_rfl) ?_
     simp only [Act.put, List.setIfInBounds_toArray, List.set_cons_zero, List.set_cons_succ]
     with_reducible refine wpQuiet_skip (by kernel_rfl) ?_
     simp only [Act.put, List.setIfInBounds_toArray, List.set_cons_zero, List.set_cons_succ]
     with_reducible refine wpQuiet_skip (by kernel_rfl) ?_
     simp only [Act.put, List.setIfInBounds_toArray, List.set_cons_zero, List.set_cons_succ]
     with_reducible refine wpQuiet_skip (by kernel_rfl) ?_
     simp only [Act.put, List.setIfInBounds_toArray, List.set_cons_zero, List.set_cons_succ]
     with_reducible refine wpQuiet_skip (by kernel_rfl) ?_
     simp only [Act.put, List.setIfInBounds_toArray, List.set_cons_zero, List.set_cons_succ]
     with_reducible refine wpQuiet_skip (by kernel_rfl) ?_
     simp only [Act.put, List.setIfInBounds_toArray, List.set_cons_zero, List.set_cons_succ]
     with_reducible refine wpQuiet_skip (by kernel_rfl) ?_
     simp only [Act.put, List.setIfInBounds_toArray, List.set_cons_zero, List.set_cons_succ]
     with_reducible refine wpQuiet_skip (by kernel_rfl) ?_
     simp only [Act.put, List.setIfInBounds_toArray, List.set_cons_zero, List.set_cons_succ]
     with_reducible refine wpQuiet_skip (by kernel_rfl) ?_
     simp only [Act.put, List.setIfInBounds_toArray, List.set_cons_zero, List.set_cons_succ]
     with_reducible refine wpQuiet_skip (by kernel_rfl) ?_
     simp only [Act.put, List.setIfInBounds_toArray, List.set_cons_zero, List.set_cons_succ]
     with_reducible refine wpQuiet_skip (by kernel_rfl) ?_
     simp only [Act.put, List.setIfInBounds_toArray, List.set_cons_zero, List.set_cons_succ]
     with_reducible refine wpQuiet_skip (by kernel_rfl) ?_
     simp only [Act.put, List.setIfInBounds_toArray, List.set_cons_zero, List.set_cons_succ]
     with_reducible refine wpQuiet_skip (by kernel_rfl) ?_
     simp only [Act.put, List.setIfInBounds_toArray, List.set_cons_zero, List.set_cons_succ]
     with_reducible refine wpQuiet_skip (by kernel_rfl) ?_
     simp only [Act.put, List.setIfInBounds_toArray, List.set_cons_zero, List.set_cons_succ]
     with_reducible refine wpQuiet_skip (by kernel_rfl) ?_
     simp only [Act.put, List.setIfInBounds_toArray, List.set_cons_zero, List.set_cons_succ]
     with_reducible refine wpQuiet_run (by kernel_rfl) (fun K hK => ?_)
     go_simp
     refine hK _ ?_
     clear hK K
     refine wpQuiet_nil ?_
     intro _ hw'
     obtain ⟨⟨nq, osq⟩, hw''⟩ := hw'
     subst hw''
     have hBf := bl_grow wr nq osq
     go_wp2_with fail
     go_ret
     exact ⟨ret_bool (HNO.out (J1.out HO.out)).symm, hB.trans (hBf.mono hbs)⟩
    ·have HO := Lib.hid hok
     have HJS := Lib.hid ((JS2.out hok).trans (opLt_ref p o))
     rw [hok] at HCW
     clear hok
     cases hbf : befOp p o
     ·rw [hbf] at HCX HJS
      clear hbf
      go_wp2_with fail
      refine wp_region_quiet_grown (by assumption) (by kernel_rfl) ?_
      with_reducible refine wpQuiet_run (by kernel_rfl) (fun K hK => ?_)
      go_simp
      refine hK _ ?_
      clear hK K
      with_reducible refine wpQuiet_run (by kernel_rfl) (fun K hK => ?_)
      go_simp
      refine hK _ ?_
      clear hK K
      with_reducible refine wpQuiet_run (by kernel_rfl) (fun K hK => ?_)
      go_simp
      refine hK _ ?_
      clear hK K
      with_reducible refine wpQuiet_run (by kernel_rfl) (fun K hK => ?_)
      go_simp
      refine hK _ ?_
      clear hK K
      with_reducible refine wpQuiet_run (by kernel_rfl) (fun K hK => ?_)
      go_simp
      apply Exists.intro
      refine ⟨fun _ => ?_, hK _ ?_⟩
      (go_at_call 104; (with_reducible refine Calls.grown_of (HCW.out _ _)))
      clear hK K
      with_reducible refine wpQuiet_run (by kernel_rfl) (fun K hK => ?_)
      go_simp
      refine hK _ ?_
      clear hK K
      with_reducible refine wpQuiet_run (by kernel_rfl) (fun K hK => ?_)
      go_simp
      refine hK _ ?_
      clear hK K
      with_reducible refine wpQuiet_run (by kernel_rfl) (fun K hK => ?_)
      go_simp
      refine hK _ ?_
      clear hK K
      with_reducible refine wpQuiet_run (by kernel_rfl) (fun K hK => ?_)
      go_simp
      refine hK _ ?_
      clear hK K
      with_reducible refine wpQuiet_run (by kernel_rfl) (fun K hK => ?_)
      go_simp
      refine hK _ ?_
      clear hK K
      with_reducible refine wpQuiet_run (by kernel_rfl) (fun K hK => ?_)
      go_simp
      refine hK _ ?_
      clear hK K
      with_reducible refine wpQuiet_run (by kernel_rfl) (fun K hK => ?_)
      go_simp
      refine hK _ ?_
      clear hK K
      with_reducible refine wpQuiet_run (by kernel_rfl) (fun K hK => ?_)
      go_simp
      refine hK _ ?_
      clear hK K
      with_reducible refine wpQuiet_run (by kernel_rfl) (fun K hK => ?_)
      go_simp
      refine hK _ ?_
      clear hK K
      with_reducible refine wpQuiet_run (by kernel_rfl) (fun K hK => ?_)
      go_simp
      refine hK _ ?_
      clear hK K
      with_reducible refine wpQuiet_run (by kernel_rfl) (fun K hK => ?_)
      go_simp
      refine hK _ ?_
      clear hK K
      with_reducible refine wpQuiet_run (by kernel_rfl) (fun K hK => ?_)
      go_simp
      refine hK _ ?_
      clear hK K
      with_reducible refine wpQuiet_run (by kernel_rfl) (fun K hK => ?_)
      go_simp
      refine hK _ ?_
      clear hK K
      with_reducible refine wpQuiet_run (by kernel_rfl) (fun K hK => ?_)
      go_simp
      refine hK _ ?_
      clear hK K
      with_reducible refine wpQuiet_run (by kernel_rfl) (fun K hK => ?_)
      go_simp
      apply Exists.intro
      refine ⟨fun _ => ?_, hK _ ?_⟩
      (go_at_call 105; (with_reducible refine Calls.grown_of (HCX.out _ _)))
      clear hK K
      with_reducible refine wpQuiet_run (by kernel_rfl) (fun K hK => ?_)
      go_simp
      refine hK _ ?_
      clear hK K
      with_reducible refine wpQuiet_run (by kernel_rfl) (fun K hK => ?_)
      go_simp
      refine hK _ ?_
      clear hK K
      with_reducible refine wpQuiet_run (by kernel_rfl) (fun K hK => ?_)
      go_simp
      refine hK _ ?_
      clear hK K
      refine wpQuiet_nil ?_
      intro _ hw'
      obtain ⟨⟨nq, osq⟩, hw''⟩ := hw'
      subst hw''
      have hBf := bl_grow wr nq osq
      go_wp2_with fail
      go_ret
      exact ⟨ret_bool (HNO.out (HJS.out.trans rfl)).symm, hB.trans (hBf.mono hbs)⟩
     ·rw [hbf] at HCX HJS
      clear hbf
      go_wp2_with fail
      refine wp_region_quiet_grown (by assumption) (by kernel_rfl) ?_
      with_reducible refine wpQuiet_run (by kernel_rfl) (fun K hK => ?_)
      go_simp
      refine hK _ ?_
      clear hK K
      with_reducible refine wpQuiet_run (by kernel_rfl) (fun K hK => ?_)
      go_simp
      refine hK _ ?_
      clear hK K
      with_reducible refine wpQuiet_run (by kernel_rfl) (fun K hK => ?_)
      go_simp
      refine hK _ ?_
      clear hK K
      with_reducible refine wpQuiet_run (by kernel_rfl) (fun K hK => ?_)
      go_simp
      refine hK _ ?_
      clear hK K
      with_reducible refine wpQuiet_run (by kernel_rfl) (fun K hK => ?_)
      go_simp
      apply Exists.intro
      refine ⟨fun _ => ?_, hK _ ?_⟩
      (go_at_call 104; (with_reducible refine Calls.grown_of (HCW.out _ _)))
      clear hK K
      with_reducible refine wpQuiet_run (by kernel_rfl) (fun K hK => ?_)
      go_simp
      refine hK _ ?_
      clear hK K
      with_reducible refine wpQuiet_run (by kernel_rfl) (fun K hK => ?_)
      go_simp
      refine hK _ ?_
      clear hK K
      with_reducible refine wpQuiet_run (by kernel_rfl) (fun K hK => ?_)
      go_simp
      refine hK _ ?_
      clear hK K
      with_reducible refine wpQuiet_run (by kernel_rfl) (fun K hK => ?_)
      go_simp
      refine hK _ ?_
      clear hK K
      with_reducible refine wpQuiet_run (by kernel_rfl) (fun K hK => ?_)
      go_simp
      refine hK _ ?_
      clear hK K
      with_reducible refine wpQuiet_run (by kernel_rfl) (fun K hK => ?_)
      go_simp
      refine hK _ ?_
      clear hK K
      with_reducible refine wpQuiet_run (by kernel_rfl) (fun K hK => ?_)
      go_simp
      refine hK _ ?_
      clear hK K
      with_reducible refine wpQuiet_run (by kernel_rfl) (fun K hK => ?_)
      go_simp
      refine hK _ ?_
      clear hK K
      with_reducible refine wpQuiet_run (by kernel_rfl) (fun K hK => ?_)
      go_simp
      refine hK _ ?_
      clear hK K
      with_reducible refine wpQuiet_run (by kernel_rfl) (fun K hK => ?_)
      go_simp
      refine hK _ ?_
      clear hK K
      with_reducible refine wpQuiet_run (by kernel_rfl) (fun K hK => ?_)
      go_simp
      refine hK _ ?_
      clear hK K
      with_reducible refine wpQuiet_run (by kernel_rfl) (fun K hK => ?_)
      go_simp
      refine hK _ ?_
      clear hK K
      with_reducible refine wpQuiet_run (by kernel_rfl) (fun K hK => ?_)
      go_simp
      refine hK _ ?_
      clear hK K
      with_reducible refine wpQuiet_run (by kernel_rfl) (fun K hK => ?_)
      go_simp
      refine hK _ ?_
      clear hK K
      with_reducible refine wpQuiet_run (by kernel_rfl) (fun K hK => ?_)
      go_simp
      apply Exists.intro
      refine ⟨fun _ => ?_, hK _ ?_⟩
      (go_at_call 105; (with_reducible refine Calls.grown_of (HCX.out _ _)))
      clear hK K
      with_reducible refine wpQuiet_run (by kernel_rfl) (fun K hK => ?_)
      go_simp
      refine hK _ ?_
      clear hK K
      with_reducible refine wpQuiet_run (by kernel_rfl) (fun K hK => ?_)
      go_simp
      refine hK _ ?_
      clear hK K
      with_reducible refine wpQuiet_run (by kernel_rfl) (fun K hK => ?_)
      go_simp
      refine hK _ ?_
      clear hK K
      refine wpQuiet_nil ?_
      intro _ hw'
      obtain ⟨⟨nq, osq⟩, hw''⟩ := hw'
      subst hw''
      have hBf := bl_grow wr nq osq
      have z0 := q0 nq osq
      have z1 := q1 nq osq
      have z2 := q2 nq osq
      have y0 := r0 nq osq
      have y1 := r1 nq osq
      have y2 := r2 nq osq
      have hbl := Nat.lt_of_lt_of_le hb hBf.size
      have hBm := hB.trans (hBf.mono hbs)
      generalize Sort.grow (wr.drewN nq) osq = w6 at *
      clear q0 q1 q2
      clear r0 r1 r2 HCW HCX
      have q0 : ∀ n os, (Sort.grow (w6.drewN n) os).cell? ⟨b, off + k * 3, none⟩ = some (.string o.name) := cell_grown hbl z0
      have q1 : ∀ n os, (Sort.grow (w6.drewN n) os).cell? ⟨b, off + k * 3 + 1, none⟩ = some (.int .i64 o.typ) := cell_grown hbl z1
      have r0 : ∀ n os, (Sort.grow (w6.drewN n) os).cell? ⟨b, off + (k - 1) * 3, none⟩ = some (.string p.name) := cell_grown hbl y0
      have r1 : ∀ n os, (Sort.grow (w6.drewN n) os).cell? ⟨b, off + (k - 1) * 3 + 1, none⟩ = some (.int .i64 p.typ) := cell_grown hbl y1
      have HKP : Hid (∀ n os, Calls Tryz.prog 99 #[.int .i64 p.typ] (Sort.grow (w6.drewN n) os) fun e w' => e = .returned (.int .i64 (clsOp p.typ)) ∧ ∃ q os', w' = Sort.grow ((Sort.grow (w6.drewN n) os).drewN q) os') := Lib.hid fun n os => (ref_classO p.typ _).mono fun _ _ ⟨he, hw⟩ => ⟨he, 0, #[], by rw [hw, Sort.grow_empty]; rfl⟩
      have HKO : Hid (∀ n os, Calls Tryz.prog 99 #[.int .i64 o.typ] (Sort.grow (w6.drewN n) os) fun e w' => e = .returned (.int .i64 (clsOp o.typ)) ∧ ∃ q os', w' = Sort.grow ((Sort.grow (w6.drewN n) os).drewN q) os') := Lib.hid fun n os => (ref_classO o.typ _).mono fun _ _ ⟨he, hw⟩ => ⟨he, 0, #[], by rw [hw, Sort.grow_empty]; rfl⟩
      clear z0 z1 z2 y0 y1 y2
      cases hne : (p.name.toList == o.name.toList)
      ·rw [hne] at HJS
       have hn2 : ¬p.name.toList = o.name.toList := by simpa using hne
       have HJ := Lib.hid HJS.out
       go_wp2_with fail
       refine wp_region_quiet_grown (by assumption) (by kernel_rfl) ?_
       with_reducible refine wpQuiet_run (by kernel_rfl) (fun K hK => ?_)
       go_simp
       refine hK _ ?_
       clear hK K
       with_reducible refine wpQuiet_run (by kernel_rfl) (fun K hK => ?_)
       go_simp
       refine hK _ ?_
       clear hK K
       with_reducible refine wpQuiet_run (by kernel_rfl) (fun K hK => ?_)
       go_simp
       refine hK _ ?_
       clear hK K
       with_reducible refine wpQuiet_run (by kernel_rfl) (fun K hK => ?_)
       go_simp
       refine hK _ ?_
       clear hK K
       with_reducible refine wpQuiet_run (by kernel_rfl) (fun K hK => ?_)
       go_simp
       refine hK _ ?_
       clear hK K
       with_reducible refine wpQuiet_run (by kernel_rfl) (fun K hK => ?_)
       go_simp
       refine hK _ ?_
       clear hK K
       with_reducible refine wpQuiet_run (by kernel_rfl) (fun K hK => ?_)
       go_simp
       refine hK _ ?_
       clear hK K
       with_reducible refine wpQuiet_run (by kernel_rfl) (fun K hK => ?_)
       go_simp
       refine hK _ ?_
       clear hK K
       with_reducible refine wpQuiet_run (by kernel_rfl) (fun K hK => ?_)
       go_simp
       refine hK _ ?_
       clear hK K
       with_reducible refine wpQuiet_run (by kernel_rfl) (fun K hK => ?_)
       go_simp
       refine hK _ ?_
       clear hK K
       with_reducible refine wpQuiet_run (by kernel_rfl) (fun K hK => ?_)
       go_simp
       refine hK _ ?_
       clear hK K
       with_reducible refine wpQuiet_run (by kernel_rfl) (fun K hK => ?_)
       go_simp
       refine hK _ ?_
       clear hK K
       with_reducible refine wpQuiet_run (by kernel_rfl) (fun K hK => ?_)
       go_simp
       refine hK _ ?_
       clear hK K
       with_reducible refine wpQuiet_run (by kernel_rfl) (fun K hK => ?_)
       go_simp
       refine hK _ ?_
       clear hK K
       with_reducible refine wpQuiet_run (by kernel_rfl) (fun K hK => ?_)
       go_simp
       refine hK _ ?_
       clear hK K
       with_reducible refine wpQuiet_run (by kernel_rfl) (fun K hK => ?_)
       go_simp
       refine hK _ ?_
       clear hK K
       with_reducible refine wpQuiet_run (by kernel_rfl) (fun K hK => ?_)
       go_simp
       refine hK _ ?_
       clear hK K
       with_reducible refine wpQuiet_skip (by kernel_rfl) ?_
       simp only [Act.put, List.setIfInBounds_toArray, List.set_cons_zero, List.set_cons_succ]
       with_reducible refine wpQuiet_skip (by kernel_rfl) ?_
       simp only [Act.put, List.setIfInBounds_toArray, List.set_cons_zero, List.set_cons_succ]
       with_reducible refine wpQuiet_skip (by kernel_rfl) ?_
       simp only [Act.put, List.setIfInBounds_toArray, List.set_cons_zero, List.set_cons_succ]
       with_reducible refine wpQuiet_skip (by kernel_rfl) ?_
       simp only [Act.put, List.setIfInBounds_toArray, List.set_cons_zero, List.set_cons_succ]
       with_reducible refine wpQuiet_skip (by kernel_rfl) ?_
       simp only [Act.put, List.setIfInBounds_toArray, List.set_cons_zero, List.set_cons_succ]
       with_reducible refine wpQuiet_skip (by kernel_rfl) ?_
       simp only [Act.put, List.setIfInBounds_toArray, List.set_cons_zero, List.set_cons_succ]
       with_reducible refine wpQuiet_skip (by kernel_rfl) ?_
       simp only [Act.put, List.setIfInBounds_toArray, List.set_cons_zero, List.set_cons_succ]
       with_reducible refine wpQuiet_skip (by kernel_rfl) ?_
       simp only [Act.put, List.setIfInBounds_toArray, List.set_cons_zero, List.set_cons_succ]
       with_reducible refine wpQuiet_run (by kernel_rfl) (fun K hK => ?_)
       go_simp
       refine hK _ ?_
       clear hK K
       with_reducible refine wpQuiet_run (by kernel_rfl) (fun K hK => ?_)
       go_simp
       refine hK _ ?_
       clear hK K
       with_reducible refine wpQuiet_skip (by kernel_rfl) ?_
       simp only [Act.put, List.setIfInBounds_toArray, List.set_cons_zero, List.set_cons_succ]
       with_reducible refine wpQuiet_skip (by kernel_rfl) ?_
       simp only [Act.put, List.setIfInBounds_toArray, List.set_cons_zero, List.set_cons_succ]
       with_reducible refine wpQuiet_skip (by kernel_rfl) ?_
       simp only [Act.put, List.setIfInBounds_toArray, List.set_cons_zero, List.set_cons_succ]
       with_reducible refine wpQuiet_skip (by kernel_rfl) ?_
       simp only [Act.put, List.setIfInBounds_toArray, List.set_cons_zero, List.set_cons_succ]
       with_reducible refine wpQuiet_skip (by kernel_rfl) ?_
       simp only [Act.put, List.setIfInBounds_toArray, List.set_cons_zero, List.set_cons_succ]
       with_reducible refine wpQuiet_skip (by kernel_rfl) ?_
       simp only [Act.put, List.setIfInBounds_toArray, List.set_cons_zero, List.set_cons_succ]
       with_reducible refine wpQuiet_skip (by kernel_rfl) ?_
       simp only [Act.put, List.setIfInBounds_toArray, List.set_cons_zero, List.set_cons_succ]
       with_reducible refine wpQuiet_run (by kernel_rfl) (fun K hK => ?_)
       go_simp
       refine hK _ ?_
       clear hK K
       refine wpQuiet_nil ?_
       intro _ hw'
       obtain ⟨⟨nq, osq⟩, hw''⟩ := hw'
       subst hw''
       have hBn := hBm.trans ((bl_grow w6 nq osq).mono hBm.size)
       go_wp2_with fail
       go_roundw
       case rel => exact ⟨k + 1, by omega, by go_num, hBn, Lib.hid fun j hj => by
        rcases Nat.lt_or_ge j k with h | h
        ·exact HA.out j h
        ·have : j = k := by omega
         subst this; exact HJ.out⟩
       case measure => simp [intOf] <;> omega
      ·rw [hne] at HJS
       have hn2 : p.name.toList = o.name.toList := by simpa using hne
       generalize clsOp p.typ = cp at *
       generalize clsOp o.typ = co at *
       cases hc2 : (cp == 2)
       ·rw [hc2] at HJS
        have hc2' : ¬cp = 2 := by simpa using hc2
        have HJ := Lib.hid HJS.out
        go_wp2_with fail
        refine wp_region_quiet_grown (by assumption) (by kernel_rfl) ?_
        with_reducible refine wpQuiet_run (by kernel_rfl) (fun K hK => ?_)
        go_simp
        refine hK _ ?_
        clear hK K
        with_reducible refine wpQuiet_run (by kernel_rfl) (fun K hK => ?_)
        go_simp
        refine hK _ ?_
        clear hK K
        with_reducible refine wpQuiet_run (by kernel_rfl) (fun K hK => ?_)
        go_simp
        refine hK _ ?_
        clear hK K
        with_reducible refine wpQuiet_run (by kernel_rfl) (fun K hK => ?_)
        go_simp
        refine hK _ ?_
        clear hK K
        with_reducible refine wpQuiet_run (by kernel_rfl) (fun K hK => ?_)
        go_simp
        refine hK _ ?_
        clear hK K
        with_reducible refine wpQuiet_run (by kernel_rfl) (fun K hK => ?_)
        go_simp
        refine hK _ ?_
        clear hK K
        with_reducible refine wpQuiet_run (by kernel_rfl) (fun K hK => ?_)
        go_simp
        refine hK _ ?_
        clear hK K
        with_reducible refine wpQuiet_run (by kernel_rfl) (fun K hK => ?_)
        go_simp
        refine hK _ ?_
        clear hK K
        with_reducible refine wpQuiet_run (by kernel_rfl) (fun K hK => ?_)
        go_simp
        refine hK _ ?_
        clear hK K
        with_reducible refine wpQuiet_run (by kernel_rfl) (fun K hK => ?_)
        go_simp
        refine hK _ ?_
        clear hK K
        with_reducible refine wpQuiet_run (by kernel_rfl) (fun K hK => ?_)
        go_simp
        refine hK _ ?_
        clear hK K
        with_reducible refine wpQuiet_run (by kernel_rfl) (fun K hK => ?_)
        go_simp
        refine hK _ ?_
        clear hK K
        with_reducible refine wpQuiet_run (by kernel_rfl) (fun K hK => ?_)
        go_simp
        refine hK _ ?_
        clear hK K
        with_reducible refine wpQuiet_run (by kernel_rfl) (fun K hK => ?_)
        go_simp
        refine hK _ ?_
        clear hK K
        with_reducible refine wpQuiet_run (by kernel_rfl) (fun K hK => ?_)
        go_simp
        refine hK _ ?_
        clear hK K
        with_reducible refine wpQuiet_run (by kernel_rfl) (fun K hK => ?_)
        go_simp
        refine hK _ ?_
        clear hK K
        with_reducible refine wpQuiet_run (by kernel_rfl) (fun K hK => ?_)
        go_simp
        refine hK _ ?_
        clear hK K
        with_reducible refine wpQuiet_run (by kernel_rfl) (fun K hK => ?_)
        go_simp
        refine hK _ ?_
        clear hK K
        with_reducible refine wpQuiet_run (by kernel_rfl) (fun K hK => ?_)
        go_simp
        refine hK _ ?_
        clear hK K
        with_reducible refine wpQuiet_run (by kernel_rfl) (fun K hK => ?_)
        go_simp
        refine hK _ ?_
        clear hK K
        with_reducible refine wpQuiet_run (by kernel_rfl) (fun K hK => ?_)
        go_simp
        refine hK _ ?_
        clear hK K
        with_reducible refine wpQuiet_run (by kernel_rfl) (fun K hK => ?_)
        go_simp
        refine hK _ ?_
        clear hK K
        with_reducible refine wpQuiet_run (by kernel_rfl) (fun K hK => ?_)
        go_simp
        refine hK _ ?_
        clear hK K
        with_reducible refine wpQuiet_run (by kernel_rfl) (fun K hK => ?_)
        go_simp
        apply Exists.intro
        refine ⟨fun _ => ?_, hK _ ?_⟩
        (go_at_call 99; (with_reducible refine Calls.grown_of (HKP.out _ _)))
        clear hK K
        with_reducible refine wpQuiet_run (by kernel_rfl) (fun K hK => ?_)
        go_simp
        refine hK _ ?_
        clear hK K
        with_reducible refine wpQuiet_run (by kernel_rfl) (fun K hK => ?_)
        go_simp
        refine hK _ ?_
        clear hK K
        with_reducible refine wpQuiet_run (by kernel_rfl) (fun K hK => ?_)
        go_simp
        refine hK _ ?_
        clear hK K
        with_reducible refine wpQuiet_skip (by kernel_rfl) ?_
        simp only [Act.put, List.setIfInBounds_toArray, List.set_cons_zero, List.set_cons_succ]
        with_reducible refine wpQuiet_skip (by kernel_rfl) ?_
        simp only [Act.put, List.setIfInBounds_toArray, List.set_cons_zero, List.set_cons_succ]
        with_reducible refine wpQuiet_skip (by kernel_rfl) ?_
        simp only [Act.put, List.setIfInBounds_toArray, List.set_cons_zero, List.set_cons_succ]
        with_reducible refine wpQuiet_skip (by kernel_rfl) ?_
        simp only [Act.put, List.setIfInBounds_toArray, List.set_cons_zero, List.set_cons_succ]
        with_reducible refine wpQuiet_skip (by kernel_rfl) ?_
        simp only [Act.put, List.setIfInBounds_toArray, List.set_cons_zero, List.set_cons_succ]
        with_reducible refine wpQuiet_skip (by kernel_rfl) ?_
        simp only [Act.put, List.setIfInBounds_toArray, List.set_cons_zero, List.set_cons_succ]
        with_reducible refine wpQuiet_skip (by kernel_rfl) ?_
        simp only [Act.put, List.setIfInBounds_toArray, List.set_cons_zero, List.set_cons_succ]
        with_reducible refine wpQuiet_run (by kernel_rfl) (fun K hK => ?_)
        go_simp
        refine hK _ ?_
        clear hK K
        refine wpQuiet_nil ?_
        intro _ hw'
        obtain ⟨⟨nq, osq⟩, hw''⟩ := hw'
        subst hw''
        have hBn := hBm.trans ((bl_grow w6 nq osq).mono hBm.size)
        go_wp2_with fail
        go_roundw
        case rel => exact ⟨k + 1, by omega, by go_num, hBn, Lib.hid fun j hj => by
         rcases Nat.lt_or_ge j k with h | h
         ·exact HA.out j h
         ·have : j = k := by omega
          subst this; exact HJ.out⟩
        case measure => simp [intOf] <;> omega
       ·rw [hc2] at HJS
        have hc2' : cp = 2 := by simpa using hc2
        cases hc3 : (co == 3)
        ·rw [hc3] at HJS
         have hc3' : ¬co = 3 := by simpa using hc3
         have HJ := Lib.hid HJS.out
         go_wp2_with fail
         refine wp_region_quiet_grown (by assumption) (by kernel_rfl) ?_
         with_reducible refine wpQuiet_run (by kernel_rfl) (fun K hK => ?_)
         go_simp
         refine hK _ ?_
         clear hK K
         with_reducible refine wpQuiet_run (by kernel_rfl) (fun K hK => ?_)
         go_simp
         refine hK _ ?_
         clear hK K
         with_reducible refine wpQuiet_run (by kernel_rfl) (fun K hK => ?_)
         go_simp
         refine hK _ ?_
         clear hK K
         with_reducible refine wpQuiet_run (by kernel_rfl) (fun K hK => ?_)
         go_simp
         refine hK _ ?_
         clear hK K
         with_reducible refine wpQuiet_run (by kernel_rfl) (fun K hK => ?_)
         go_simp
         refine hK _ ?_
         clear hK K
         with_reducible refine wpQuiet_run (by kernel_rfl) (fun K hK => ?_)
         go_simp
         refine hK _ ?_
         clear hK K
         with_reducible refine wpQuiet_run (by kernel_rfl) (fun K hK => ?_)
         go_simp
         refine hK _ ?_
         clear hK K
         with_reducible refine wpQuiet_run (by kernel_rfl) (fun K hK => ?_)
         go_simp
         refine hK _ ?_
         clear hK K
         with_reducible refine wpQuiet_run (by kernel_rfl) (fun K hK => ?_)
         go_simp
         refine hK _ ?_
         clear hK K
         with_reducible refine wpQuiet_run (by kernel_rfl) (fun K hK => ?_)
         go_simp
         refine hK _ ?_
         clear hK K
         with_reducible refine wpQuiet_run (by kernel_rfl) (fun K hK => ?_)
         go_simp
         refine hK _ ?_
         clear hK K
         with_reducible refine wpQuiet_run (by kernel_rfl) (fun K hK => ?_)
         go_simp
         refine hK _ ?_
         clear hK K
         with_reducible refine wpQuiet_run (by kernel_rfl) (fun K hK => ?_)
         go_simp
         refine hK _ ?_
         clear hK K
         with_reducible refine wpQuiet_run (by kernel_rfl) (fun K hK => ?_)
         go_simp
         refine hK _ ?_
         clear hK K
         with_reducible refine wpQuiet_run (by kernel_rfl) (fun K hK => ?_)
         go_simp
         refine hK _ ?_
         clear hK K
         with_reducible refine wpQuiet_run (by kernel_rfl) (fun K hK => ?_)
         go_simp
         refine hK _ ?_
         clear hK K
         with_reducible refine wpQuiet_run (by kernel_rfl) (fun K hK => ?_)
         go_simp
         refine hK _ ?_
         clear hK K
         with_reducible refine wpQuiet_run (by kernel_rfl) (fun K hK => ?_)
         go_simp
         refine hK _ ?_
         clear hK K
         with_reducible refine wpQuiet_run (by kernel_rfl) (fun K hK => ?_)
         go_simp
         refine hK _ ?_
         clear hK K
         with_reducible refine wpQuiet_run (by kernel_rfl) (fun K hK => ?_)
         go_simp
         refine hK _ ?_
         clear hK K
         with_reducible refine wpQuiet_run (by kernel_rfl) (fun K hK => ?_)
         go_simp
         refine hK _ ?_
         clear hK K
         with_reducible refine wpQuiet_run (by kernel_rfl) (fun K hK => ?_)
         go_simp
         refine hK _ ?_
         clear hK K
         with_reducible refine wpQuiet_run (by kernel_rfl) (fun K hK => ?_)
         go_simp
         refine hK _ ?_
         clear hK K
         with_reducible refine wpQuiet_run (by kernel_rfl) (fun K hK => ?_)
         go_simp
         apply Exists.intro
         refine ⟨fun _ => ?_, hK _ ?_⟩
         (go_at_call 99; (with_reducible refine Calls.grown_of (HKP.out _ _)))
         clear hK K
         with_reducible refine wpQuiet_run (by kernel_rfl) (fun K hK => ?_)
         go_simp
         refine hK _ ?_
         clear hK K
         with_reducible refine wpQuiet_run (by kernel_rfl) (fun K hK => ?_)
         go_simp
         refine hK _ ?_
         clear hK K
         with_reducible refine wpQuiet_run (by kernel_rfl) (fun K hK => ?_)
         go_simp
         refine hK _ ?_
         clear hK K
         with_reducible refine wpQuiet_run (by kernel_rfl) (fun K hK => ?_)
         go_simp
         refine hK _ ?_
         clear hK K
         with_reducible refine wpQuiet_run (by kernel_rfl) (fun K hK => ?_)
         go_simp
         refine hK _ ?_
         clear hK K
         with_reducible refine wpQuiet_run (by kernel_rfl) (fun K hK => ?_)
         go_simp
         refine hK _ ?_
         clear hK K
         with_reducible refine wpQuiet_run (by kernel_rfl) (fun K hK => ?_)
         go_simp
         refine hK _ ?_
         clear hK K
         with_reducible refine wpQuiet_run (by kernel_rfl) (fun K hK => ?_)
         go_simp
         refine hK _ ?_
         clear hK K
         with_reducible refine wpQuiet_run (by kernel_rfl) (fun K hK => ?_)
         go_simp
         apply Exists.intro
         refine ⟨fun _ => ?_, hK _ ?_⟩
         (go_at_call 99; (with_reducible refine Calls.grown_of (HKO.out _ _)))
         clear hK K
         with_reducible refine wpQuiet_run (by kernel_rfl) (fun K hK => ?_)
         go_simp
         refine hK _ ?_
         clear hK K
         with_reducible refine wpQuiet_run (by kernel_rfl) (fun K hK => ?_)
         go_simp
         refine hK _ ?_
         clear hK K
         refine wpQuiet_nil ?_
         intro _ hw'
         obtain ⟨⟨nq, osq⟩, hw''⟩ := hw'
         subst hw''
         have hBn := hBm.trans ((bl_grow w6 nq osq).mono hBm.size)
         go_wp2_with fail
         go_roundw
         case rel => exact ⟨k + 1, by omega, by go_num, hBn, Lib.hid fun j hj => by
          rcases Nat.lt_or_ge j k with h | h
          ·exact HA.out j h
          ·have : j = k := by omega
           subst this; exact HJ.out⟩
         case measure => simp [intOf] <;> omega
        ·rw [hc3] at HJS
         have hc3' : co = 3 := by simpa using hc3
         go_wp2_with fail
         refine wp_region_quiet_grown (by assumption) (by kernel_rfl) ?_
         with_reducible refine wpQuiet_run (by kernel_rfl) (fun K hK => ?_)
         go_simp
         refine hK _ ?_
         clear hK K
         with_reducible refine wpQuiet_run (by kernel_rfl) (fun K hK => ?_)
         go_simp
         refine hK _ ?_
         clear hK K
         with_reducible refine wpQuiet_run (by kernel_rfl) (fun K hK => ?_)
         go_simp
         refine hK _ ?_
         clear hK K
         with_reducible refine wpQuiet_run (by kernel_rfl) (fun K hK => ?_)
         go_simp
         refine hK _ ?_
         clear hK K
         with_reducible refine wpQuiet_run (by kernel_rfl) (fun K hK => ?_)
         go_simp
         refine hK _ ?_
         clear hK K
         with_reducible refine wpQuiet_run (by kernel_rfl) (fun K hK => ?_)
         go_simp
         refine hK _ ?_
         clear hK K
         with_reducible refine wpQuiet_run (by kernel_rfl) (fun K hK => ?_)
         go_simp
         refine hK _ ?_
         clear hK K
         with_reducible refine wpQuiet_run (by kernel_rfl) (fun K hK => ?_)
         go_simp
         refine hK _ ?_
         clear hK K
         with_reducible refine wpQuiet_run (by kernel_rfl) (fun K hK => ?_)
         go_simp
         refine hK _ ?_
         clear hK K
         with_reducible refine wpQuiet_run (by kernel_rfl) (fun K hK => ?_)
         go_simp
         refine hK _ ?_
         clear hK K
         with_reducible refine wpQuiet_run (by kernel_rfl) (fun K hK => ?_)
         go_simp
         refine hK _ ?_
         clear hK K
         with_reducible refine wpQuiet_run (by kernel_rfl) (fun K hK => ?_)
         go_simp
         refine hK _ ?_
         clear hK K
         with_reducible refine wpQuiet_run (by kernel_rfl) (fun K hK => ?_)
         go_simp
         refine hK _ ?_
         clear hK K
         with_reducible refine wpQuiet_run (by kernel_rfl) (fun K hK => ?_)
         go_simp
         refine hK _ ?_
         clear hK K
         with_reducible refine wpQuiet_run (by kernel_rfl) (fun K hK => ?_)
         go_simp
         refine hK _ ?_
         clear hK K
         with_reducible refine wpQuiet_run (by kernel_rfl) (fun K hK => ?_)
         go_simp
         refine hK _ ?_
         clear hK K
         with_reducible refine wpQuiet_run (by kernel_rfl) (fun K hK => ?_)
         go_simp
         refine hK _ ?_
         clear hK K
         with_reducible refine wpQuiet_run (by kernel_rfl) (fun K hK => ?_)
         go_simp
         refine hK _ ?_
         clear hK K
         with_reducible refine wpQuiet_run (by kernel_rfl) (fun K hK => ?_)
         go_simp
         refine hK _ ?_
         clear hK K
         with_reducible refine wpQuiet_run (by kernel_rfl) (fun K hK => ?_)
         go_simp
         refine hK _ ?_
         clear hK K
         with_reducible refine wpQuiet_run (by kernel_rfl) (fun K hK => ?_)
         go_simp
         refine hK _ ?_
         clear hK K
         with_reducible refine wpQuiet_run (by kernel_rfl) (fun K hK => ?_)
         go_simp
         refine hK _ ?_
         clear hK K
         with_reducible refine wpQuiet_run (by kernel_rfl) (fun K hK => ?_)
         go_simp
         refine hK _ ?_
         clear hK K
         with_reducible refine wpQuiet_run (by kernel_rfl) (fun K hK => ?_)
         go_simp
         apply Exists.intro
         refine ⟨fun _ => ?_, hK _ ?_⟩
         (go_at_call 99; (with_reducible refine Calls.grown_of (HKP.out _ _)))
         clear hK K
         with_reducible refine wpQuiet_run (by kernel_rfl) (fun K hK => ?_)
         go_simp
         refine hK _ ?_
         clear hK K
         with_reducible refine wpQuiet_run (by kernel_rfl) (fun K hK => ?_)
         go_simp
         refine hK _ ?_
         clear hK K
         with_reducible refine wpQuiet_run (by kernel_rfl) (fun K hK => ?_)
         go_simp
         refine hK _ ?_
         clear hK K
         with_reducible refine wpQuiet_run (by kernel_rfl) (fun K hK => ?_)
         go_simp
         refine hK _ ?_
         clear hK K
         with_reducible refine wpQuiet_run (by kernel_rfl) (fun K hK => ?_)
         go_simp
         refine hK _ ?_
         clear hK K
         with_reducible refine wpQuiet_run (by kernel_rfl) (fun K hK => ?_)
         go_simp
         refine hK _ ?_
         clear hK K
         with_reducible refine wpQuiet_run (by kernel_rfl) (fun K hK => ?_)
         go_simp
         refine hK _ ?_
         clear hK K
         with_reducible refine wpQuiet_run (by kernel_rfl) (fun K hK => ?_)
         go_simp
         refine hK _ ?_
         clear hK K
         with_reducible refine wpQuiet_run (by kernel_rfl) (fun K hK => ?_)
         go_simp
         apply Exists.intro
         refine ⟨fun _ => ?_, hK _ ?_⟩
         (go_at_call 99; (with_reducible refine Calls.grown_of (HKO.out _ _)))
         clear hK K
         with_reducible refine wpQuiet_run (by kernel_rfl) (fun K hK => ?_)
         go_simp
         refine hK _ ?_
         clear hK K
         with_reducible refine wpQuiet_run (by kernel_rfl) (fun K hK => ?_)
         go_simp
         refine hK _ ?_
         clear hK K
         refine wpQuiet_nil ?_
         intro _ hw'
         obtain ⟨⟨nq, osq⟩, hw''⟩ := hw'
         subst hw''
         have hBn := hBm.trans ((bl_grow w6 nq osq).mono hBm.size)
         go_wp2_with fail
         go_ret
         exact ⟨ret_bool (HNO.out (HJS.out.trans rfl)).symm, hBn⟩
  ·obtain rfl : k = n := by omega
   have HY := Lib.hid (opsValid_yes l (by have := HN.out; omega) (fun j hj => HA.out j (by have := HN.out; omega)))
   go_wp2_with fail
   go_ret
   exact ⟨ret_bool HY.out.symm, hB⟩
end Go.Proofs.YtfkhcpeahdkafaaGreat
namespace Hb
open Go Go.RowKit
theorem sorted_idx {l : List OpR} (h : Sorted l) {i j : Nat} (hj : j < l.length) (hij : i < j) : befOp (l[i]'(by omega)) l[j] = true := (List.pairwise_iff_getElem.1 h) i j (by omega) hj hij
theorem bef_names {a b : OpR} (h : befOp a b = true) : a.name.toList ≤ b.name.toList := by
 rw [befOp_iff] at h
 rcases h with h | ⟨h, _⟩
 ·exact List.le_of_lt h
 ·rw [h]; exact List.le_refl _
theorem bef_cls {a b : OpR} (h : befOp a b = true) (he : a.name.toList = b.name.toList) : clsOp a.typ < clsOp b.typ := by
 rw [befOp_iff] at h
 rcases h with h | ⟨_, h⟩
 ·rw [he] at h; exact absurd h (List.lt_irrefl _)
 ·exact h
def NoMix (l : List OpR) : Prop := ∀ a ∈ l, ∀ b ∈ l, a.name.toList = b.name.toList → ¬(clsOp a.typ = 2 ∧ clsOp b.typ = 3)
theorem nomix_valid {l : List OpR} (h : opsValid l = true) : NoMix l := by
 intro a ha b hb hn ⟨h2, h3⟩
 have hs := sorted_valid h
 obtain ⟨i, hi, rfl⟩ := List.getElem_of_mem ha
 obtain ⟨j, hj, rfl⟩ := List.getElem_of_mem hb
 rcases Nat.lt_trichotomy i j with hij | hij | hij
 ·rcases Nat.eq_or_lt_of_le (show i + 1 ≤ j from hij) with he | hlt
  ·subst he
   have := valid_next h i hj
   rw [opLt_ref, hn, h2, h3] at this
   simp at this
  ·have b1 := sorted_idx hs (i := i) (j := i + 1) (by omega) (by omega)
   have b2 := sorted_idx hs (i := i + 1) (j := j) hj hlt
   have n1 := bef_names b1
   have n2 := bef_names b2
   have e1 : l[i].name.toList = l[i + 1].name.toList := List.le_antisymm n1 (by rw [hn]; exact n2)
   have c1 := bef_cls b1 e1
   have c2 := bef_cls b2 (e1.symm.trans hn)
   omega
 ·subst hij; omega
 ·have := bef_cls (sorted_idx hs hi hij) hn.symm
  omega
theorem valid_of {l : List OpR} (h1 : l.length ≤ 100) (h2 : ∀ a ∈ l, opOk a = true) (h3 : Sorted l) (h4 : NoMix l) : opsValid l = true := by
 refine opsValid_yes l h1 fun j hj => ?_
 unfold okJ
 rw [getD_at l j hj, h2 _ (List.getElem_mem hj)]
 rcases Nat.eq_zero_or_pos j with h0 | h0
 ·subst h0; rfl
 ·have hp := sorted_idx h3 hj (show j - 1 < j by omega)
  rw [getD_at l (j - 1) (by omega), opLt_ref, hp]
  have hne : ¬((l[j - 1].name.toList == l[j].name.toList && (clsOp l[j - 1].typ == 2 && clsOp l[j].typ == 3)) = true) := by
   intro hh
   simp only [Bool.and_eq_true, beq_iff_eq] at hh
   exact h4 _ (List.getElem_mem _) _ (List.getElem_mem hj) hh.1 hh.2
  rw [Bool.not_eq_true] at hne
  rw [hne]; simp
theorem valid_all {l : List OpR} (h : opsValid l = true) : ∀ a ∈ l, opOk a = true := by
 intro a ha
 obtain ⟨j, hj, rfl⟩ := List.getElem_of_mem ha
 exact valid_ok h j hj
theorem find_one {l : List OpR} (hs : Sorted l) {name : ByteArray} {c : Int} {a : OpR} (ha : a ∈ l) (hi : isOp name c a = true) : l.find? (isOp name c) = some a := by
 cases hf : l.find? (isOp name c) with
 | none => rw [List.find?_eq_none] at hf; exact absurd hi (hf a ha)
 | some b =>
  have hb := List.mem_of_find?_eq_some hf
  have hib := List.find?_some hf
  unfold isOp at hi hib
  simp only [Bool.and_eq_true, beq_iff_eq] at hi hib
  obtain ⟨i, hi1, rfl⟩ := List.getElem_of_mem ha
  obtain ⟨j, hj1, rfl⟩ := List.getElem_of_mem hb
  rcases Nat.lt_trichotomy i j with hij | hij | hij
  ·have := bef_cls (sorted_idx hs hj1 hij) (hi.1.trans hib.1.symm)
   omega
  ·subst hij; rfl
  ·have := bef_cls (sorted_idx hs hi1 hij) (hib.1.trans hi.1.symm)
   omega
theorem mem_rest {o a : OpR} {l : List OpR} : a ∈ restL o l ↔ a ∈ l ∧ eqOp o a = false := by
 unfold restL
 rw [List.mem_filter]
 simp
theorem mem_new {o a : OpR} {l : List OpR} : a ∈ newL l o ↔ (0 < o.prec ∧ a = o) ∨ (a ∈ l ∧ eqOp o a = false) := by
 unfold newL
 split
 ·rename_i h
  rw [(insO_perm o (restL o l)).mem_iff, List.mem_cons, mem_rest]
  simp [h]
 ·rename_i h
  rw [mem_rest]
  simp [h]
theorem sorted_ins {o : OpR} : ∀ {t : List OpR}, Sorted t → (∀ a ∈ t, eqOp o a = false) → Sorted (insO o t)
 | [], _, _ => by unfold insO Sorted; simp
 | a :: t, h, hne => by
  unfold Sorted at h ⊢
  rw [List.pairwise_cons] at h
  unfold insO
  split
  ·rename_i hc
   rw [List.pairwise_cons]
   refine ⟨fun b hb => ?_, List.pairwise_cons.2 h⟩
   rcases List.mem_cons.1 hb with rfl | hb
   ·exact (cmp_bef _ _).1 hc
   ·exact bef_trans ((cmp_bef _ _).1 hc) (h.1 b hb)
  ·rename_i hc
   rw [List.pairwise_cons]
   refine ⟨fun b hb => ?_, sorted_ins h.2 fun b hb => hne b (by simp [hb])⟩
   rcases List.mem_cons.1 ((insO_perm o t).mem_iff.1 hb) with rfl | hb
   ·have h1 : befOp b a = false := by rw [← Bool.not_eq_true, ← cmp_bef]; exact hc
    have h2 : eqOp a b = false := by
     have := hne a (by simp)
     rw [← Bool.not_eq_true, eqOp_iff] at this ⊢
     exact fun hh => this ⟨hh.1.symm, hh.2.symm⟩
    exact bef_tri h1 h2
   ·exact h.1 b hb
theorem sorted_new {l : List OpR} (h : Sorted l) (o : OpR) : Sorted (newL l o) := by
 unfold newL
 split
 ·exact sorted_ins (h.rest o) (rest_ne o l)
 ·exact h.rest o
structure Sets (l : List OpR) (o : OpR) : Prop where
 val : opsValid l = true
 p0 : 0 ≤ o.prec
 p1 : o.prec ≤ 1200
 cls : clsOp o.typ ≠ 0
 sz : o.name.size ≤ 100
 fix : fixedS l o = false
 len : (newL l o).length ≤ 100
theorem setR_iff (l : List OpR) (o : OpR) : (setR l o).2 = 0 ↔ Sets l o := by
 cases hb : (!opsValid l || decide (o.prec < 0) || decide (1200 < o.prec) || clsOp o.typ == 0 || decide (100 < o.name.size))
 ·cases hf : fixedS l o
  ·by_cases hn : 100 < (newL l o).length
   ·rw [setR_full hb hf hn]
    exact ⟨fun h => (by cases h), fun h => absurd h.len (by omega)⟩
   ·rw [setR_ok hb hf hn]
    simp at hb
    exact ⟨fun _ => ⟨hb.1.1.1.1, by omega, by omega, hb.1.2, by omega, hf, by omega⟩, fun _ => rfl⟩
  ·rw [setR_fix hb hf]
   exact ⟨fun h => (by cases h), fun h => (by rw [h.fix] at hf; cases hf)⟩
 ·rw [setR_bad hb]
  refine ⟨fun h => (by cases h), fun h => ?_⟩
  have h0 := h.p0; have h1 := h.p1; have h2 := h.cls; have h3 := h.sz
  rw [h.val] at hb
  simp [h2] at hb
  omega
theorem setR_new {l : List OpR} {o : OpR} (h : Sets l o) : setR l o = (newL l o, 0) := by
 refine setR_ok ?_ h.fix (by have := h.len; omega)
 have h0 := h.p0; have h1 := h.p1; have h2 := h.cls; have h3 := h.sz
 rw [h.val]
 simp [h2]
 omega
theorem findR_valid {l : List OpR} (h : opsValid l = true) (name : ByteArray) (c : Int) : findR l name c = l.find? (isOp name c) := by unfold findR; rw [h]; rfl
theorem Sets.ok {l : List OpR} {o : OpR} (h : Sets l o) (hp : 0 < o.prec) : opOk o = true := by
 have h1 := h.p1; have h2 := h.cls; have h3 := h.sz
 have hf := h.fix
 unfold fixedS at hf
 unfold opOk
 grind
theorem Sets.mix {l : List OpR} {o b : OpR} (h : Sets l o) (hp : 0 < o.prec) (hc : clsOp o.typ ≠ 1) (hb : b ∈ l) (hn : b.name.toList = o.name.toList) : clsOp b.typ ≠ 5 - clsOp o.typ := by
 intro hcb
 have hf := h.fix
 unfold fixedS at hf
 have hnone : (findR l o.name (5 - clsOp o.typ)).isSome = false := by grind
 rw [findR_valid h.val, find_one (sorted_valid h.val) hb (by unfold isOp; simp [hn, hcb])] at hnone
 cases hnone
theorem Sets.valid {l : List OpR} {o : OpR} (h : Sets l o) : opsValid (newL l o) = true := by
 refine valid_of h.len (fun a ha => ?_) (sorted_new (sorted_valid h.val) o) ?_
 ·rcases mem_new.1 ha with ⟨hp, rfl⟩ | ⟨ha, _⟩
  ·exact h.ok hp
  ·exact valid_all h.val a ha
 ·intro a ha b hb hn hh
  rcases mem_new.1 ha with ⟨hp, ea⟩ | ⟨la, _⟩ <;> rcases mem_new.1 hb with ⟨hp2, eb⟩ | ⟨lb, _⟩
  ·rw [ea, eb] at hh; omega
  ·rw [ea] at hn hh; exact h.mix hp (by omega) lb hn.symm (by omega)
  ·rw [eb] at hn hh; exact h.mix hp2 (by omega) la hn (by omega)
  ·exact nomix_valid h.val a la b lb hn hh
theorem Sets.other {l : List OpR} {o : OpR} (h : Sets l o) (name : ByteArray) (c : Int) (hne : ¬(c = clsOp o.typ ∧ name.toList = o.name.toList)) : findR (newL l o) name c = findR l name c := by
 rw [findR_valid h.valid, findR_valid h.val]
 have key : ∀ a, isOp name c a = true → eqOp o a = false := by
  intro a ha
  rw [← Bool.not_eq_true, eqOp_iff]
  unfold isOp at ha
  simp only [Bool.and_eq_true, beq_iff_eq] at ha
  exact fun hh => hne ⟨ha.2.symm.trans hh.2, ha.1.symm.trans hh.1⟩
 cases hf : l.find? (isOp name c) with
 | some a =>
  have hi := List.find?_some hf
  exact find_one (sorted_new (sorted_valid h.val) o) (mem_new.2 (.inr ⟨List.mem_of_find?_eq_some hf, key a hi⟩)) hi
 | none =>
  rw [List.find?_eq_none] at hf ⊢
  intro a ha
  rcases mem_new.1 ha with ⟨_, rfl⟩ | ⟨ha, _⟩
  ·intro hi
   have h1 := key a hi
   rw [← Bool.not_eq_true, eqOp_iff] at h1
   exact h1 ⟨rfl, rfl⟩
  ·exact hf a ha
end Hb
namespace Hb
open Go Go.RowKit
theorem ins_app {o x : OpR} : ∀ {t : List OpR}, (∃ a ∈ t, befOp o a = true) → insO o (t ++ [x]) = insO o t ++ [x]
 | [], h => by obtain ⟨a, ha, _⟩ := h; cases ha
 | a :: t, h => by
  by_cases hc : cmpOp o a < 0
  ·rw [List.cons_append]; unfold insO; rw [if_pos hc, if_pos hc]; rfl
  ·rw [List.cons_append]; unfold insO; rw [if_neg hc, if_neg hc]
   rw [ins_app (t := t)]
   ·rfl
   ·obtain ⟨b, hb, hbf⟩ := h
    rcases List.mem_cons.1 hb with rfl | hb
    ·exact absurd ((cmp_bef _ _).2 hbf) hc
    ·exact ⟨b, hb, hbf⟩
theorem ins_here {o x : OpR} (hx : befOp o x = true) : ∀ {t : List OpR}, (∀ a ∈ t, befOp o a = false) → insO o (t ++ [x]) = t ++ [o] ++ [x]
 | [], _ => by
  show (if cmpOp o x < 0 then o :: x :: [] else x :: insO o []) = _
  rw [if_pos ((cmp_bef _ _).2 hx)]; rfl
 | a :: t, h => by
  rw [List.cons_append]
  unfold insO
  rw [if_neg (by rw [cmp_bef, h a (by simp)]; simp), ins_here hx fun b hb => h b (by simp [hb])]
  rfl
def withL (o : OpR) (l : List OpR) (k : Nat) (dn : Bool) : List OpR := if dn = true then insO o (l.take k) else l.take k
structure Withs (o : OpR) (l : List OpR) (k : Nat) (dn : Bool) : Prop where
 yes : dn = true → ∃ a ∈ l.take k, befOp o a = true
 no : dn = false → ∀ a ∈ l.take k, befOp o a = false
theorem Withs.start (o : OpR) (l : List OpR) : Withs o l 0 false := ⟨fun h => by (cases h), fun _ a h => by simp at h⟩
theorem mem_take {l : List OpR} {k : Nat} {a : OpR} (hk : k < l.length) : a ∈ l.take (k + 1) ↔ a ∈ l.take k ∨ a = l[k] := by
 rw [List.take_succ_eq_append_getElem hk, List.mem_append, List.mem_singleton]
theorem Withs.done {o : OpR} {l : List OpR} {k : Nat} (h : Withs o l k true) (hk : k < l.length) : Withs o l (k + 1) true ∧ withL o l (k + 1) true = withL o l k true ++ [l[k]] := by
 obtain ⟨a, ha, hb⟩ := h.yes rfl
 refine ⟨⟨fun _ => ⟨a, (mem_take hk).2 (.inl ha), hb⟩, fun h => by (cases h)⟩, ?_⟩
 unfold withL
 rw [if_pos rfl, if_pos rfl, List.take_succ_eq_append_getElem hk, ins_app ⟨a, ha, hb⟩]
theorem Withs.skip {o : OpR} {l : List OpR} {k : Nat} (h : Withs o l k false) (hk : k < l.length) (hb : befOp o l[k] = false) : Withs o l (k + 1) false ∧ withL o l (k + 1) false = withL o l k false ++ [l[k]] := by
 refine ⟨⟨fun h => by (cases h), fun _ a ha => ?_⟩, ?_⟩
 ·rcases (mem_take hk).1 ha with ha | rfl
  ·exact h.no rfl a ha
  ·exact hb
 ·unfold withL
  rw [if_neg (by simp), if_neg (by simp), List.take_succ_eq_append_getElem hk]
theorem Withs.put {o : OpR} {l : List OpR} {k : Nat} (h : Withs o l k false) (hk : k < l.length) (hb : befOp o l[k] = true) : Withs o l (k + 1) true ∧ withL o l (k + 1) true = withL o l k false ++ [o] ++ [l[k]] := by
 refine ⟨⟨fun _ => ⟨_, (mem_take hk).2 (.inr rfl), hb⟩, fun h => by (cases h)⟩, ?_⟩
 unfold withL
 rw [if_pos rfl, if_neg (by simp), List.take_succ_eq_append_getElem hk, ins_here hb (h.no rfl)]
end Hb
namespace Go.Proofs.YtfkhcpeahdkafaaGreat
open Go.RowKit Hb
set_option maxRecDepth 100000
end Go.Proofs.YtfkhcpeahdkafaaGreat
namespace Go.Proofs.YtfkhcpeahdkafaaGreat
open Go.RowKit Hb
set_option maxRecDepth 100000
set_option maxHeartbeats 3200000 in
theorem ref_find (A : Option Addr) (n cap : Nat) (l : List OpR) (c : Int) (name : ByteArray) (w : World) (hm : n ≤ 400) (hT : Tab w A n cap l) :
  Calls Tryz.prog 55 #[.slice A n cap, .int .i64 c, .string name] w fun e w' => e = .returned (.tuple #[opV ((findR l name c).getD op0), .bool (findR l name c).isSome]) ∧ Below w.heap.size w w' := by
 have hX := R3.start w 82
 have HT0 := Lib.hid (hT.below hX.bel)
 have HT := Lib.hid hT
 have HV := Lib.hid (ref_valid A n cap l _ HT0.out.len hm HT0.out.ops)
 clear hT
 cases hv : opsValid l
 ·rw [hv] at HV
  have HF := Lib.hid (show findR l name c = none by unfold findR; rw [hv]; rfl)
  clear hv
  go_enter Tryz.func55, Tryz.ntmps55
  go_wp2_with fail
  refine HV.out.mono ?_; rintro e w1 ⟨rfl, hB1⟩
  have hY := hX.call hB1
  obtain ⟨v0, r0⟩ := hY.r0
  obtain ⟨v1, r1⟩ := hY.r1
  obtain ⟨v2, r2⟩ := hY.r2
  have fr := hY.fr
  have fr0 := fr 0
  go_wp2_with fail
  refine bodyPost_ret (v := .tuple #[opV op0, .bool false]) (by simp [opV, op0, results, Tryz.results55, go_sem, r0, r1, r2]) rfl ⟨by rw [HF.out]; rfl, hY.put _ _ _⟩
 ·rw [hv] at HV
  have HF := Lib.hid (show findR l name c = l.find? (isOp name c) by unfold findR; rw [hv]; rfl)
  clear hv
  have HN := Lib.hid HT.out.len
  go_enter Tryz.func55, Tryz.ntmps55
  go_wp2_with fail
  refine HV.out.mono ?_; rintro e w1 ⟨rfl, hB1⟩
  have hY := Lib.hid (hX.call hB1)
  go_wp2_with fail
  go_loopw [8] (fun i wr => ∃ k : Nat, k ≤ n ∧ i = .int .i64 k ∧ Hid (R3 w wr) ∧ Hid (∀ j (hj : j < l.length), j < k → isOp name c l[j] = false)) (fun i _ => n - (intOf i).toNat)
  case atStart => exact ⟨0, Nat.zero_le _, rfl, hY, Lib.hid fun j _ hj => absurd hj (by omega)⟩
  case round =>
   clear hX hY HV HT0
   obtain ⟨k, hk, rfl, HY, HA⟩ := hrel
   by_cases hlt : k < n
   ·have hkl : k < l.length := by have := HN.out; omega
    obtain ⟨b, off, rfl, hb, c0, c1, c2⟩ := (HT.out.ops.below HY.out.bel) k hkl
    have HH := Lib.hid (fun h => HF.out.trans (find_hit (isOp name c) l k hkl h (fun j hj => HA.out j (by omega) hj)))
    have HR := Lib.hid (fun (h : isOp name c l[k] = false) => (show ∀ j (hj : j < l.length), j < k + 1 → isOp name c l[j] = false from fun j hj hjk => by
     rcases Nat.lt_or_ge j k with h' | h'
     ·exact HA.out j hj h'
     ·have : j = k := by omega
      subst this; exact h))
    generalize l[k] = a at *
    have HC := Lib.hid (ref_classO a.typ)
    by_cases hcl : clsOp a.typ = c
    ·have e1 : (clsOp a.typ == c) = true := by simpa using hcl
     by_cases hnm : a.name.toList = name.toList
     ·have HI : Hid (isOp name c a = true) := by unfold isOp; refine Lib.hid ?_; simp [hnm, hcl]
      have HE := Lib.hid (HH.out HI.out)
      have e2 : (a.name.toList == name.toList) = true := by simpa using hnm
      have hY := HY.out
      obtain ⟨v0, r0⟩ := hY.r0
      obtain ⟨v1, r1⟩ := hY.r1
      obtain ⟨v2, r2⟩ := hY.r2
      have fr := hY.fr
      have fr0 := fr 0
      go_wp2_with fail
      refine (HC.out _).mono ?_; rintro e w2 ⟨rfl, rfl⟩
      go_wp2_with fail
      refine bodyPost_ret (v := .tuple #[opV a, .bool true]) (by simp [opV, results, Tryz.results55, go_sem, r0, r1, r2]) rfl ⟨by rw [HE.out]; rfl, hY.put _ _ _⟩
     ·have HI : Hid (isOp name c a = false) := by unfold isOp; refine Lib.hid ?_; simp [hnm]
      have e2 : (a.name.toList == name.toList) = false := by simpa using hnm
      go_wp2_with fail
      refine (HC.out _).mono ?_; rintro e w2 ⟨rfl, rfl⟩
      go_wp2_with fail
      go_roundw
      case rel => exact ⟨k + 1, by omega, by go_num, HY, Lib.hid (HR.out HI.out)⟩
      case measure => simp [intOf] <;> omega
    ·have HI : Hid (isOp name c a = false) := by unfold isOp; refine Lib.hid ?_; simp [hcl]
     have e1 : (clsOp a.typ == c) = false := by simpa using hcl
     go_wp2_with fail
     refine (HC.out _).mono ?_; rintro e w2 ⟨rfl, rfl⟩
     go_wp2_with fail
     go_roundw
     case rel => exact ⟨k + 1, by omega, by go_num, HY, Lib.hid (HR.out HI.out)⟩
     case measure => simp [intOf] <;> omega
   ·have HE := Lib.hid (HF.out.trans (find_miss (isOp name c) l (fun j hj => HA.out j hj (by have := HN.out; omega))))
    have hY := HY.out
    obtain ⟨v0, r0⟩ := hY.r0
    obtain ⟨v1, r1⟩ := hY.r1
    obtain ⟨v2, r2⟩ := hY.r2
    have fr := hY.fr
    have fr0 := fr 0
    go_wp2_with fail
    refine bodyPost_ret (v := .tuple #[opV op0, .bool false]) (by simp [opV, op0, results, Tryz.results55, go_sem, r0, r1, r2]) rfl ⟨by rw [HE.out]; rfl, hY.put _ _ _⟩
end Go.Proofs.YtfkhcpeahdkafaaGreat
