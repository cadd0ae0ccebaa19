/- Operators: the reference's Valid. -/
import Derived.Test.YteddbeifnolklaaOp9a
namespace Go.Proofs.Yteddbeifnolklaa
open Go.RowKit Hb
set_option maxRecDepth 100000
theorem wpQuiet_run {P : Program} {ops : Array Oper} {C : World → Prop} {Q : Act → Prop} {a : Act} {o : Oper} {rest : List Oper} (hw : Region.wanted o (yielded ops a.tmps) = true) (h : ∀ K : Act → Prop, (∀ a, wpQuiet P ops C Q rest a → K a) → o.quiet P a C K) : wpQuiet P ops C Q (o :: rest) a :=
  wpQuiet_step fun K hK => by rw [if_pos hw]; exact h K hK
theorem wpQuiet_skip {P : Program} {ops : Array Oper} {C : World → Prop} {Q : Act → Prop} {a : Act} {o : Oper} {rest : List Oper} (hw : Region.wanted o (yielded ops a.tmps) = false) (h : wpQuiet P ops C Q rest (a.put o.dst undef)) : wpQuiet P ops C Q (o :: rest) a :=
  wpQuiet_step fun K hK => by rw [if_neg (by rw [hw]; simp)]; exact hK _ h
set_option maxHeartbeats 6400000 in
theorem ref_valid (A : Option Addr) (n cap : Nat) (l : List OpR) (w : World) (hn : n = l.length) (hm : n ≤ 400) (hp : OpsAt w A l) :
    Calls Try.prog 26 #[.slice A n cap] w fun e w' => e = .returned (.bool (opsValid l)) ∧ Below w.heap.size w w' := by
  by_cases c1 : 100 < n
  · have b1 : decide ((100 : Int) < n) = true := by simp; omega
    have HV := Lib.hid (opsValid_long l (by omega))
    clear hn hp c1
    go_enter Try.func26, Try.ntmps26
    go_wp2_with fail
    go_ret
    exact ⟨ret_bool HV.out.symm, Below.refl _ _⟩
  have b1 : decide ((100 : Int) < n) = false := by simp; omega
  have h100 : n ≤ 100 := by omega
  have HN := Lib.hid hn
  have HP := Lib.hid hp
  have mixed : Try.prog.follows Departure.mixedOrders = true := by kernel_rfl
  clear hn hp c1
  go_enter Try.func26, Try.ntmps26
  go_wp2_with fail
  go_loopw [3] (fun i wr => ∃ k : Nat, k ≤ n ∧ i = .int .i64 k ∧ Below w.heap.size w wr ∧ Hid (∀ j, j < k → okJ l j = true)) (fun i _ => n - (intOf i).toNat)
  case atStart => exact ⟨0, Nat.zero_le _, rfl, Below.refl _ _, fun j hj => absurd hj (by omega)⟩
  case round =>
    obtain ⟨k, hk, rfl, hB, HA⟩ := hrel
    by_cases hlt : k < n
    · have hbs := hB.size
      have hkl : k < l.length := by have := HN.out; omega
      obtain ⟨b, off, rfl, hb, c0, c1, c2⟩ := (HP.out.below hB) k hkl
      have hprev : 0 < k → wr.cell? ⟨b, off + (k - 1) * 3, none⟩ = some (.string (l[k - 1]'(by omega)).name) ∧ wr.cell? ⟨b, off + (k - 1) * 3 + 1, none⟩ = some (.int .i64 (l[k - 1]'(by omega)).typ) ∧ wr.cell? ⟨b, off + (k - 1) * 3 + 2, none⟩ = some (.int .i64 (l[k - 1]'(by omega)).prec) := fun h0 => by
        obtain ⟨b', off', e', _, d0, d1, d2⟩ := (HP.out.below hB) (k - 1) (by omega)
        injection e' with e'
        injection e' with e1 e2 _
        subst e1 e2
        exact ⟨d0, d1, d2⟩
      have HPr := Lib.hid hprev
      have J1 := Lib.hid (okJ_1 l k hkl)
      have J0 := Lib.hid (okJ_0 l k hkl)
      have JS := Lib.hid (okJ_s l k hkl)
      have HNO := Lib.hid (opsValid_no l k hkl)
      generalize l[k] = o at *
      clear hprev
      have hki0 : (0 : Int) ≤ (k : Int) := by omega
      have hki1 : (k : Int) < (n : Int) := by omega
      have HW := Lib.hid (fun W => ref_one_up o W)
      unfold opV at HW
      have hcW : ∀ n os, Calls Try.prog 48 #[.agg #[.string o.name, .int .i64 o.typ, .int .i64 o.prec]] (Sort.grow (wr.drewN n) os) fun e w' => e = .returned (.bool (opOk o)) ∧ ∃ q os', w' = Sort.grow ((Sort.grow (wr.drewN n) os).drewN q) os' := fun n os => HW.out _
      have HCW := Lib.hid hcW
      clear hcW HW
      have q0 : ∀ n os, (Sort.grow (wr.drewN n) os).cell? ⟨b, off + k * 3, none⟩ = some (.string o.name) := cell_grown hb c0
      have q1 : ∀ n os, (Sort.grow (wr.drewN n) os).cell? ⟨b, off + k * 3 + 1, none⟩ = some (.int .i64 o.typ) := cell_grown hb c1
      have q2 : ∀ n os, (Sort.grow (wr.drewN n) os).cell? ⟨b, off + k * 3 + 2, none⟩ = some (.int .i64 o.prec) := cell_grown hb c2
      clear c0 c1 c2
      by_cases h0 : k = 0
      · have HH0 := Lib.hid h0
        have g1 : decide (0 < (k : Int)) = false := by simp; omega
        have g1b : decide (0 < k) = false := by simp; omega
        have g1c : ¬ (0 : Int) < (k : Int) := by omega
        clear h0
        cases hok : opOk o
        · skip
          have HO := Lib.hid hok
          rw [hok] at HCW
          clear hok
          go_wp2_with fail
          refine wp_region_quiet_grown (by assumption) (by kernel_rfl) ?_
          with_reducible refine wpQuiet_run (by kernel_rfl) (fun K hK => ?_)
          go_simp
          refine hK _ ?_
          clear hK K
          with_reducible refine wpQuiet_run (by kernel_rfl) (fun K hK => ?_)
          go_simp
          refine hK _ ?_
          clear hK K
          with_reducible refine wpQuiet_run (by kernel_rfl) (fun K hK => ?_)
          go_simp
          refine hK _ ?_
          clear hK K
          with_reducible refine wpQuiet_run (by kernel_rfl) (fun K hK => ?_)
          go_simp
          refine hK _ ?_
          clear hK K
          with_reducible refine wpQuiet_run (by kernel_rfl) (fun K hK => ?_)
          go_simp
          apply Exists.intro
          refine ⟨fun _ => ?_, hK _ ?_⟩
          (go_at_call 48; (with_reducible refine Calls.grown_of (HCW.out _ _)))
          clear hK K
          with_reducible refine wpQuiet_run (by kernel_rfl) (fun K hK => ?_)
          go_simp
          refine hK _ ?_
          clear hK K
          with_reducible refine wpQuiet_run (by kernel_rfl) (fun K hK => ?_)
          go_simp
          refine hK _ ?_
          clear hK K
          with_reducible refine wpQuiet_skip (by kernel_rfl) ?_
          simp only [Act.put, List.setIfInBounds_toArray, List.set_cons_zero, List.set_cons_succ]
          with_reducible refine wpQuiet_skip (by kernel_rfl) ?_
          simp only [Act.put, List.setIfInBounds_toArray, List.set_cons_zero, List.set_cons_succ]
          with_reducible refine wpQuiet_skip (by kernel_rfl) ?_
          simp only [Act.put, List.setIfInBounds_toArray, List.set_cons_zero, List.set_cons_succ]
          with_reducible refine wpQuiet_skip (by kernel_rfl) ?_
          simp only [Act.put, List.setIfInBounds_toArray, List.set_cons_zero, List.set_cons_succ]
          with_reducible refine wpQuiet_skip (by kernel_rfl) ?_
          simp only [Act.put, List.setIfInBounds_toArray, List.set_cons_zero, List.set_cons_succ]
          with_reducible refine wpQuiet_skip (by kernel_rfl) ?_
          simp only [Act.put, List.setIfInBounds_toArray, List.set_cons_zero, List.set_cons_succ]
          with_reducible refine wpQuiet_skip (by kernel_rfl) ?_
          simp only [Act.put, List.setIfInBounds_toArray, List.set_cons_zero, List.set_cons_succ]
          with_reducible refine wpQuiet_skip (by kernel_rfl) ?_
          simp only [Act.put, List.setIfInBounds_toArray, List.set_cons_zero, List.set_cons_succ]
          with_reducible refine wpQuiet_skip (by kernel_rfl) ?_
          simp only [Act.put, List.setIfInBounds_toArray, List.set_cons_zero, List.set_cons_succ]
          with_reducible refine wpQuiet_skip (by kernel_rfl) ?_
          simp only [Act.put, List.setIfInBounds_toArray, List.set_cons_zero, List.set_cons_succ]
          with_reducible refine wpQuiet_skip (by kernel_rfl) ?_
          simp only [Act.put, List.setIfInBounds_toArray, List.set_cons_zero, List.set_cons_succ]
          with_reducible refine wpQuiet_skip (by kernel_rfl) ?_
          simp only [Act.put, List.setIfInBounds_toArray, List.set_cons_zero, List.set_cons_succ]
          with_reducible refine wpQuiet_skip (by kernel_rfl) ?_
          simp only [Act.put, List.setIfInBounds_toArray, List.set_cons_zero, List.set_cons_succ]
          with_reducible refine wpQuiet_skip (by kernel_rfl) ?_
          simp only [Act.put, List.setIfInBounds_toArray, List.set_cons_zero, List.set_cons_succ]
          with_reducible refine wpQuiet_skip (by kernel_rfl) ?_
          simp only [Act.put, List.setIfInBounds_toArray, List.set_cons_zero, List.set_cons_succ]
          with_reducible refine wpQuiet_run (by kernel_rfl) (fun K hK => ?_)
          go_simp
          refine hK _ ?_
          clear hK K
          refine wpQuiet_nil ?_
          intro _ hw'
          obtain ⟨⟨nq, osq⟩, hw''⟩ := hw'
          subst hw''
          have hBf := bl_grow wr nq osq
          go_wp2_with fail
          go_ret
          exact ⟨ret_bool (HNO.out (J1.out HO.out)).symm, hB.trans (hBf.mono hbs)⟩
        · have HO := Lib.hid hok
          have HJ := Lib.hid (J0.out HH0.out hok)
          rw [hok] at HCW
          clear hok
          go_wp2_with fail
          refine wp_region_quiet_grown (by assumption) (by kernel_rfl) ?_
          with_reducible refine wpQuiet_run (by kernel_rfl) (fun K hK => ?_)
          go_simp
          refine hK _ ?_
          clear hK K
          with_reducible refine wpQuiet_run (by kernel_rfl) (fun K hK => ?_)
          go_simp
          refine hK _ ?_
          clear hK K
          with_reducible refine wpQuiet_run (by kernel_rfl) (fun K hK => ?_)
          go_simp
          refine hK _ ?_
          clear hK K
          with_reducible refine wpQuiet_run (by kernel_rfl) (fun K hK => ?_)
          go_simp
          refine hK _ ?_
          clear hK K
          with_reducible refine wpQuiet_run (by kernel_rfl) (fun K hK => ?_)
          go_simp
          apply Exists.intro
          refine ⟨fun _ => ?_, hK _ ?_⟩
          (go_at_call 48; (with_reducible refine Calls.grown_of (HCW.out _ _)))
          clear hK K
          with_reducible refine wpQuiet_run (by kernel_rfl) (fun K hK => ?_)
          go_simp
          refine hK _ ?_
          clear hK K
          with_reducible refine wpQuiet_run (by kernel_rfl) (fun K hK => ?_)
          go_simp
          refine hK _ ?_
          clear hK K
          with_reducible refine wpQuiet_run (by kernel_rfl) (fun K hK => ?_)
          go_simp
          refine hK _ ?_
          clear hK K
          with_reducible refine wpQuiet_run (by kernel_rfl) (fun K hK => ?_)
          go_simp
          refine hK _ ?_
          clear hK K
          with_reducible refine wpQuiet_run (by kernel_rfl) (fun K hK => ?_)
          go_simp
          refine hK _ ?_
          clear hK K
          with_reducible refine wpQuiet_skip (by kernel_rfl) ?_
          simp only [Act.put, List.setIfInBounds_toArray, List.set_cons_zero, List.set_cons_succ]
          with_reducible refine wpQuiet_skip (by kernel_rfl) ?_
          simp only [Act.put, List.setIfInBounds_toArray, List.set_cons_zero, List.set_cons_succ]
          with_reducible refine wpQuiet_skip (by kernel_rfl) ?_
          simp only [Act.put, List.setIfInBounds_toArray, List.set_cons_zero, List.set_cons_succ]
          with_reducible refine wpQuiet_skip (by kernel_rfl) ?_
          simp only [Act.put, List.setIfInBounds_toArray, List.set_cons_zero, List.set_cons_succ]
          with_reducible refine wpQuiet_skip (by kernel_rfl) ?_
          simp only [Act.put, List.setIfInBounds_toArray, List.set_cons_zero, List.set_cons_succ]
          with_reducible refine wpQuiet_skip (by kernel_rfl) ?_
          simp only [Act.put, List.setIfInBounds_toArray, List.set_cons_zero, List.set_cons_succ]
          with_reducible refine wpQuiet_skip (by kernel_rfl) ?_
          simp only [Act.put, List.setIfInBounds_toArray, List.set_cons_zero, List.set_cons_succ]
          with_reducible refine wpQuiet_skip (by kernel_rfl) ?_
          simp only [Act.put, List.setIfInBounds_toArray, List.set_cons_zero, List.set_cons_succ]
          with_reducible refine wpQuiet_skip (by kernel_rfl) ?_
          simp only [Act.put, List.setIfInBounds_toArray, List.set_cons_zero, List.set_cons_succ]
          with_reducible refine wpQuiet_skip (by kernel_rfl) ?_
          simp only [Act.put, List.setIfInBounds_toArray, List.set_cons_zero, List.set_cons_succ]
          with_reducible refine wpQuiet_skip (by kernel_rfl) ?_
          simp only [Act.put, List.setIfInBounds_toArray, List.set_cons_zero, List.set_cons_succ]
          with_reducible refine wpQuiet_run (by kernel_rfl) (fun K hK => ?_)
          go_simp
          refine hK _ ?_
          clear hK K
          with_reducible refine wpQuiet_run (by kernel_rfl) (fun K hK => ?_)
          go_simp
          refine hK _ ?_
          clear hK K
          refine wpQuiet_nil ?_
          intro _ hw'
          obtain ⟨⟨nq, osq⟩, hw''⟩ := hw'
          subst hw''
          have hBf := bl_grow wr nq osq
          have z0 := q0 nq osq
          have z1 := q1 nq osq
          have z2 := q2 nq osq
          have hbl := Nat.lt_of_lt_of_le hb hBf.size
          have hBm := hB.trans (hBf.mono hbs)
          generalize Sort.grow (wr.drewN nq) osq = w6 at *
          clear q0 q1 q2
          go_wp2_with fail
          refine wp_region_quiet_grown (by assumption) (by kernel_rfl) ?_
          with_reducible refine wpQuiet_run (by kernel_rfl) (fun K hK => ?_)
          go_simp
          refine hK _ ?_
          clear hK K
          with_reducible refine wpQuiet_run (by kernel_rfl) (fun K hK => ?_)
          go_simp
          refine hK _ ?_
          clear hK K
          with_reducible refine wpQuiet_run (by kernel_rfl) (fun K hK => ?_)
          go_simp
          refine hK _ ?_
          clear hK K
          with_reducible refine wpQuiet_skip (by kernel_rfl) ?_
          simp only [Act.put, List.setIfInBounds_toArray, List.set_cons_zero, List.set_cons_succ]
          with_reducible refine wpQuiet_skip (by kernel_rfl) ?_
          simp only [Act.put, List.setIfInBounds_toArray, List.set_cons_zero, List.set_cons_succ]
          with_reducible refine wpQuiet_skip (by kernel_rfl) ?_
          simp only [Act.put, List.setIfInBounds_toArray, List.set_cons_zero, List.set_cons_succ]
          with_reducible refine wpQuiet_skip (by kernel_rfl) ?_
          simp only [Act.put, List.setIfInBounds_toArray, List.set_cons_zero, List.set_cons_succ]
          with_reducible refine wpQuiet_skip (by kernel_rfl) ?_
          simp only [Act.put, List.setIfInBounds_toArray, List.set_cons_zero, List.set_cons_succ]
          with_reducible refine wpQuiet_skip (by kernel_rfl) ?_
          simp only [Act.put, List.setIfInBounds_toArray, List.set_cons_zero, List.set_cons_succ]
          with_reducible refine wpQuiet_skip (by kernel_rfl) ?_
          simp only [Act.put, List.setIfInBounds_toArray, List.set_cons_zero, List.set_cons_succ]
          with_reducible refine wpQuiet_skip (by kernel_rfl) ?_
          simp only [Act.put, List.setIfInBounds_toArray, List.set_cons_zero, List.set_cons_succ]
          with_reducible refine wpQuiet_skip (by kernel_rfl) ?_
          simp only [Act.put, List.setIfInBounds_toArray, List.set_cons_zero, List.set_cons_succ]
          with_reducible refine wpQuiet_skip (by kernel_rfl) ?_
          simp only [Act.put, List.setIfInBounds_toArray, List.set_cons_zero, List.set_cons_succ]
          with_reducible refine wpQuiet_skip (by kernel_rfl) ?_
          simp only [Act.put, List.setIfInBounds_toArray, List.set_cons_zero, List.set_cons_succ]
          with_reducible refine wpQuiet_skip (by kernel_rfl) ?_
          simp only [Act.put, List.setIfInBounds_toArray, List.set_cons_zero, List.set_cons_succ]
          with_reducible refine wpQuiet_run (by kernel_rfl) (fun K hK => ?_)
          go_simp
          refine hK _ ?_
          clear hK K
          with_reducible refine wpQuiet_run (by kernel_rfl) (fun K hK => ?_)
          go_simp
          refine hK _ ?_
          clear hK K
          with_reducible refine wpQuiet_skip (by kernel_rfl) ?_
          simp only [Act.put, List.setIfInBounds_toArray, List.set_cons_zero, List.set_cons_succ]
          with_reducible refine wpQuiet_skip (by kernel_rfl) ?_
          simp only [Act.put, List.setIfInBounds_toArray, List.set_cons_zero, List.set_cons_succ]
          with_reducible refine wpQuiet_skip (by kernel_rfl) ?_
          simp only [Act.put, List.setIfInBounds_toArray, List.set_cons_zero, List.set_cons_succ]
          with_reducible refine wpQuiet_skip (by kernel_rfl) ?_
          simp only [Act.put, List.setIfInBounds_toArray, List.set_cons_zero, List.set_cons_succ]
          with_reducible refine wpQuiet_skip (by kernel_rfl) ?_
          simp only [Act.put, List.setIfInBounds_toArray, List.set_cons_zero, List.set_cons_succ]
          with_reducible refine wpQuiet_skip (by kernel_rfl) ?_
          simp only [Act.put, List.setIfInBounds_toArray, List.set_cons_zero, List.set_cons_succ]
          with_reducible refine wpQuiet_skip (by kernel_rfl) ?_
          simp only [Act.put, List.setIfInBounds_toArray, List.set_cons_zero, List.set_cons_succ]
          with_reducible refine wpQuiet_skip (by kernel_rfl) ?_
          simp only [Act.put, List.setIfInBounds_toArray, List.set_cons_zero, List.set_cons_succ]
          with_reducible refine wpQuiet_run (by kernel_rfl) (fun K hK => ?_)
          go_simp
          refine hK _ ?_
          clear hK K
          with_reducible refine wpQuiet_run (by kernel_rfl) (fun K hK => ?_)
          go_simp
          refine hK _ ?_
          clear hK K
          with_reducible refine wpQuiet_skip (by kernel_rfl) ?_
          simp only [Act.put, List.setIfInBounds_toArray, List.set_cons_zero, List.set_cons_succ]
          with_reducible refine wpQuiet_skip (by kernel_rfl) ?_
          simp only [Act.put, List.setIfInBounds_toArray, List.set_cons_zero, List.set_cons_succ]
          with_reducible refine wpQuiet_skip (by kernel_rfl) ?_
          simp only [Act.put, List.setIfInBounds_toArray, List.set_cons_zero, List.set_cons_succ]
          with_reducible refine wpQuiet_skip (by kernel_rfl) ?_
          simp only [Act.put, List.setIfInBounds_toArray, List.set_cons_zero, List.set_cons_succ]
          with_reducible refine wpQuiet_skip (by kernel_rfl) ?_
          simp only [Act.put, List.setIfInBounds_toArray, List.set_cons_zero, List.set_cons_succ]
          with_reducible refine wpQuiet_skip (by kernel_rfl) ?_
          simp only [Act.put, List.setIfInBounds_toArray, List.set_cons_zero, List.set_cons_succ]
          with_reducible refine wpQuiet_skip (by kernel_rfl) ?_
          simp only [Act.put, List.setIfInBounds_toArray, List.set_cons_zero, List.set_cons_succ]
          with_reducible refine wpQuiet_run (by kernel_rfl) (fun K hK => ?_)
          go_simp
          refine hK _ ?_
          clear hK K
          refine wpQuiet_nil ?_
          intro _ hw'
          obtain ⟨⟨nq, osq⟩, hw''⟩ := hw'
          subst hw''
          have hBn := hBm.trans ((bl_grow w6 nq osq).mono hBm.size)
          go_wp2_with fail
          go_roundw
          case rel => exact ⟨k + 1, by omega, by go_num, hBn, Lib.hid fun j hj => by
            rcases Nat.lt_or_ge j k with h | h
            · exact HA.out j h
            · have : j = k := by omega
              subst this; exact HJ.out⟩
          case measure => simp [intOf] <;> omega
      · have h0' : 0 < k := by omega
        obtain ⟨d0, d1, d2⟩ := HPr.out h0'
        have JS2 := Lib.hid (JS.out h0')
        clear JS HPr
        generalize l[k - 1]'(by omega) = p at *
        have r0 : ∀ n os, (Sort.grow (wr.drewN n) os).cell? ⟨b, off + (k - 1) * 3, none⟩ = some (.string p.name) := cell_grown hb d0
        have r1 : ∀ n os, (Sort.grow (wr.drewN n) os).cell? ⟨b, off + (k - 1) * 3 + 1, none⟩ = some (.int .i64 p.typ) := cell_grown hb d1
        have r2 : ∀ n os, (Sort.grow (wr.drewN n) os).cell? ⟨b, off + (k - 1) * 3 + 2, none⟩ = some (.int .i64 p.prec) := cell_grown hb d2
        clear d0 d1 d2
        have HX := Lib.hid (fun W => ref_before_up p o W)
        unfold opV at HX
        have HCX : Hid (∀ n os, Calls Try.prog 49 #[.agg #[.string p.name, .int .i64 p.typ, .int .i64 p.prec], .agg #[.string o.name, .int .i64 o.typ, .int .i64 o.prec]] (Sort.grow (wr.drewN n) os) fun e w' => e = .returned (.bool (befOp p o)) ∧ ∃ q os', w' = Sort.grow ((Sort.grow (wr.drewN n) os).drewN q) os') := Lib.hid fun n os => HX.out _
        clear HX
        have g1 : decide (0 < (k : Int)) = true := by simp; omega
        have g1b : decide (0 < k) = true := by simp; omega
        have p0 : (0 : Int) ≤ (k : Int) - 1 := by omega
        have p4 : (1 : Int) ≤ (k : Int) := by omega
        have p1 : (k : Int) - 1 < (n : Int) := by omega
        have p2 : IntKind.i64.wrap ((k : Int) - 1) = (k : Int) - 1 := IntWalk.i64_in _ (by omega)
        have p3 : ((k : Int) - 1).toNat = k - 1 := by omega
        clear h0
        cases hok : opOk o
        · skip
          have HO := Lib.hid hok
          rw [hok] at HCW
          clear hok
          go_wp2_with fail
          refine wp_region_quiet_grown (by assumption) (by kernel_rfl) ?_
          with_reducible refine wpQuiet_run (by kernel_rfl) (fun K hK => ?_)
          go_simp
          refine hK _ ?_
          clear hK K
          with_reducible refine wpQuiet_run (by kernel_rfl) (fun K hK => ?_)
          go_simp
          refine hK _ ?_
          clear hK K
          with_reducible refine wpQuiet_run (by kernel_rfl) (fun K hK => ?_)
          go_simp
          refine hK _ ?_
          clear hK K
          with_reducible refine wpQuiet_run (by kernel_rfl) (fun K hK => ?_)
          go_simp
          refine hK _ ?_
          clear hK K
          with_reducible refine wpQuiet_run (by kernel_rfl) (fun K hK => ?_)
          go_simp
          apply Exists.intro
          refine ⟨fun _ => ?_, hK _ ?_⟩
          (go_at_call 48; (with_reducible refine Calls.grown_of (HCW.out _ _)))
          clear hK K
          with_reducible refine wpQuiet_run (by kernel_rfl) (fun K hK => ?_)
          go_simp
          refine hK _ ?_
          clear hK K
          with_reducible refine wpQuiet_run (by kernel_rfl) (fun K hK => ?_)
          go_simp
          refine hK _ ?_
          clear hK K
          with_reducible refine wpQuiet_skip (by kernel_rfl) ?_
          simp only [Act.put, List.setIfInBounds_toArray, List.set_cons_zero, List.set_cons_succ]
          with_reducible refine wpQuiet_skip (by kernel_rfl) ?_
          simp only [Act.put, List.setIfInBounds_toArray, List.set_cons_zero, List.set_cons_succ]
          with_reducible refine wpQuiet_skip (by kernel_rfl) ?_
          simp only [Act.put, List.setIfInBounds_toArray, List.set_cons_zero, List.set_cons_succ]
          with_reducible refine wpQuiet_skip (by kernel_rfl) ?_
          simp only [Act.put, List.setIfInBounds_toArray, List.set_cons_zero, List.set_cons_succ]
          with_reducible refine wpQuiet_skip (by kernel_rfl) ?_
          simp only [Act.put, List.setIfInBounds_toArray, List.set_cons_zero, List.set_cons_succ]
          with_reducible refine wpQuiet_skip (by kernel_rfl) ?_
          simp only [Act.put, List.setIfInBounds_toArray, List.set_cons_zero, List.set_cons_succ]
          with_reducible refine wpQuiet_skip (by kernel_rfl) ?_
          simp only [Act.put, List.setIfInBounds_toArray, List.set_cons_zero, List.set_cons_succ]
          with_reducible refine wpQuiet_skip (by kernel_rfl) ?_
          simp only [Act.put, List.setIfInBounds_toArray, List.set_cons_zero, List.set_cons_succ]
          with_reducible refine wpQuiet_skip (by kernel_rfl) ?_
          simp only [Act.put, List.setIfInBounds_toArray, List.set_cons_zero, List.set_cons_succ]
          with_reducible refine wpQuiet_skip (by kernel_rfl) ?_
          simp only [Act.put, List.setIfInBounds_toArray, List.set_cons_zero, List.set_cons_succ]
          with_reducible refine wpQuiet_skip (by kernel_rfl) ?_
          simp only [Act.put, List.setIfInBounds_toArray, List.set_cons_zero, List.set_cons_succ]
          with_reducible refine wpQuiet_skip (by kernel_rfl) ?_
          simp only [Act.put, List.setIfInBounds_toArray, List.set_cons_zero, List.set_cons_succ]
          with_reducible refine wpQuiet_skip (by kernel_rfl) ?_
          simp only [Act.put, List.setIfInBounds_toArray, List.set_cons_zero, List.set_cons_succ]
          with_reducible refine wpQuiet_skip (by kernel_rfl) ?_
          simp only [Act.put, List.setIfInBounds_toArray, List.set_cons_zero, List.set_cons_succ]
          with_reducible refine wpQuiet_skip (by kernel_rfl) ?_
          simp only [Act.put, List.setIfInBounds_toArray, List.set_cons_zero, List.set_cons_succ]
          with_reducible refine wpQuiet_run (by kernel_rfl) (fun K hK => ?_)
          go_simp
          refine hK _ ?_
          clear hK K
          refine wpQuiet_nil ?_
          intro _ hw'
          obtain ⟨⟨nq, osq⟩, hw''⟩ := hw'
          subst hw''
          have hBf := bl_grow wr nq osq
          go_wp2_with fail
          go_ret
          exact ⟨ret_bool (HNO.out (J1.out HO.out)).symm, hB.trans (hBf.mono hbs)⟩
        · have HO := Lib.hid hok
          have HJS := Lib.hid ((JS2.out hok).trans (opLt_ref p o))
          rw [hok] at HCW
          clear hok
          cases hbf : befOp p o
          · rw [hbf] at HCX HJS
            clear hbf
            go_wp2_with fail
            refine wp_region_quiet_grown (by assumption) (by kernel_rfl) ?_
            with_reducible refine wpQuiet_run (by kernel_rfl) (fun K hK => ?_)
            go_simp
            refine hK _ ?_
            clear hK K
            with_reducible refine wpQuiet_run (by kernel_rfl) (fun K hK => ?_)
            go_simp
            refine hK _ ?_
            clear hK K
            with_reducible refine wpQuiet_run (by kernel_rfl) (fun K hK => ?_)
            go_simp
            refine hK _ ?_
            clear hK K
            with_reducible refine wpQuiet_run (by kernel_rfl) (fun K hK => ?_)
            go_simp
            refine hK _ ?_
            clear hK K
            with_reducible refine wpQuiet_run (by kernel_rfl) (fun K hK => ?_)
            go_simp
            apply Exists.intro
            refine ⟨fun _ => ?_, hK _ ?_⟩
            (go_at_call 48; (with_reducible refine Calls.grown_of (HCW.out _ _)))
            clear hK K
            with_reducible refine wpQuiet_run (by kernel_rfl) (fun K hK => ?_)
            go_simp
            refine hK _ ?_
            clear hK K
            with_reducible refine wpQuiet_run (by kernel_rfl) (fun K hK => ?_)
            go_simp
            refine hK _ ?_
            clear hK K
            with_reducible refine wpQuiet_run (by kernel_rfl) (fun K hK => ?_)
            go_simp
            refine hK _ ?_
            clear hK K
            with_reducible refine wpQuiet_run (by kernel_rfl) (fun K hK => ?_)
            go_simp
            refine hK _ ?_
            clear hK K
            with_reducible refine wpQuiet_run (by kernel_rfl) (fun K hK => ?_)
            go_simp
            refine hK _ ?_
            clear hK K
            with_reducible refine wpQuiet_run (by kernel_rfl) (fun K hK => ?_)
            go_simp
            refine hK _ ?_
            clear hK K
            with_reducible refine wpQuiet_run (by kernel_rfl) (fun K hK => ?_)
            go_simp
            refine hK _ ?_
            clear hK K
            with_reducible refine wpQuiet_run (by kernel_rfl) (fun K hK => ?_)
            go_simp
            refine hK _ ?_
            clear hK K
            with_reducible refine wpQuiet_run (by kernel_rfl) (fun K hK => ?_)
            go_simp
            refine hK _ ?_
            clear hK K
            with_reducible refine wpQuiet_run (by kernel_rfl) (fun K hK => ?_)
            go_simp
            refine hK _ ?_
            clear hK K
            with_reducible refine wpQuiet_run (by kernel_rfl) (fun K hK => ?_)
            go_simp
            refine hK _ ?_
            clear hK K
            with_reducible refine wpQuiet_run (by kernel_rfl) (fun K hK => ?_)
            go_simp
            refine hK _ ?_
            clear hK K
            with_reducible refine wpQuiet_run (by kernel_rfl) (fun K hK => ?_)
            go_simp
            refine hK _ ?_
            clear hK K
            with_reducible refine wpQuiet_run (by kernel_rfl) (fun K hK => ?_)
            go_simp
            refine hK _ ?_
            clear hK K
            with_reducible refine wpQuiet_run (by kernel_rfl) (fun K hK => ?_)
            go_simp
            apply Exists.intro
            refine ⟨fun _ => ?_, hK _ ?_⟩
            (go_at_call 49; (with_reducible refine Calls.grown_of (HCX.out _ _)))
            clear hK K
            with_reducible refine wpQuiet_run (by kernel_rfl) (fun K hK => ?_)
            go_simp
            refine hK _ ?_
            clear hK K
            with_reducible refine wpQuiet_run (by kernel_rfl) (fun K hK => ?_)
            go_simp
            refine hK _ ?_
            clear hK K
            with_reducible refine wpQuiet_run (by kernel_rfl) (fun K hK => ?_)
            go_simp
            refine hK _ ?_
            clear hK K
            refine wpQuiet_nil ?_
            intro _ hw'
            obtain ⟨⟨nq, osq⟩, hw''⟩ := hw'
            subst hw''
            have hBf := bl_grow wr nq osq
            go_wp2_with fail
            go_ret
            exact ⟨ret_bool (HNO.out (HJS.out.trans rfl)).symm, hB.trans (hBf.mono hbs)⟩
          · rw [hbf] at HCX HJS
            clear hbf
            go_wp2_with fail
            refine wp_region_quiet_grown (by assumption) (by kernel_rfl) ?_
            with_reducible refine wpQuiet_run (by kernel_rfl) (fun K hK => ?_)
            go_simp
            refine hK _ ?_
            clear hK K
            with_reducible refine wpQuiet_run (by kernel_rfl) (fun K hK => ?_)
            go_simp
            refine hK _ ?_
            clear hK K
            with_reducible refine wpQuiet_run (by kernel_rfl) (fun K hK => ?_)
            go_simp
            refine hK _ ?_
            clear hK K
            with_reducible refine wpQuiet_run (by kernel_rfl) (fun K hK => ?_)
            go_simp
            refine hK _ ?_
            clear hK K
            with_reducible refine wpQuiet_run (by kernel_rfl) (fun K hK => ?_)
            go_simp
            apply Exists.intro
            refine ⟨fun _ => ?_, hK _ ?_⟩
            (go_at_call 48; (with_reducible refine Calls.grown_of (HCW.out _ _)))
            clear hK K
            with_reducible refine wpQuiet_run (by kernel_rfl) (fun K hK => ?_)
            go_simp
            refine hK _ ?_
            clear hK K
            with_reducible refine wpQuiet_run (by kernel_rfl) (fun K hK => ?_)
            go_simp
            refine hK _ ?_
            clear hK K
            with_reducible refine wpQuiet_run (by kernel_rfl) (fun K hK => ?_)
            go_simp
            refine hK _ ?_
            clear hK K
            with_reducible refine wpQuiet_run (by kernel_rfl) (fun K hK => ?_)
            go_simp
            refine hK _ ?_
            clear hK K
            with_reducible refine wpQuiet_run (by kernel_rfl) (fun K hK => ?_)
            go_simp
            refine hK _ ?_
            clear hK K
            with_reducible refine wpQuiet_run (by kernel_rfl) (fun K hK => ?_)
            go_simp
            refine hK _ ?_
            clear hK K
            with_reducible refine wpQuiet_run (by kernel_rfl) (fun K hK => ?_)
            go_simp
            refine hK _ ?_
            clear hK K
            with_reducible refine wpQuiet_run (by kernel_rfl) (fun K hK => ?_)
            go_simp
            refine hK _ ?_
            clear hK K
            with_reducible refine wpQuiet_run (by kernel_rfl) (fun K hK => ?_)
            go_simp
            refine hK _ ?_
            clear hK K
            with_reducible refine wpQuiet_run (by kernel_rfl) (fun K hK => ?_)
            go_simp
            refine hK _ ?_
            clear hK K
            with_reducible refine wpQuiet_run (by kernel_rfl) (fun K hK => ?_)
            go_simp
            refine hK _ ?_
            clear hK K
            with_reducible refine wpQuiet_run (by kernel_rfl) (fun K hK => ?_)
            go_simp
            refine hK _ ?_
            clear hK K
            with_reducible refine wpQuiet_run (by kernel_rfl) (fun K hK => ?_)
            go_simp
            refine hK _ ?_
            clear hK K
            with_reducible refine wpQuiet_run (by kernel_rfl) (fun K hK => ?_)
            go_simp
            refine hK _ ?_
            clear hK K
            with_reducible refine wpQuiet_run (by kernel_rfl) (fun K hK => ?_)
            go_simp
            apply Exists.intro
            refine ⟨fun _ => ?_, hK _ ?_⟩
            (go_at_call 49; (with_reducible refine Calls.grown_of (HCX.out _ _)))
            clear hK K
            with_reducible refine wpQuiet_run (by kernel_rfl) (fun K hK => ?_)
            go_simp
            refine hK _ ?_
            clear hK K
            with_reducible refine wpQuiet_run (by kernel_rfl) (fun K hK => ?_)
            go_simp
            refine hK _ ?_
            clear hK K
            with_reducible refine wpQuiet_run (by kernel_rfl) (fun K hK => ?_)
            go_simp
            refine hK _ ?_
            clear hK K
            refine wpQuiet_nil ?_
            intro _ hw'
            obtain ⟨⟨nq, osq⟩, hw''⟩ := hw'
            subst hw''
            have hBf := bl_grow wr nq osq
            have z0 := q0 nq osq
            have z1 := q1 nq osq
            have z2 := q2 nq osq
            have y0 := r0 nq osq
            have y1 := r1 nq osq
            have y2 := r2 nq osq
            have hbl := Nat.lt_of_lt_of_le hb hBf.size
            have hBm := hB.trans (hBf.mono hbs)
            generalize Sort.grow (wr.drewN nq) osq = w6 at *
            clear q0 q1 q2
            clear r0 r1 r2 HCW HCX
            have q0 : ∀ n os, (Sort.grow (w6.drewN n) os).cell? ⟨b, off + k * 3, none⟩ = some (.string o.name) := cell_grown hbl z0
            have q1 : ∀ n os, (Sort.grow (w6.drewN n) os).cell? ⟨b, off + k * 3 + 1, none⟩ = some (.int .i64 o.typ) := cell_grown hbl z1
            have r0 : ∀ n os, (Sort.grow (w6.drewN n) os).cell? ⟨b, off + (k - 1) * 3, none⟩ = some (.string p.name) := cell_grown hbl y0
            have r1 : ∀ n os, (Sort.grow (w6.drewN n) os).cell? ⟨b, off + (k - 1) * 3 + 1, none⟩ = some (.int .i64 p.typ) := cell_grown hbl y1
            have HKP : Hid (∀ n os, Calls Try.prog 19 #[.int .i64 p.typ] (Sort.grow (w6.drewN n) os) fun e w' => e = .returned (.int .i64 (clsOp p.typ)) ∧ ∃ q os', w' = Sort.grow ((Sort.grow (w6.drewN n) os).drewN q) os') := Lib.hid fun n os => (ref_class p.typ _).mono fun _ _ ⟨he, hw⟩ => ⟨he, 0, #[], by rw [hw, Sort.grow_empty]; rfl⟩
            have HKO : Hid (∀ n os, Calls Try.prog 19 #[.int .i64 o.typ] (Sort.grow (w6.drewN n) os) fun e w' => e = .returned (.int .i64 (clsOp o.typ)) ∧ ∃ q os', w' = Sort.grow ((Sort.grow (w6.drewN n) os).drewN q) os') := Lib.hid fun n os => (ref_class o.typ _).mono fun _ _ ⟨he, hw⟩ => ⟨he, 0, #[], by rw [hw, Sort.grow_empty]; rfl⟩
            clear z0 z1 z2 y0 y1 y2
            cases hne : (p.name.toList == o.name.toList)
            · rw [hne] at HJS
              have hn2 : ¬p.name.toList = o.name.toList := by simpa using hne
              have HJ := Lib.hid HJS.out
              go_wp2_with fail
              refine wp_region_quiet_grown (by assumption) (by kernel_rfl) ?_
              with_reducible refine wpQuiet_run (by kernel_rfl) (fun K hK => ?_)
              go_simp
              refine hK _ ?_
              clear hK K
              with_reducible refine wpQuiet_run (by kernel_rfl) (fun K hK => ?_)
              go_simp
              refine hK _ ?_
              clear hK K
              with_reducible refine wpQuiet_run (by kernel_rfl) (fun K hK => ?_)
              go_simp
              refine hK _ ?_
              clear hK K
              with_reducible refine wpQuiet_run (by kernel_rfl) (fun K hK => ?_)
              go_simp
              refine hK _ ?_
              clear hK K
              with_reducible refine wpQuiet_run (by kernel_rfl) (fun K hK => ?_)
              go_simp
              refine hK _ ?_
              clear hK K
              with_reducible refine wpQuiet_run (by kernel_rfl) (fun K hK => ?_)
              go_simp
              refine hK _ ?_
              clear hK K
              with_reducible refine wpQuiet_run (by kernel_rfl) (fun K hK => ?_)
              go_simp
              refine hK _ ?_
              clear hK K
              with_reducible refine wpQuiet_run (by kernel_rfl) (fun K hK => ?_)
              go_simp
              refine hK _ ?_
              clear hK K
              with_reducible refine wpQuiet_run (by kernel_rfl) (fun K hK => ?_)
              go_simp
              refine hK _ ?_
              clear hK K
              with_reducible refine wpQuiet_run (by kernel_rfl) (fun K hK => ?_)
              go_simp
              refine hK _ ?_
              clear hK K
              with_reducible refine wpQuiet_run (by kernel_rfl) (fun K hK => ?_)
              go_simp
              refine hK _ ?_
              clear hK K
              with_reducible refine wpQuiet_run (by kernel_rfl) (fun K hK => ?_)
              go_simp
              refine hK _ ?_
              clear hK K
              with_reducible refine wpQuiet_run (by kernel_rfl) (fun K hK => ?_)
              go_simp
              refine hK _ ?_
              clear hK K
              with_reducible refine wpQuiet_run (by kernel_rfl) (fun K hK => ?_)
              go_simp
              refine hK _ ?_
              clear hK K
              with_reducible refine wpQuiet_run (by kernel_rfl) (fun K hK => ?_)
              go_simp
              refine hK _ ?_
              clear hK K
              with_reducible refine wpQuiet_run (by kernel_rfl) (fun K hK => ?_)
              go_simp
              refine hK _ ?_
              clear hK K
              with_reducible refine wpQuiet_run (by kernel_rfl) (fun K hK => ?_)
              go_simp
              refine hK _ ?_
              clear hK K
              with_reducible refine wpQuiet_skip (by kernel_rfl) ?_
              simp only [Act.put, List.setIfInBounds_toArray, List.set_cons_zero, List.set_cons_succ]
              with_reducible refine wpQuiet_skip (by kernel_rfl) ?_
              simp only [Act.put, List.setIfInBounds_toArray, List.set_cons_zero, List.set_cons_succ]
              with_reducible refine wpQuiet_skip (by kernel_rfl) ?_
              simp only [Act.put, List.setIfInBounds_toArray, List.set_cons_zero, List.set_cons_succ]
              with_reducible refine wpQuiet_skip (by kernel_rfl) ?_
              simp only [Act.put, List.setIfInBounds_toArray, List.set_cons_zero, List.set_cons_succ]
              with_reducible refine wpQuiet_skip (by kernel_rfl) ?_
              simp only [Act.put, List.setIfInBounds_toArray, List.set_cons_zero, List.set_cons_succ]
              with_reducible refine wpQuiet_skip (by kernel_rfl) ?_
              simp only [Act.put, List.setIfInBounds_toArray, List.set_cons_zero, List.set_cons_succ]
              with_reducible refine wpQuiet_skip (by kernel_rfl) ?_
              simp only [Act.put, List.setIfInBounds_toArray, List.set_cons_zero, List.set_cons_succ]
              with_reducible refine wpQuiet_skip (by kernel_rfl) ?_
              simp only [Act.put, List.setIfInBounds_toArray, List.set_cons_zero, List.set_cons_succ]
              with_reducible refine wpQuiet_run (by kernel_rfl) (fun K hK => ?_)
              go_simp
              refine hK _ ?_
              clear hK K
              with_reducible refine wpQuiet_run (by kernel_rfl) (fun K hK => ?_)
              go_simp
              refine hK _ ?_
              clear hK K
              with_reducible refine wpQuiet_skip (by kernel_rfl) ?_
              simp only [Act.put, List.setIfInBounds_toArray, List.set_cons_zero, List.set_cons_succ]
              with_reducible refine wpQuiet_skip (by kernel_rfl) ?_
              simp only [Act.put, List.setIfInBounds_toArray, List.set_cons_zero, List.set_cons_succ]
              with_reducible refine wpQuiet_skip (by kernel_rfl) ?_
              simp only [Act.put, List.setIfInBounds_toArray, List.set_cons_zero, List.set_cons_succ]
              with_reducible refine wpQuiet_skip (by kernel_rfl) ?_
              simp only [Act.put, List.setIfInBounds_toArray, List.set_cons_zero, List.set_cons_succ]
              with_reducible refine wpQuiet_skip (by kernel_rfl) ?_
              simp only [Act.put, List.setIfInBounds_toArray, List.set_cons_zero, List.set_cons_succ]
              with_reducible refine wpQuiet_skip (by kernel_rfl) ?_
              simp only [Act.put, List.setIfInBounds_toArray, List.set_cons_zero, List.set_cons_succ]
              with_reducible refine wpQuiet_skip (by kernel_rfl) ?_
              simp only [Act.put, List.setIfInBounds_toArray, List.set_cons_zero, List.set_cons_succ]
              with_reducible refine wpQuiet_run (by kernel_rfl) (fun K hK => ?_)
              go_simp
              refine hK _ ?_
              clear hK K
              refine wpQuiet_nil ?_
              intro _ hw'
              obtain ⟨⟨nq, osq⟩, hw''⟩ := hw'
              subst hw''
              have hBn := hBm.trans ((bl_grow w6 nq osq).mono hBm.size)
              go_wp2_with fail
              go_roundw
              case rel => exact ⟨k + 1, by omega, by go_num, hBn, Lib.hid fun j hj => by
                rcases Nat.lt_or_ge j k with h | h
                · exact HA.out j h
                · have : j = k := by omega
                  subst this; exact HJ.out⟩
              case measure => simp [intOf] <;> omega
            · rw [hne] at HJS
              have hn2 : p.name.toList = o.name.toList := by simpa using hne
              generalize clsOp p.typ = cp at *
              generalize clsOp o.typ = co at *
              cases hc2 : (cp == 2)
              · rw [hc2] at HJS
                have hc2' : ¬cp = 2 := by simpa using hc2
                have HJ := Lib.hid HJS.out
                go_wp2_with fail
                refine wp_region_quiet_grown (by assumption) (by kernel_rfl) ?_
                with_reducible refine wpQuiet_run (by kernel_rfl) (fun K hK => ?_)
                go_simp
                refine hK _ ?_
                clear hK K
                with_reducible refine wpQuiet_run (by kernel_rfl) (fun K hK => ?_)
                go_simp
                refine hK _ ?_
                clear hK K
                with_reducible refine wpQuiet_run (by kernel_rfl) (fun K hK => ?_)
                go_simp
                refine hK _ ?_
                clear hK K
                with_reducible refine wpQuiet_run (by kernel_rfl) (fun K hK => ?_)
                go_simp
                refine hK _ ?_
                clear hK K
                with_reducible refine wpQuiet_run (by kernel_rfl) (fun K hK => ?_)
                go_simp
                refine hK _ ?_
                clear hK K
                with_reducible refine wpQuiet_run (by kernel_rfl) (fun K hK => ?_)
                go_simp
                refine hK _ ?_
                clear hK K
                with_reducible refine wpQuiet_run (by kernel_rfl) (fun K hK => ?_)
                go_simp
                refine hK _ ?_
                clear hK K
                with_reducible refine wpQuiet_run (by kernel_rfl) (fun K hK => ?_)
                go_simp
                refine hK _ ?_
                clear hK K
                with_reducible refine wpQuiet_run (by kernel_rfl) (fun K hK => ?_)
                go_simp
                refine hK _ ?_
                clear hK K
                with_reducible refine wpQuiet_run (by kernel_rfl) (fun K hK => ?_)
                go_simp
                refine hK _ ?_
                clear hK K
                with_reducible refine wpQuiet_run (by kernel_rfl) (fun K hK => ?_)
                go_simp
                refine hK _ ?_
                clear hK K
                with_reducible refine wpQuiet_run (by kernel_rfl) (fun K hK => ?_)
                go_simp
                refine hK _ ?_
                clear hK K
                with_reducible refine wpQuiet_run (by kernel_rfl) (fun K hK => ?_)
                go_simp
                refine hK _ ?_
                clear hK K
                with_reducible refine wpQuiet_run (by kernel_rfl) (fun K hK => ?_)
                go_simp
                refine hK _ ?_
                clear hK K
                with_reducible refine wpQuiet_run (by kernel_rfl) (fun K hK => ?_)
                go_simp
                refine hK _ ?_
                clear hK K
                with_reducible refine wpQuiet_run (by kernel_rfl) (fun K hK => ?_)
                go_simp
                refine hK _ ?_
                clear hK K
                with_reducible refine wpQuiet_run (by kernel_rfl) (fun K hK => ?_)
                go_simp
                refine hK _ ?_
                clear hK K
                with_reducible refine wpQuiet_run (by kernel_rfl) (fun K hK => ?_)
                go_simp
                refine hK _ ?_
                clear hK K
                with_reducible refine wpQuiet_run (by kernel_rfl) (fun K hK => ?_)
                go_simp
                refine hK _ ?_
                clear hK K
                with_reducible refine wpQuiet_run (by kernel_rfl) (fun K hK => ?_)
                go_simp
                refine hK _ ?_
                clear hK K
                with_reducible refine wpQuiet_run (by kernel_rfl) (fun K hK => ?_)
                go_simp
                refine hK _ ?_
                clear hK K
                with_reducible refine wpQuiet_run (by kernel_rfl) (fun K hK => ?_)
                go_simp
                refine hK _ ?_
                clear hK K
                with_reducible refine wpQuiet_run (by kernel_rfl) (fun K hK => ?_)
                go_simp
                refine hK _ ?_
                clear hK K
                with_reducible refine wpQuiet_run (by kernel_rfl) (fun K hK => ?_)
                go_simp
                apply Exists.intro
                refine ⟨fun _ => ?_, hK _ ?_⟩
                (go_at_call 19; (with_reducible refine Calls.grown_of (HKP.out _ _)))
                clear hK K
                with_reducible refine wpQuiet_run (by kernel_rfl) (fun K hK => ?_)
                go_simp
                refine hK _ ?_
                clear hK K
                with_reducible refine wpQuiet_run (by kernel_rfl) (fun K hK => ?_)
                go_simp
                refine hK _ ?_
                clear hK K
                with_reducible refine wpQuiet_run (by kernel_rfl) (fun K hK => ?_)
                go_simp
                refine hK _ ?_
                clear hK K
                with_reducible refine wpQuiet_skip (by kernel_rfl) ?_
                simp only [Act.put, List.setIfInBounds_toArray, List.set_cons_zero, List.set_cons_succ]
                with_reducible refine wpQuiet_skip (by kernel_rfl) ?_
                simp only [Act.put, List.setIfInBounds_toArray, List.set_cons_zero, List.set_cons_succ]
                with_reducible refine wpQuiet_skip (by kernel_rfl) ?_
                simp only [Act.put, List.setIfInBounds_toArray, List.set_cons_zero, List.set_cons_succ]
                with_reducible refine wpQuiet_skip (by kernel_rfl) ?_
                simp only [Act.put, List.setIfInBounds_toArray, List.set_cons_zero, List.set_cons_succ]
                with_reducible refine wpQuiet_skip (by kernel_rfl) ?_
                simp only [Act.put, List.setIfInBounds_toArray, List.set_cons_zero, List.set_cons_succ]
                with_reducible refine wpQuiet_skip (by kernel_rfl) ?_
                simp only [Act.put, List.setIfInBounds_toArray, List.set_cons_zero, List.set_cons_succ]
                with_reducible refine wpQuiet_skip (by kernel_rfl) ?_
                simp only [Act.put, List.setIfInBounds_toArray, List.set_cons_zero, List.set_cons_succ]
                with_reducible refine wpQuiet_run (by kernel_rfl) (fun K hK => ?_)
                go_simp
                refine hK _ ?_
                clear hK K
                refine wpQuiet_nil ?_
                intro _ hw'
                obtain ⟨⟨nq, osq⟩, hw''⟩ := hw'
                subst hw''
                have hBn := hBm.trans ((bl_grow w6 nq osq).mono hBm.size)
                go_wp2_with fail
                go_roundw
                case rel => exact ⟨k + 1, by omega, by go_num, hBn, Lib.hid fun j hj => by
                  rcases Nat.lt_or_ge j k with h | h
                  · exact HA.out j h
                  · have : j = k := by omega
                    subst this; exact HJ.out⟩
                case measure => simp [intOf] <;> omega
              · rw [hc2] at HJS
                have hc2' : cp = 2 := by simpa using hc2
                cases hc3 : (co == 3)
                · rw [hc3] at HJS
                  have hc3' : ¬co = 3 := by simpa using hc3
                  have HJ := Lib.hid HJS.out
                  go_wp2_with fail
                  refine wp_region_quiet_grown (by assumption) (by kernel_rfl) ?_
                  with_reducible refine wpQuiet_run (by kernel_rfl) (fun K hK => ?_)
                  go_simp
                  refine hK _ ?_
                  clear hK K
                  with_reducible refine wpQuiet_run (by kernel_rfl) (fun K hK => ?_)
                  go_simp
                  refine hK _ ?_
                  clear hK K
                  with_reducible refine wpQuiet_run (by kernel_rfl) (fun K hK => ?_)
                  go_simp
                  refine hK _ ?_
                  clear hK K
                  with_reducible refine wpQuiet_run (by kernel_rfl) (fun K hK => ?_)
                  go_simp
                  refine hK _ ?_
                  clear hK K
                  with_reducible refine wpQuiet_run (by kernel_rfl) (fun K hK => ?_)
                  go_simp
                  refine hK _ ?_
                  clear hK K
                  with_reducible refine wpQuiet_run (by kernel_rfl) (fun K hK => ?_)
                  go_simp
                  refine hK _ ?_
                  clear hK K
                  with_reducible refine wpQuiet_run (by kernel_rfl) (fun K hK => ?_)
                  go_simp
                  refine hK _ ?_
                  clear hK K
                  with_reducible refine wpQuiet_run (by kernel_rfl) (fun K hK => ?_)
                  go_simp
                  refine hK _ ?_
                  clear hK K
                  with_reducible refine wpQuiet_run (by kernel_rfl) (fun K hK => ?_)
                  go_simp
                  refine hK _ ?_
                  clear hK K
                  with_reducible refine wpQuiet_run (by kernel_rfl) (fun K hK => ?_)
                  go_simp
                  refine hK _ ?_
                  clear hK K
                  with_reducible refine wpQuiet_run (by kernel_rfl) (fun K hK => ?_)
                  go_simp
                  refine hK _ ?_
                  clear hK K
                  with_reducible refine wpQuiet_run (by kernel_rfl) (fun K hK => ?_)
                  go_simp
                  refine hK _ ?_
                  clear hK K
                  with_reducible refine wpQuiet_run (by kernel_rfl) (fun K hK => ?_)
                  go_simp
                  refine hK _ ?_
                  clear hK K
                  with_reducible refine wpQuiet_run (by kernel_rfl) (fun K hK => ?_)
                  go_simp
                  refine hK _ ?_
                  clear hK K
                  with_reducible refine wpQuiet_run (by kernel_rfl) (fun K hK => ?_)
                  go_simp
                  refine hK _ ?_
                  clear hK K
                  with_reducible refine wpQuiet_run (by kernel_rfl) (fun K hK => ?_)
                  go_simp
                  refine hK _ ?_
                  clear hK K
                  with_reducible refine wpQuiet_run (by kernel_rfl) (fun K hK => ?_)
                  go_simp
                  refine hK _ ?_
                  clear hK K
                  with_reducible refine wpQuiet_run (by kernel_rfl) (fun K hK => ?_)
                  go_simp
                  refine hK _ ?_
                  clear hK K
                  with_reducible refine wpQuiet_run (by kernel_rfl) (fun K hK => ?_)
                  go_simp
                  refine hK _ ?_
                  clear hK K
                  with_reducible refine wpQuiet_run (by kernel_rfl) (fun K hK => ?_)
                  go_simp
                  refine hK _ ?_
                  clear hK K
                  with_reducible refine wpQuiet_run (by kernel_rfl) (fun K hK => ?_)
                  go_simp
                  refine hK _ ?_
                  clear hK K
                  with_reducible refine wpQuiet_run (by kernel_rfl) (fun K hK => ?_)
                  go_simp
                  refine hK _ ?_
                  clear hK K
                  with_reducible refine wpQuiet_run (by kernel_rfl) (fun K hK => ?_)
                  go_simp
                  refine hK _ ?_
                  clear hK K
                  with_reducible refine wpQuiet_run (by kernel_rfl) (fun K hK => ?_)
                  go_simp
                  apply Exists.intro
                  refine ⟨fun _ => ?_, hK _ ?_⟩
                  (go_at_call 19; (with_reducible refine Calls.grown_of (HKP.out _ _)))
                  clear hK K
                  with_reducible refine wpQuiet_run (by kernel_rfl) (fun K hK => ?_)
                  go_simp
                  refine hK _ ?_
                  clear hK K
                  with_reducible refine wpQuiet_run (by kernel_rfl) (fun K hK => ?_)
                  go_simp
                  refine hK _ ?_
                  clear hK K
                  with_reducible refine wpQuiet_run (by kernel_rfl) (fun K hK => ?_)
                  go_simp
                  refine hK _ ?_
                  clear hK K
                  with_reducible refine wpQuiet_run (by kernel_rfl) (fun K hK => ?_)
                  go_simp
                  refine hK _ ?_
                  clear hK K
                  with_reducible refine wpQuiet_run (by kernel_rfl) (fun K hK => ?_)
                  go_simp
                  refine hK _ ?_
                  clear hK K
                  with_reducible refine wpQuiet_run (by kernel_rfl) (fun K hK => ?_)
                  go_simp
                  refine hK _ ?_
                  clear hK K
                  with_reducible refine wpQuiet_run (by kernel_rfl) (fun K hK => ?_)
                  go_simp
                  refine hK _ ?_
                  clear hK K
                  with_reducible refine wpQuiet_run (by kernel_rfl) (fun K hK => ?_)
                  go_simp
                  refine hK _ ?_
                  clear hK K
                  with_reducible refine wpQuiet_run (by kernel_rfl) (fun K hK => ?_)
                  go_simp
                  apply Exists.intro
                  refine ⟨fun _ => ?_, hK _ ?_⟩
                  (go_at_call 19; (with_reducible refine Calls.grown_of (HKO.out _ _)))
                  clear hK K
                  with_reducible refine wpQuiet_run (by kernel_rfl) (fun K hK => ?_)
                  go_simp
                  refine hK _ ?_
                  clear hK K
                  with_reducible refine wpQuiet_run (by kernel_rfl) (fun K hK => ?_)
                  go_simp
                  refine hK _ ?_
                  clear hK K
                  refine wpQuiet_nil ?_
                  intro _ hw'
                  obtain ⟨⟨nq, osq⟩, hw''⟩ := hw'
                  subst hw''
                  have hBn := hBm.trans ((bl_grow w6 nq osq).mono hBm.size)
                  go_wp2_with fail
                  go_roundw
                  case rel => exact ⟨k + 1, by omega, by go_num, hBn, Lib.hid fun j hj => by
                    rcases Nat.lt_or_ge j k with h | h
                    · exact HA.out j h
                    · have : j = k := by omega
                      subst this; exact HJ.out⟩
                  case measure => simp [intOf] <;> omega
                · rw [hc3] at HJS
                  have hc3' : co = 3 := by simpa using hc3
                  go_wp2_with fail
                  refine wp_region_quiet_grown (by assumption) (by kernel_rfl) ?_
                  with_reducible refine wpQuiet_run (by kernel_rfl) (fun K hK => ?_)
                  go_simp
                  refine hK _ ?_
                  clear hK K
                  with_reducible refine wpQuiet_run (by kernel_rfl) (fun K hK => ?_)
                  go_simp
                  refine hK _ ?_
                  clear hK K
                  with_reducible refine wpQuiet_run (by kernel_rfl) (fun K hK => ?_)
                  go_simp
                  refine hK _ ?_
                  clear hK K
                  with_reducible refine wpQuiet_run (by kernel_rfl) (fun K hK => ?_)
                  go_simp
                  refine hK _ ?_
                  clear hK K
                  with_reducible refine wpQuiet_run (by kernel_rfl) (fun K hK => ?_)
                  go_simp
                  refine hK _ ?_
                  clear hK K
                  with_reducible refine wpQuiet_run (by kernel_rfl) (fun K hK => ?_)
                  go_simp
                  refine hK _ ?_
                  clear hK K
                  with_reducible refine wpQuiet_run (by kernel_rfl) (fun K hK => ?_)
                  go_simp
                  refine hK _ ?_
                  clear hK K
                  with_reducible refine wpQuiet_run (by kernel_rfl) (fun K hK => ?_)
                  go_simp
                  refine hK _ ?_
                  clear hK K
                  with_reducible refine wpQuiet_run (by kernel_rfl) (fun K hK => ?_)
                  go_simp
                  refine hK _ ?_
                  clear hK K
                  with_reducible refine wpQuiet_run (by kernel_rfl) (fun K hK => ?_)
                  go_simp
                  refine hK _ ?_
                  clear hK K
                  with_reducible refine wpQuiet_run (by kernel_rfl) (fun K hK => ?_)
                  go_simp
                  refine hK _ ?_
                  clear hK K
                  with_reducible refine wpQuiet_run (by kernel_rfl) (fun K hK => ?_)
                  go_simp
                  refine hK _ ?_
                  clear hK K
                  with_reducible refine wpQuiet_run (by kernel_rfl) (fun K hK => ?_)
                  go_simp
                  refine hK _ ?_
                  clear hK K
                  with_reducible refine wpQuiet_run (by kernel_rfl) (fun K hK => ?_)
                  go_simp
                  refine hK _ ?_
                  clear hK K
                  with_reducible refine wpQuiet_run (by kernel_rfl) (fun K hK => ?_)
                  go_simp
                  refine hK _ ?_
                  clear hK K
                  with_reducible refine wpQuiet_run (by kernel_rfl) (fun K hK => ?_)
                  go_simp
                  refine hK _ ?_
                  clear hK K
                  with_reducible refine wpQuiet_run (by kernel_rfl) (fun K hK => ?_)
                  go_simp
                  refine hK _ ?_
                  clear hK K
                  with_reducible refine wpQuiet_run (by kernel_rfl) (fun K hK => ?_)
                  go_simp
                  refine hK _ ?_
                  clear hK K
                  with_reducible refine wpQuiet_run (by kernel_rfl) (fun K hK => ?_)
                  go_simp
                  refine hK _ ?_
                  clear hK K
                  with_reducible refine wpQuiet_run (by kernel_rfl) (fun K hK => ?_)
                  go_simp
                  refine hK _ ?_
                  clear hK K
                  with_reducible refine wpQuiet_run (by kernel_rfl) (fun K hK => ?_)
                  go_simp
                  refine hK _ ?_
                  clear hK K
                  with_reducible refine wpQuiet_run (by kernel_rfl) (fun K hK => ?_)
                  go_simp
                  refine hK _ ?_
                  clear hK K
                  with_reducible refine wpQuiet_run (by kernel_rfl) (fun K hK => ?_)
                  go_simp
                  refine hK _ ?_
                  clear hK K
                  with_reducible refine wpQuiet_run (by kernel_rfl) (fun K hK => ?_)
                  go_simp
                  apply Exists.intro
                  refine ⟨fun _ => ?_, hK _ ?_⟩
                  (go_at_call 19; (with_reducible refine Calls.grown_of (HKP.out _ _)))
                  clear hK K
                  with_reducible refine wpQuiet_run (by kernel_rfl) (fun K hK => ?_)
                  go_simp
                  refine hK _ ?_
                  clear hK K
                  with_reducible refine wpQuiet_run (by kernel_rfl) (fun K hK => ?_)
                  go_simp
                  refine hK _ ?_
                  clear hK K
                  with_reducible refine wpQuiet_run (by kernel_rfl) (fun K hK => ?_)
                  go_simp
                  refine hK _ ?_
                  clear hK K
                  with_reducible refine wpQuiet_run (by kernel_rfl) (fun K hK => ?_)
                  go_simp
                  refine hK _ ?_
                  clear hK K
                  with_reducible refine wpQuiet_run (by kernel_rfl) (fun K hK => ?_)
                  go_simp
                  refine hK _ ?_
                  clear hK K
                  with_reducible refine wpQuiet_run (by kernel_rfl) (fun K hK => ?_)
                  go_simp
                  refine hK _ ?_
                  clear hK K
                  with_reducible refine wpQuiet_run (by kernel_rfl) (fun K hK => ?_)
                  go_simp
                  refine hK _ ?_
                  clear hK K
                  with_reducible refine wpQuiet_run (by kernel_rfl) (fun K hK => ?_)
                  go_simp
                  refine hK _ ?_
                  clear hK K
                  with_reducible refine wpQuiet_run (by kernel_rfl) (fun K hK => ?_)
                  go_simp
                  apply Exists.intro
                  refine ⟨fun _ => ?_, hK _ ?_⟩
                  (go_at_call 19; (with_reducible refine Calls.grown_of (HKO.out _ _)))
                  clear hK K
                  with_reducible refine wpQuiet_run (by kernel_rfl) (fun K hK => ?_)
                  go_simp
                  refine hK _ ?_
                  clear hK K
                  with_reducible refine wpQuiet_run (by kernel_rfl) (fun K hK => ?_)
                  go_simp
                  refine hK _ ?_
                  clear hK K
                  refine wpQuiet_nil ?_
                  intro _ hw'
                  obtain ⟨⟨nq, osq⟩, hw''⟩ := hw'
                  subst hw''
                  have hBn := hBm.trans ((bl_grow w6 nq osq).mono hBm.size)
                  go_wp2_with fail
                  go_ret
                  exact ⟨ret_bool (HNO.out (HJS.out.trans rfl)).symm, hBn⟩
    · obtain rfl : k = n := by omega
      have HY := Lib.hid (opsValid_yes l (by have := HN.out; omega) (fun j hj => HA.out j (by have := HN.out; omega)))
      go_wp2_with fail
      go_ret
      exact ⟨ret_bool HY.out.symm, hB⟩
end Go.Proofs.Yteddbeifnolklaa
