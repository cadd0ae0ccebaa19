/- Operators: slices.Insert of one operator. -/
import Derived.Test.YteddbeifnolklaaOpD
import Derived.Lib.AppendZerosOnto
import Derived.Lib.Overlaps
import Derived.Shelf.Spec.SlicesInsert
namespace Hb
open Go Go.RowKit
theorem run_copy_row3 {P : Program} (w : World) (dT sT ty elem : TypeId) (g o dLen dCap : Nat) (a : Addr) (sLen sCap : Nat) (cur : List Value) (t : TypeId) (cs : List Value) (m : Nat)
    (hu : P.underlying dT = some (.slice elem)) (hs : (P.info? elem).map (·.size) = some 3)
    (hg : w.heap[g]? = some (.cells cur.toArray t (0, 0))) (hm : m = Nat.min sLen dLen) (hn : cs.length = m * 3)
    (hsrc : ∀ j v, cs[j]? = some v → w.cell? (a.add j) = some v) (hfit : o + cs.length ≤ cur.length) (h1 : ∀ v ∈ cs, v.oneCell' = true) :
    (Builtin.copy_ #[dT, sT] ty #[.slice (some ⟨g, o, none⟩) dLen dCap, .slice (some a) sLen sCap]).run P w =
      .ok (goInt m) (w.setRow g (cur.take o ++ cs ++ cur.drop (o + cs.length)).toArray) := by
  have hl := run_loadCells_list (P := P) w a cs hsrc
  have hst := run_storeCells_at P g o t cs 0 cur.toArray w hg (by simpa using hfit) h1
  simp only [Nat.add_zero] at hst
  cases hq : P.info? elem with
  | none => simp [hq] at hs
  | some i =>
    have hi : i.size = 3 := by simpa [hq] using hs
    rw [hn] at hl
    simp [Builtin.copy_, run_underlying hu, Builtin.lenOf, Builtin.firstCells, Go.sizeOf, typeInfo, hq, hi, ← hm, hl, hst]
theorem shift_lists {α : Type} (a b R oc : List α) (h3 : oc.length = 3) (hR : 3 ≤ R.length) :
    ∀ C C', C = a ++ b ++ R → C' = C.take (a.length + 3) ++ b ++ C.drop (a.length + 3 + b.length) → (C'.take a.length ++ oc ++ C'.drop (a.length + oc.length)).take (a.length + 3 + b.length) = a ++ oc ++ b ∧ C'.length = C.length ∧ (C'.take a.length ++ oc ++ C'.drop (a.length + oc.length)).length = C.length := by
  intro C C' hC hC'
  have e1 : C.take (a.length + 3) = a ++ (b ++ R).take 3 := by
    rw [hC, List.append_assoc, List.take_append, List.take_of_length_le (by omega), Nat.add_sub_cancel_left]
  have e2 : ((b ++ R).take 3).length = 3 := by rw [List.length_take, List.length_append]; omega
  have e3 : C'.take a.length = a := by
    rw [hC', e1, List.append_assoc, List.append_assoc, List.take_append_of_le_length (Nat.le_refl _), List.take_length]
  have e4 : C'.drop (a.length + oc.length) = b ++ C.drop (a.length + 3 + b.length) := by
    rw [hC', e1, h3, List.append_assoc]
    exact List.drop_left' (by rw [List.length_append, e2])
  have hl : C'.length = C.length := by
    rw [hC', List.length_append, List.length_append, List.length_take, List.length_drop, hC]
    simp only [List.length_append]
    omega
  refine ⟨?_, hl, ?_⟩
  · rw [e3, e4, ← List.append_assoc]
    exact List.take_left' (by simp only [List.length_append]; omega)
  · rw [e3, List.length_append, List.length_append, List.length_drop, hl, hC]
    simp only [List.length_append]
    omega
theorem grow_lists {α : Type} (a b Z oc : List α) (h3 : oc.length = 3) (hZ : 3 + b.length ≤ Z.length) :
    ∀ C C1, C = a ++ Z → C1 = C.take a.length ++ oc ++ C.drop (a.length + oc.length) → (C1.take (a.length + 3) ++ b ++ C1.drop (a.length + 3 + b.length)).take (a.length + 3 + b.length) = a ++ oc ++ b ∧ C1.length = C.length ∧ (C1.take (a.length + 3) ++ b ++ C1.drop (a.length + 3 + b.length)).length = C.length := by
  intro C C1 hC hC1
  have e1 : C.take a.length = a := by rw [hC]; exact List.take_left' rfl
  have e2 : C1.take (a.length + 3) = a ++ oc := by
    rw [hC1, e1]; exact List.take_left' (by rw [List.length_append]; omega)
  have hl : C1.length = C.length := by
    rw [hC1, e1, List.length_append, List.length_append, List.length_drop, hC, List.length_append]; omega
  refine ⟨?_, hl, ?_⟩
  · rw [e2]
    exact List.take_left' (by simp only [List.length_append]; omega)
  · rw [e2, List.length_append, List.length_append, List.length_append, List.length_drop, hl, hC, List.length_append]; omega
theorem oc_split (l : List OpR) (i : Nat) (o : OpR) : opsCells (l.take i ++ o :: l.drop i) = opsCells (l.take i) ++ opCells o ++ opsCells (l.drop i) := by
  rw [opsCells_app, List.append_assoc]; rfl
/-- The row of an own slice, as a list. -/
theorem own_row {w : World} {base e n g cap : Nat} {l : List OpR} (h : w.ownsRow base e 3 (.slice (some ⟨g, 0, none⟩) n cap) n (opsCells l)) : ∃ R, w.heap[g]? = some (.cells (opsCells l ++ R).toArray e (0, 0)) ∧ (opsCells l ++ R).length = cap * 3 ∧ n ≤ cap ∧ cap ≤ maxLen ∧ base ≤ g := by
  rcases h.2 with ⟨hv, _⟩ | ⟨g', cap', cur, hv, hb, hg, hnc, hcm, hcs, htake⟩
  · cases hv
  · injection hv with h1 h2 h3
    injection h1 with h1
    injection h1 with h1 _ _
    subst h1; subst h3
    refine ⟨cur.toList.drop (n * 3), ?_, ?_, hnc, hcm, hb⟩
    · rw [← htake, List.take_append_drop]; exact hg
    · rw [← htake, List.take_append_drop, Array.length_toList]; exact hcs
theorem row_own {w : World} {base e n g cap : Nat} {l : List OpR} {C : List Value} (hg : w.heap[g]? = some (.cells C.toArray e (0, 0))) (hC : C.length = cap * 3) (hn : n = l.length) (hnc : n ≤ cap) (hcm : cap ≤ maxLen) (hb : base ≤ g) (ht : C.take (n * 3) = opsCells l) : w.ownsRow base e 3 (.slice (some ⟨g, 0, none⟩) n cap) n (opsCells l) :=
  ⟨by rw [opsCells_len, hn], .inr ⟨g, cap, C.toArray, rfl, hb, hg, hnc, hcm, by simpa using hC, by simpa using ht⟩⟩
end Hb
namespace Go.Proofs.Yteddbeifnolklaa
open Go.RowKit Hb
set_option maxRecDepth 100000
theorem at_copyO {ops : Array Oper} {rest : List Oper} {a : Act} {Q : Exit → Act → World → Prop} {w : World} {d t p f x g} (h : wpList Try.prog ops Q (⟨d, .call { callee := .builtin .copy, args := x, argTypes := #[22, 22] }, t, p, f, g⟩ :: rest) a w) : wpList Try.prog ops Q (⟨d, .call { callee := .builtin .copy, args := x, argTypes := #[22, 22] }, t, p, f, g⟩ :: rest) a w := h
theorem size_op : (Try.prog.info? 34).map (·.size) = some 3 := by kernel_rfl
theorem sizeOf_op : ∀ w, (Go.sizeOf 34).run Try.prog w = .ok 3 w := fun w => by
  obtain ⟨i, hi, _, hz, _⟩ := info_parts infoOp
  simp [Go.sizeOf, typeInfo, hi, hz]
theorem overlaps_no (w : World) (vb g p m vc lb cb : Nat) (hne : vb ≠ g) (c1 c2 : Array Value) (t1 t2 : TypeId) (h1 : w.heap[vb]? = some (.cells c1 t1 (0, 0))) (h2 : w.heap[g]? = some (.cells c2 t2 (0, 0))) (hs : c2.size ≠ 0) :
    (callFunc 58 #[.slice (some ⟨vb, 0, none⟩) m vc, .slice (some ⟨g, p, none⟩) lb cb]).run Try.prog w = .ok (.value (.bool false)) w := by
  rw [run_callFunc_extern Try.func58 (by kernel_rfl) (by kernel_rfl) (by kernel_rfl) (e := Extern.SlicesOverlaps.overlaps #[22, 22] #[4]) (by kernel_rfl),
    Lib.run_overlaps_apart w 22 4 34 Try.underlying22 3 sizeOf_op ⟨vb, 0, none⟩ ⟨g, p, none⟩ m vc lb cb hne t1 t2 c1.size c2.size (by simp [World.shape?, h1]) (by simp [World.shape?, h2]) hs (by simp [World.frozen?, h1]) (by simp [World.frozen?, h1])]
  rfl
set_option maxHeartbeats 3200000 in
/-- At the end. -/
theorem ops_insert_end (A : Option Addr) (n cap : Nat) (l : List OpR) (o : OpR) (vb base : Nat) (w : World) (hm : n ≤ 400) (hown : w.ownsRow base 34 3 (.slice A n cap) n (opsCells l)) (hbw : base ≤ w.heap.size) (hv : w.heap[vb]? = some (.cells #[.string o.name, .int .i64 o.typ, .int .i64 o.prec] 34 (0, 0))) :
    Calls Try.prog 44 #[.slice A n cap, .int .i64 n, .slice (some ⟨vb, 0, none⟩) 1 1] w fun e w' => ∃ A' cap', e = .returned (.slice A' (n + 1) cap') ∧ Below base w w' ∧ w'.ownsRow base 34 3 (.slice A' (n + 1) cap') (n + 1) (opsCells (l ++ [o])) := by
  obtain ⟨i, hi, hz0, hz1, hz2⟩ := info_parts infoOp
  have HI := Lib.hid hi
  have HZ0 := Lib.hid hz0
  have HZ1 := Lib.hid hz1
  have HZ2 := Lib.hid hz2
  have HO := Lib.hid hown
  have HV := Lib.hid hv
  have hcap : n ≤ cap ∧ cap ≤ maxLen := by
    rcases hown.2 with ⟨h1, h2⟩ | ⟨g', cap', cur, h1, _, _, h5, h6, _⟩
    · injection h1 with _ _ h3; subst h3; subst h2; exact ⟨Nat.le_refl _, by unfold maxLen; omega⟩
    · injection h1 with _ _ h3; subst h3; exact ⟨h5, h6⟩
  obtain ⟨hcap1, hcap2⟩ := hcap
  unfold maxLen at hcap2
  have HS : Hid (∀ j u, (opCells o)[j]? = some u → w.cell? ((⟨vb, 0, none⟩ : Addr).add j) = some u) := Lib.hid fun j u hu => by
    rw [add_at, Nat.zero_add, cell_of_heap hv]
    simpa [opCells] using hu
  have HG : Hid (∀ w', w.grownBy w' (Value.slice A n cap).ownBlock → Below base w w') := Lib.hid fun w' hg => (Below.refl base w).grown hg hbw fun k hk => (hown.lt k hk).1
  clear hi hz0 hz1 hz2 hown hv
  cases A with
  | none =>
    have hn0 : n = 0 ∧ cap = 0 := by
      rcases HO.out.2 with ⟨h1, h2⟩ | ⟨g', cap', cur, h1, _⟩
      · injection h1 with _ _ h3; exact ⟨h2, h3⟩
      · cases h1
    obtain ⟨rfl, rfl⟩ := hn0
    go_enter Try.func44, Try.ntmps44
    go_wp2_with (at_builtin; go_must (refine wpList_append_own _ rfl _ _ 22 rfl base 34 i _ 3 32 Try.underlying22 HI.out HZ0.out HZ1.out HZ2.out rfl (by decide) _ 0 (opsCells l) rfl HO.out ⟨vb, 0, none⟩ 1 1 (opCells o) rfl rfl HS.out (oc_one [o]) (by unfold maxLen; omega) (by omega) (by omega) ?_; intro v1 w1 hown1 hg1 _))
    have hB := HG.out w1 hg1
    obtain ⟨A', cap', rfl⟩ := own_slice hown1
    have HO1 := Lib.hid hown1
    clear hown1
    go_ret
    first | exact ⟨A', ⟨cap', rfl⟩, hB, by rw [opsCells_app]; exact HO1.out⟩ | exact ⟨A', cap', rfl, hB, by rw [opsCells_app]; exact HO1.out⟩
  | some ad =>
    obtain ⟨g, rfl⟩ : ∃ g, ad = ⟨g, 0, none⟩ := by
      rcases HO.out.2 with ⟨h1, _⟩ | ⟨g', cap', cur, h1, _⟩
      · cases h1
      · injection h1 with h1 _ _; injection h1 with h1; exact ⟨g', h1⟩
    go_enter Try.func44, Try.ntmps44
    go_wp2_with (at_builtin; go_must (refine wpList_append_own _ rfl _ _ 22 rfl base 34 i _ 3 32 Try.underlying22 HI.out HZ0.out HZ1.out HZ2.out rfl (by decide) _ n (opsCells l) rfl HO.out ⟨vb, 0, none⟩ 1 1 (opCells o) rfl rfl HS.out (oc_one [o]) (by unfold maxLen; omega) (by omega) (by omega) ?_; intro v1 w1 hown1 hg1 _))
    all_goals
      have hB := HG.out w1 hg1
      obtain ⟨A', cap', rfl⟩ := own_slice hown1
      have HO1 := Lib.hid hown1
      clear hown1
      go_ret
      first | exact ⟨A', ⟨cap', rfl⟩, hB, by rw [opsCells_app]; exact HO1.out⟩ | exact ⟨A', cap', rfl, hB, by rw [opsCells_app]; exact HO1.out⟩
set_option maxHeartbeats 3200000 in
/-- In place. -/
theorem ops_insert_shift (g n cap i : Nat) (l : List OpR) (o : OpR) (vb base : Nat) (w : World) (hm : n ≤ 400) (hin : i < n) (hroom : n + 1 ≤ cap) (hown : w.ownsRow base 34 3 (.slice (some ⟨g, 0, none⟩) n cap) n (opsCells l)) (hne : vb ≠ g) (hv : w.heap[vb]? = some (.cells #[.string o.name, .int .i64 o.typ, .int .i64 o.prec] 34 (0, 0))) :
    Calls Try.prog 44 #[.slice (some ⟨g, 0, none⟩) n cap, .int .i64 i, .slice (some ⟨vb, 0, none⟩) 1 1] w fun e w' => e = .returned (.slice (some ⟨g, 0, none⟩) (n + 1) cap) ∧ Below base w w' ∧ w'.ownsRow base 34 3 (.slice (some ⟨g, 0, none⟩) (n + 1) cap) (n + 1) (opsCells (l.take i ++ o :: l.drop i)) := by
  have hln := own_len hown
  obtain ⟨R, hrow, hrl, hnc, hcm, hbg⟩ := own_row hown
  have ha : (opsCells (l.take i)).length = i * 3 := by rw [opsCells_len, List.length_take]; omega
  have hb : (opsCells (l.drop i)).length = (n - i) * 3 := by rw [opsCells_len, List.length_drop]; omega
  have hab : opsCells l = opsCells (l.take i) ++ opsCells (l.drop i) := by rw [← opsCells_app, List.take_append_drop]
  have hRl : 3 ≤ R.length := by rw [List.length_append, opsCells_len] at hrl; omega
  rw [hab] at hrow hrl
  obtain ⟨C, hC⟩ : ∃ C, C = opsCells (l.take i) ++ opsCells (l.drop i) ++ R := ⟨_, rfl⟩
  rw [← hC] at hrow hrl
  obtain ⟨C', hC'⟩ : ∃ C', C' = C.take (i * 3 + 3) ++ opsCells (l.drop i) ++ C.drop (i * 3 + 3 + (n - i) * 3) := ⟨_, rfl⟩
  obtain ⟨C2, hC2⟩ : ∃ C2, C2 = C'.take (i * 3) ++ opCells o ++ C'.drop (i * 3 + (opCells o).length) := ⟨_, rfl⟩
  obtain ⟨hT, hl1, hl2⟩ := shift_lists (opsCells (l.take i)) (opsCells (l.drop i)) R (opCells o) rfl hRl C C' hC (by rw [ha, hb]; exact hC')
  rw [ha, hb, ← hC2] at hT
  rw [ha, ← hC2] at hl2
  obtain ⟨z, hz⟩ : ∃ z, z = 0 := ⟨0, rfl⟩
  have hcp1 : Hid (∀ (W : World) (ty : TypeId) (dc sc : Nat), W.heap[g]? = some (.cells C.toArray 34 (0, 0)) → (Builtin.copy_ #[22, 22] ty #[.slice (some ⟨g, z + (i + 1) * 3, none⟩) (n - i) dc, .slice (some ⟨g, z + i * 3, none⟩) (n + 1 - i) sc]).run Try.prog W = .ok (goInt ((n - i : Nat) : Int)) (W.setRow g C'.toArray)) := Lib.hid fun W ty dc sc hW => by
    have h := run_copy_row3 (P := Try.prog) W 22 22 ty 34 g (z + (i + 1) * 3) (n - i) dc ⟨g, z + i * 3, none⟩ (n + 1 - i) sc C 34 (opsCells (l.drop i)) (n - i) Try.underlying22 size_op hW (by simp only [Nat.min_def]; split <;> omega) hb
      (fun j v hj => by
        have hjl : j < (n - i) * 3 := by
          rcases Nat.lt_or_ge j ((n - i) * 3) with h | h
          · exact h
          · rw [List.getElem?_eq_none (by omega)] at hj; cases hj
        rw [add_at, cell_of_heap hW, hz, Nat.zero_add]
        simp only [List.getElem?_toArray]
        rw [hC, List.append_assoc, List.getElem?_append_right (by omega), ha, List.getElem?_append_left (by omega), Nat.add_sub_cancel_left]
        exact hj) (by rw [hb]; omega) (oc_one _)
    rw [h, hC', hz, hb]
    rw [show 0 + (i + 1) * 3 = i * 3 + 3 by omega]
  have hcp2 : Hid (∀ (W : World) (ty : TypeId) (dc : Nat), W.heap[g]? = some (.cells C'.toArray 34 (0, 0)) → W.heap[vb]? = some (.cells #[.string o.name, .int .i64 o.typ, .int .i64 o.prec] 34 (0, 0)) → (Builtin.copy_ #[22, 22] ty #[.slice (some ⟨g, z + i * 3, none⟩) (n + 1 - i) dc, .slice (some ⟨vb, 0, none⟩) 1 1]).run Try.prog W = .ok (goInt 1) (W.setRow g C2.toArray)) := Lib.hid fun W ty dc hW hWv => by
    have h := run_copy_row3 (P := Try.prog) W 22 22 ty 34 g (z + i * 3) (n + 1 - i) dc ⟨vb, 0, none⟩ 1 1 C' 34 (opCells o) 1 Try.underlying22 size_op hW (by simp only [Nat.min_def]; split <;> omega) rfl
      (fun j v hj => by
        rw [add_at, Nat.zero_add, cell_of_heap hWv]
        simpa [opCells] using hj) (by rw [hl1, hrl, hz]; simp [opCells]; omega) (oc_one [o])
    rw [h, hC2, hz, Nat.zero_add]
    rfl
  have HROW := Lib.hid hrow
  have HV := Lib.hid hv
  have HOV : Hid (∀ (W : World) (p m vc lb cb : Nat), W.heap[g]? = some (.cells C.toArray 34 (0, 0)) → W.heap[vb]? = some (.cells #[.string o.name, .int .i64 o.typ, .int .i64 o.prec] 34 (0, 0)) → (callFunc 58 #[.slice (some ⟨vb, 0, none⟩) m vc, .slice (some ⟨g, p, none⟩) lb cb]).run Try.prog W = .ok (.value (.bool false)) W) := Lib.hid fun W p m vc lb cb h1 h2 => overlaps_no W vb g p m vc lb cb hne _ _ _ _ h2 h1 (by simp [hrl]; omega)
  have HFIN : Hid (∀ W' : World, W'.heap[g]? = some (.cells C2.toArray 34 (0, 0)) → W'.ownsRow base 34 3 (.slice (some ⟨g, 0, none⟩) (n + 1) cap) (n + 1) (opsCells (l.take i ++ o :: l.drop i))) := Lib.hid fun W' h => row_own h (by rw [hl2, hrl]) (by rw [List.length_append, List.length_take, List.length_cons, List.length_drop]; omega) hroom hcm hbg (by rw [oc_split, ← hT]; congr 1; omega)
  have HZ' := Lib.hid (show (⟨g, 0, none⟩ : Addr) = ⟨g, z, none⟩ by rw [hz])
  rw [HZ'.out]
  unfold maxLen at hcm
  have hov := HOV.out w (z + (i + 1) * 3) 1 1
  have hov1 := fun lb cb => hov lb cb hrow hv
  clear hov hown ha hb hab hRl hC hC' hC2 hT hl1 hl2 hrl hz hrow hv HOV hln
  have e1 : ¬ (i = n) := by omega
  have e2 : ¬ (cap = i) := by omega
  have e3 : ¬ (cap = i + 1) := by omega
  have e4 : ¬ (cap < n + 1) := by omega
  have e5 : ((i : Int) == (n : Int)) = false := by rw [beq_eq_false_iff_ne]; omega
  have e6 : decide ((cap : Int) < (n : Int) + 1) = false := by simp; omega
  have mixed : Try.prog.follows Departure.mixedOrders = true := by kernel_rfl
  have q1 : IntKind.i64.wrap ((i : Int) + 1) = (i : Int) + 1 := IntWalk.i64_in _ (by omega)
  have q2 : (0 : Int) ≤ (i : Int) + 1 := by omega
  have q3 : (i : Int) + 1 ≤ (n : Int) + 1 := by omega
  have q4 : ((i : Int) + 1).toNat = i + 1 := by omega
  have q5 : (0 : Int) ≤ (i : Int) := by omega
  have q6 : (i : Int) ≤ (n : Int) + 1 := by omega
  go_enter Try.func44, Try.ntmps44
  go_wp2_with (simp only [hov1])
  go_region_law_o (refine step_copy_runI rfl _ _ 22 22 rfl (.slice (some ⟨g, z + (i + 1) * 3, none⟩) (n - i) (cap - (i + 1))) (.slice (some ⟨g, z + i * 3, none⟩) (n + 1 - i) (cap - i)) (by simp [Act.eval, Act.put]) (by simp [Act.eval, Act.put]) (hcp1.out w.drew 3 (cap - (i + 1)) (cap - i) HROW.out) ?_)
  go_wp2_with ((with_reducible refine at_copyO ?_); go_must (refine wpList_copy_runI _ rfl _ _ 22 22 rfl _ _ rfl rfl (hcp2.out (w.drew.setRow g C'.toArray) 3 (cap - i) (setRow_heap w.drew g _ _ _ _ HROW.out) ((setRow_other w.drew g vb _ hne).trans HV.out)) ?_))
  go_ret
  exact ⟨rfl, below_setRow (below_setRow (Below.refl base w).drew hbg _) hbg _, by rw [← HZ'.out]; exact HFIN.out _ (setRow_heap _ g _ _ _ _ (setRow_heap w.drew g _ _ _ _ HROW.out))⟩
set_option maxHeartbeats 3200000 in
/-- No room. -/
theorem ops_insert_grow (g n cap i : Nat) (l : List OpR) (o : OpR) (vb base : Nat) (w : World) (hm : n ≤ 400) (hin : i < n) (hroom : cap < n + 1) (hown : w.ownsRow base 34 3 (.slice (some ⟨g, 0, none⟩) n cap) n (opsCells l)) (hbw : base ≤ w.heap.size) (hv : w.heap[vb]? = some (.cells #[.string o.name, .int .i64 o.typ, .int .i64 o.prec] 34 (0, 0))) :
    Calls Try.prog 44 #[.slice (some ⟨g, 0, none⟩) n cap, .int .i64 i, .slice (some ⟨vb, 0, none⟩) 1 1] w fun e w' => ∃ A' cap', e = .returned (.slice A' (n + 1) cap') ∧ Below base w w' ∧ w'.ownsRow base 34 3 (.slice A' (n + 1) cap') (n + 1) (opsCells (l.take i ++ o :: l.drop i)) := by
  obtain ⟨i0, hi0, hz0, hzs, hzb⟩ := info_parts infoOp
  have hln := own_len hown
  obtain ⟨R, hrow, hrl, hnc, hcm, hbg⟩ := own_row hown
  have hgw : g < w.heap.size := (hown.lt g rfl).2
  have hvw : vb < w.heap.size := (Array.getElem?_eq_some_iff.1 hv).1
  have hinL := own_in hown
  have ha : (opsCells (l.take i)).length = i * 3 := by rw [opsCells_len, List.length_take]; omega
  have hb : (opsCells (l.drop i)).length = (n - i) * 3 := by rw [opsCells_len, List.length_drop]; omega
  obtain ⟨z, hz⟩ : ∃ z, z = 0 := ⟨0, rfl⟩
  have hinA : OpsIn w g z (l.take i) := fun j hj => by
    rw [List.length_take] at hj
    have := hinL j (by omega)
    rw [hz, List.getElem_take]
    exact this
  have hinB : OpsIn w g (z + i * 3) (l.drop i) := fun j hj => by
    rw [List.length_drop] at hj
    have := hinL (i + j) (by omega)
    rw [hz, List.getElem_drop]
    rw [show 0 + i * 3 + j * 3 = 0 + (i + j) * 3 by omega]
    exact this
  have hold : (Builtin.firstCells i0.size i (.slice (some ⟨g, z, none⟩) i cap)).run Try.prog w.drew = .ok (opsCells (l.take i)).toArray w.drew := by
    rw [hzs]
    exact run_firstCells_some w.drew 3 i ⟨g, z, none⟩ i cap _ ha (oc_at (w := w.drew) hinA)
  have hik : i + (n + 1 - i) = n + 1 := by omega
  obtain ⟨G, hG⟩ : ∃ G, G = grownCap w (n + 1) cap 34 := ⟨_, rfl⟩
  have hGn : n + 1 ≤ G := by rw [hG]; exact grownCap_ge w _ _ _
  have hG63 : G ≤ maxLen := by rw [hG]; exact grownCap_le_maxLen w (n + 1) cap 34 (by unfold maxLen; omega)
  obtain ⟨Z1, hZ1⟩ : ∃ Z : List Value, Z = (Builtin.zeroCells (Value.agg #[.string ⟨#[]⟩, .int .i64 0, .int .i64 0]).cells (n + 1 - i)).toList ++ (Builtin.zeroCells (Value.agg #[.string ⟨#[]⟩, .int .i64 0, .int .i64 0]).cells (G - (n + 1))).toList := ⟨_, rfl⟩
  have hZl : Z1.length = (G - i) * 3 := by rw [hZ1, List.length_append, zero_len, zero_len]; omega
  obtain ⟨C, hC⟩ : ∃ C, C = opsCells (l.take i) ++ Z1 := ⟨_, rfl⟩
  obtain ⟨C1, hC1⟩ : ∃ C1, C1 = C.take (i * 3) ++ opCells o ++ C.drop (i * 3 + (opCells o).length) := ⟨_, rfl⟩
  obtain ⟨C2, hC2⟩ : ∃ C2, C2 = C1.take (i * 3 + 3) ++ opsCells (l.drop i) ++ C1.drop (i * 3 + 3 + (n - i) * 3) := ⟨_, rfl⟩
  obtain ⟨hT, hl1, hl2⟩ := grow_lists (opsCells (l.take i)) (opsCells (l.drop i)) Z1 (opCells o) rfl (by rw [hb, hZl]; omega) C C1 hC (by rw [ha]; exact hC1)
  rw [ha, hb, ← hC2] at hT hl2
  have hCl : C.length = G * 3 := by rw [hC, List.length_append, ha, hZl]; omega
  have hrz : Hid (∀ ty, (Builtin.append_ #[22, 3] ty #[.slice (some ⟨g, z, none⟩) i cap, .int .i64 ((n : Int) + 1 - (i : Int))]).run Try.prog w = .ok (.slice (some ⟨w.heap.size, 0, none⟩) (n + 1) G) (w.drew.alloc (.cells C.toArray 34))) := Lib.hid fun ty => by
    have h := Lib.run_append_grow_zeros w 22 3 ty 34 i0 _ .i64 .i64 Try.underlying22 Try.underlying3 hi0 hz0 (some ⟨g, z, none⟩) i cap (opsCells (l.take i)) hold (n + 1 - i) (by omega) (by omega) (by omega) (by omega) (by rw [hzb]; omega) (by rw [hzb, hik]; exact growslice_fits hroom (by omega))
    rw [hik, ← hG] at h
    rw [show (n : Int) + 1 - (i : Int) = ((n + 1 - i : Nat) : Int) by omega, h]
    rw [hC, hZ1]
    congr 4
    simp
  have hcpA : Hid (∀ (W : World) (ty : TypeId) (dc : Nat), W.heap[w.heap.size]? = some (.cells C.toArray 34 (0, 0)) → W.heap[vb]? = some (.cells #[.string o.name, .int .i64 o.typ, .int .i64 o.prec] 34 (0, 0)) → (Builtin.copy_ #[22, 22] ty #[.slice (some ⟨w.heap.size, i * 3, none⟩) (n + 1 - i) dc, .slice (some ⟨vb, 0, none⟩) 1 1]).run Try.prog W = .ok (goInt 1) (W.setRow w.heap.size C1.toArray)) := Lib.hid fun W ty dc hW hWv => by
    have h := run_copy_row3 (P := Try.prog) W 22 22 ty 34 w.heap.size (i * 3) (n + 1 - i) dc ⟨vb, 0, none⟩ 1 1 C 34 (opCells o) 1 Try.underlying22 size_op hW (by simp only [Nat.min_def]; split <;> omega) rfl
      (fun j v hj => by
        rw [add_at, Nat.zero_add, cell_of_heap hWv]
        simpa [opCells] using hj) (by rw [hCl]; simp [opCells]; omega) (oc_one [o])
    rw [h, hC1]
    rfl
  have hcpB : Hid (∀ (W : World) (ty : TypeId) (dc sc : Nat), W.heap[w.heap.size]? = some (.cells C1.toArray 34 (0, 0)) → W.heap[g]? = w.heap[g]? → (Builtin.copy_ #[22, 22] ty #[.slice (some ⟨w.heap.size, (i + 1) * 3, none⟩) (n - i) dc, .slice (some ⟨g, z + i * 3, none⟩) (n - i) sc]).run Try.prog W = .ok (goInt ((n - i : Nat) : Int)) (W.setRow w.heap.size C2.toArray)) := Lib.hid fun W ty dc sc hW hWg => by
    have h := run_copy_row3 (P := Try.prog) W 22 22 ty 34 w.heap.size ((i + 1) * 3) (n - i) dc ⟨g, z + i * 3, none⟩ (n - i) sc C1 34 (opsCells (l.drop i)) (n - i) Try.underlying22 size_op hW (by simp only [Nat.min_def]; split <;> omega) hb
      (fun j v hj => by
        have := oc_at hinB j v hj
        rw [add_at] at this ⊢
        rw [← this]
        exact World.cell?_of_block hWg) (by rw [hb, hl1, hCl]; omega) (oc_one _)
    rw [h, hC2, hb]
    rw [show (i + 1) * 3 = i * 3 + 3 by omega]
  have HV := Lib.hid hv
  have HFIN : Hid (∀ W' : World, W'.heap[w.heap.size]? = some (.cells C2.toArray 34 (0, 0)) → W'.ownsRow base 34 3 (.slice (some ⟨w.heap.size, 0, none⟩) (n + 1) G) (n + 1) (opsCells (l.take i ++ o :: l.drop i))) := Lib.hid fun W' h => row_own h (by rw [hl2, hCl]) (by rw [List.length_append, List.length_take, List.length_cons, List.length_drop]; omega) hGn hG63 hbw (by rw [oc_split, ← hT]; congr 1; omega)
  have HZ' := Lib.hid (show (⟨g, 0, none⟩ : Addr) = ⟨g, z, none⟩ by rw [hz])
  rw [HZ'.out]
  have HA0 : Hid ((w.drew.alloc (.cells C.toArray 34)).heap[w.heap.size]? = some (.cells C.toArray 34 (0, 0))) := Lib.hid (heap_alloc_new w.drew _)
  have HA1 : Hid ((w.drew.alloc (.cells C.toArray 34)).heap[vb]? = some (.cells #[.string o.name, .int .i64 o.typ, .int .i64 o.prec] 34 (0, 0))) := Lib.hid (((Below.refl w.heap.size w.drew).alloc (Nat.le_refl _) _).block vb hvw |>.trans hv)
  have HA2 : Hid ((w.drew.alloc (.cells C.toArray 34)).heap[g]? = w.heap[g]?) := Lib.hid (((Below.refl w.heap.size w.drew).alloc (Nat.le_refl _) _).block g hgw)
  have HB0 : Hid (Below base w (w.drew.alloc (.cells C.toArray 34))) := Lib.hid (((Below.refl base w).drew).alloc hbw _)
  unfold maxLen at hcm hG63
  clear hown ha hb hC hC1 hC2 hT hl1 hl2 hrl hz hrow hv hln hold hinA hinB hinL hG hZ1 hZl hCl hik hi0 hz0 hzs hzb
  have hNe : g ≠ w.heap.size := by omega
  have e1 : ¬ (i = n) := by omega
  have e2 : ¬ (cap = i) := by omega
  have e3 : ¬ (G = i) := by omega
  have e4 : ¬ (G = i + 1) := by omega
  have e5 : ((i : Int) == (n : Int)) = false := by rw [beq_eq_false_iff_ne]; omega
  have e6 : decide ((cap : Int) < (n : Int) + 1) = true := by simp; omega
  have e7 : (cap : Int) < (n : Int) + 1 := by omega
  have mixed : Try.prog.follows Departure.mixedOrders = true := by kernel_rfl
  have q1 : IntKind.i64.wrap ((i : Int) + 1) = (i : Int) + 1 := IntWalk.i64_in _ (by omega)
  have q2 : (0 : Int) ≤ (i : Int) + 1 := by omega
  have q3 : (i : Int) + 1 ≤ (n : Int) + 1 := by omega
  have q4 : ((i : Int) + 1).toNat = i + 1 := by omega
  have q5 : (0 : Int) ≤ (i : Int) := by omega
  have q6 : (i : Int) ≤ (n : Int) + 1 := by omega
  have q7 : (i : Int) ≤ (n : Int) := by omega
  go_enter Try.func44, Try.ntmps44
  go_wp2_with (first
    | (at_builtin; refine Lib.wpList_append_run _ rfl _ _ _ _ rfl _ _ rfl rfl _ _ (hrz.out _) ?_)
    | ((with_reducible refine at_copyO ?_); go_must (refine wpList_copy_runI _ rfl _ _ 22 22 rfl _ _ rfl rfl (hcpA.out _ 3 (G - i) HA0.out HA1.out) ?_)))
  go_region_law_o (refine step_copy_runI rfl _ _ 22 22 rfl (.slice (some ⟨w.heap.size, (i + 1) * 3, none⟩) (n - i) (G - (i + 1))) (.slice (some ⟨g, z + i * 3, none⟩) (n - i) (cap - i)) (by simp [Act.eval, Act.put]) (by simp [Act.eval, Act.put]) (hcpB.out (((w.alloc (.cells C.toArray 34)).drew.setRow w.heap.size C1.toArray).drew) 3 (G - (i + 1)) (cap - i) (setRow_heap (w.drew.alloc (.cells C.toArray 34)) _ _ _ _ _ HA0.out) ((setRow_other (w.drew.alloc (.cells C.toArray 34)) _ g _ hNe).trans HA2.out)) ?_)
  go_wp2_with fail
  go_ret
  have hBf : Below base w (((w.alloc (.cells C.toArray 34)).drew.setRow w.heap.size C1.toArray).drew.setRow w.heap.size C2.toArray) := by
    have h1 : Below base w (w.alloc (.cells C.toArray 34)).drew := ((Below.refl base w).alloc hbw _).drew
    exact below_setRow (below_setRow h1 hbw _).drew hbw _
  have hOf := HFIN.out (((w.alloc (.cells C.toArray 34)).drew.setRow w.heap.size C1.toArray).drew.setRow w.heap.size C2.toArray) (setRow_heap _ _ _ _ _ _ (setRow_heap (w.drew.alloc (.cells C.toArray 34)) _ _ _ _ _ HA0.out))
  exact ⟨_, _, rfl, hBf, hOf⟩
theorem ops_insert (A : Option Addr) (n cap i : Nat) (l : List OpR) (o : OpR) (vb base : Nat) (w : World) (hm : n ≤ 400) (hin : i ≤ n) (hown : w.ownsRow base 34 3 (.slice A n cap) n (opsCells l)) (hbw : base ≤ w.heap.size) (hne : ∀ g, A = some ⟨g, 0, none⟩ → vb ≠ g) (hv : w.heap[vb]? = some (.cells #[.string o.name, .int .i64 o.typ, .int .i64 o.prec] 34 (0, 0))) :
    Calls Try.prog 44 #[.slice A n cap, .int .i64 i, .slice (some ⟨vb, 0, none⟩) 1 1] w fun e w' => ∃ A' cap', e = .returned (.slice A' (n + 1) cap') ∧ Below base w w' ∧ w'.ownsRow base 34 3 (.slice A' (n + 1) cap') (n + 1) (opsCells (l.take i ++ o :: l.drop i)) := by
  have hln := own_len hown
  rcases Nat.lt_or_ge i n with h | h
  · obtain ⟨g, cap', hA⟩ := own_some hown (by omega)
    injection hA with hA _ _
    subst hA
    rcases Nat.lt_or_ge cap (n + 1) with h2 | h2
    · exact ops_insert_grow g n cap i l o vb base w hm h h2 hown hbw hv
    · exact (ops_insert_shift g n cap i l o vb base w hm h h2 hown (hne g rfl) hv).mono fun e w' ⟨he, hB, hO⟩ => ⟨_, cap, he, hB, hO⟩
  · obtain rfl : i = n := by omega
    have e1 : l.take i = l := List.take_of_length_le (by omega)
    have e2 : l.drop i = [] := List.drop_eq_nil_of_le (by omega)
    rw [e1, e2]
    exact ops_insert_end A i cap l o vb base w hm hown hbw hv
end Go.Proofs.Yteddbeifnolklaa
