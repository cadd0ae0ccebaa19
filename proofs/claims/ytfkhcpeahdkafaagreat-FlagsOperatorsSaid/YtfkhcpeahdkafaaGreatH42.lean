/- Flags: what op leaves behind, plainly. Flags: the law FlagsOperators. -/
import Derived.Test.YtfkhcpeahdkafaaGreatH41
namespace Hb
open Go Go.RowKit
theorem ty_of {j : Nat} (h : j < 7) : tyOf (tyNm ((j : Int) + 1)) = (j : Int) + 1 := by
 rcases (show j = 0 ∨ j = 1 ∨ j = 2 ∨ j = 3 ∨ j = 4 ∨ j = 5 ∨ j = 6 by omega) with rfl | rfl | rfl | rfl | rfl | rfl | rfl <;> kernel_rfl
theorem ty_inj {a : Int} {j : Nat} (h : j < 7) (e : tyNm a = tyNm ((j : Int) + 1)) : a = (j : Int) + 1 := by
 have h1 := ty_of h
 rw [← e] at h1
 rcases ty_at a with ⟨_, h2, _⟩ | ⟨_, h2, _⟩ | rfl | rfl | rfl | rfl | rfl | rfl | rfl
 ·rw [h2] at h1
  have h3 : tyOf ⟨#[]⟩ = 0 := by kernel_rfl
  omega
 ·rw [h2] at h1
  have h3 : tyOf ⟨#[]⟩ = 0 := by kernel_rfl
  omega
 ·exact (ty_of (j := 0) (by decide)).symm.trans h1
 ·exact (ty_of (j := 1) (by decide)).symm.trans h1
 ·exact (ty_of (j := 2) (by decide)).symm.trans h1
 ·exact (ty_of (j := 3) (by decide)).symm.trans h1
 ·exact (ty_of (j := 4) (by decide)).symm.trans h1
 ·exact (ty_of (j := 5) (by decide)).symm.trans h1
 ·exact (ty_of (j := 6) (by decide)).symm.trans h1
theorem opsGo_bad {ty pr : Int} {l : List OpR} {xs : List Tm} {s : SyP} {L : List Tm} : opsGo ty pr l xs ≠ .inl (.ok s L) := by
 have h : ∀ (xs : List Tm) (a : CR ⊕ List OpR), a ≠ .inl (.ok s L) → xs.foldl (opsStep ty pr) a ≠ .inl (.ok s L) := by
  intro xs
  induction xs with
  | nil => intro a h; exact h
  | cons x xs ih =>
   intro a h
   refine ih _ ?_
   unfold opsStep
   split
   ·exact h
   ·split
    ·intro e; injection e with e; cases e
    ·split
     ·intro e; cases e
     ·intro e; injection e with e; cases e
 exact h xs _ (by intro e; cases e)
theorem opC_ok {s s' : SyP} {pr : Int} {j : Nat} {nm : ByteArray} {L : List Tm} (hj : j < 7) (h : opC s pr (tyNm ((j : Int) + 1)) nm = .ok s' L) : sokB s.ops s.fl s.cv = true ∧ nm.size ≤ 100 ∧ L = [opG pr (tyNm ((j : Int) + 1)) nm] ∧ s'.fl = s.fl ∧ s'.cv = s.cv ∧ (nm.toList ≠ [91, 93] → s'.ops = newL s.ops ⟨nm, (j : Int) + 1, pr⟩ ∧ Sets s.ops ⟨nm, (j : Int) + 1, pr⟩) := by
 unfold opC at h
 split at h
 ·rename_i hc
  rw [Bool.and_eq_true, decide_eq_true_iff] at hc
  unfold setOpsC at h
  split at h
  ·cases h
  ·split at h
   ·rename_i hi
    subst h
    exact absurd hi opsGo_bad
   ·rename_i l hi
    injection h with h1 h2
    subst h1
    refine ⟨hc.1, hc.2, h2.symm, rfl, rfl, fun hn => ?_⟩
    have e : nmL (atomT nm) = [atomT nm] := by
     unfold nmL
     rw [if_pos]
     simp only [isAtomT, isNilT, atomT, Bool.and_eq_true, Bool.not_eq_true', Bool.and_eq_false_iff, beq_iff_eq, beq_eq_false_iff_ne]
     exact ⟨rfl, .inr hn⟩
    rw [e] at hi
    have hi' : opsStep (tyOf (tyNm ((j : Int) + 1))) pr (.inr s.ops) (atomT nm) = .inr l := hi
    rw [ty_of hj] at hi'
    unfold opsStep at hi'
    have hi2 : (if (setR s.ops ⟨nm, (j : Int) + 1, pr⟩).2 = 13 then (.inl (.err 13) : CR ⊕ List OpR) else if (setR s.ops ⟨nm, (j : Int) + 1, pr⟩).2 = 0 then .inr (setR s.ops ⟨nm, (j : Int) + 1, pr⟩).1 else .inl (.ball (permT (if nm.toList = [44] then ⟨#[109, 111, 100, 105, 102, 121]⟩ else ⟨#[99, 114, 101, 97, 116, 101]⟩) ⟨#[111, 112, 101, 114, 97, 116, 111, 114]⟩ (atomT nm)))) = .inr l := hi'
    by_cases h13 : (setR s.ops ⟨nm, (j : Int) + 1, pr⟩).2 = 13
    ·rw [if_pos h13] at hi2; cases hi2
    ·rw [if_neg h13] at hi2
     by_cases h0 : (setR s.ops ⟨nm, (j : Int) + 1, pr⟩).2 = 0
     ·rw [if_pos h0] at hi2
      injection hi2 with hi2
      have hS := (setR_iff s.ops ⟨nm, (j : Int) + 1, pr⟩).1 h0
      exact ⟨by rw [← hi2, setR_new hS], hS⟩
     ·rw [if_neg h0] at hi2; cases hi2
 ·cases h
theorem filter_split {α : Type} (p : α → Bool) (l : List α) : (l.filter p).length + (l.filter fun a => !p a).length = l.length := by
 induction l with
 | nil => rfl
 | cons a l ih =>
  cases h : p a <;> simp [h] <;> omega
theorem ins_filter {o : OpR} {p : OpR → Bool} (ho : p o = false) : ∀ (t : List OpR), (insO o t).filter p = t.filter p
 | [] => by simp [insO, ho]
 | a :: t => by
  unfold insO
  split
  ·simp [ho]
  ·rw [List.filter_cons, List.filter_cons, ins_filter ho t]
theorem new_filter {o : OpR} {p : OpR → Bool} (ho : p o = false) {l : List OpR} (hp : ∀ a, eqOp o a = true → p a = false) : (newL l o).filter p = l.filter p := by
 have h : (restL o l).filter p = l.filter p := by
  unfold restL
  rw [List.filter_filter]
  refine List.filter_congr fun a _ => ?_
  cases he : eqOp o a with
  | true => rw [hp a he]; rfl
  | false => simp
 unfold newL
 split
 ·rw [ins_filter ho, h]
 ·exact h
theorem op_others {o : OpR} {l : List OpR} {nm : ByteArray} (hn : o.name = nm) : ((newL l o).length : Int) - (((newL l o).filter fun o => decide (o.name.toList = nm.toList)).length : Int) = (l.length : Int) - ((l.filter fun o => decide (o.name.toList = nm.toList)).length : Int) := by
 have h1 := filter_split (fun o : OpR => decide (o.name.toList = nm.toList)) l
 have h2 := filter_split (fun o : OpR => decide (o.name.toList = nm.toList)) (newL l o)
 rw [new_filter (p := fun a : OpR => !decide (a.name.toList = nm.toList)) (by simp [hn]) (fun a he => by
  have := (eqOp_iff o a).1 he
  simp [this.1, hn])] at h2
 omega
theorem sorted_one {l : List OpR} {o : OpR} {p : OpR → Bool} (hs : Sorted l) (hp : ∀ a ∈ l, p a = true ↔ a = o) : (l.filter p).length ≤ 1 ∧ ((l.filter p).length = 1 ↔ o ∈ l) := by
 have hF : Sorted (l.filter p) := List.Pairwise.filter _ hs
 have hm : ∀ a ∈ l.filter p, a = o := fun a ha => by
  rw [List.mem_filter] at ha
  exact (hp a ha.1).1 ha.2
 have h1 : (l.filter p).length ≤ 1 := by
  refine Decidable.byContradiction fun hc => ?_
  have := sorted_idx hF (i := 0) (j := 1) (by omega) (by decide)
  rw [hm _ (List.getElem_mem _), hm _ (List.getElem_mem _), bef_irrefl] at this
  cases this
 refine ⟨h1, fun h => ?_, fun h => ?_⟩
 ·have hx : (l.filter p)[0]'(by omega) ∈ l.filter p := List.getElem_mem _
  have := hm _ hx
  rw [this] at hx
  exact (List.mem_filter.1 hx).1
 ·have : o ∈ l.filter p := List.mem_filter.2 ⟨h, (hp o h).2 rfl⟩
  have := List.length_pos_of_mem this
  omega
theorem names_two {l : List OpR} (h : opsValid l = true) (nm : ByteArray) : (l.filter fun o => decide (o.name.toList = nm.toList)).length ≤ 2 := by
 refine Decidable.byContradiction fun hc => ?_
 have hF : Sorted (l.filter fun o => decide (o.name.toList = nm.toList)) := List.Pairwise.filter _ (sorted_valid h)
 have hm : ∀ k (hk : k < (l.filter fun o => decide (o.name.toList = nm.toList)).length), (l.filter fun o => decide (o.name.toList = nm.toList))[k] ∈ l ∧ (l.filter fun o => decide (o.name.toList = nm.toList))[k].name.toList = nm.toList := fun k hk => by
  have := List.mem_filter.1 (List.getElem_mem hk)
  exact ⟨this.1, by simpa using this.2⟩
 have hb1 := bef_cls (sorted_idx hF (i := 0) (j := 1) (by omega) (by decide)) (by rw [(hm 0 (by omega)).2, (hm 1 (by omega)).2])
 have hb2 := bef_cls (sorted_idx hF (i := 1) (j := 2) (by omega) (by decide)) (by rw [(hm 1 (by omega)).2, (hm 2 (by omega)).2])
 have hk : clsOp ((l.filter fun o => decide (o.name.toList = nm.toList))[0]'(by omega)).typ ≠ 0 := by
  have := valid_all h _ (hm 0 (by omega)).1
  unfold opOk at this
  intro e
  rw [e] at this
  simp at this
 have hk0 := cls_ge ((l.filter fun o => decide (o.name.toList = nm.toList))[0]'(by omega)).typ
 have hk2 := cls_le ((l.filter fun o => decide (o.name.toList = nm.toList))[2]'(by omega)).typ
 exact nomix_valid h _ (hm 1 (by omega)).1 _ (hm 2 (by omega)).1 (by rw [(hm 1 (by omega)).2, (hm 2 (by omega)).2]) ⟨by omega, by omega⟩
theorem same_op {a : OpR} {nm : ByteArray} {pr : Int} {j : Nat} (hj : j < 7) (ha : a.name.size ≤ 100) (hn : nm.size ≤ 100) : sameT (opM a) (opM ⟨nm, (j : Int) + 1, pr⟩) = true ↔ a = ⟨nm, (j : Int) + 1, pr⟩ := by
 unfold sameT
 rw [opM_valid ha, opM_valid hn, Bool.true_and, Bool.true_and, eqT_iff]
 refine ⟨fun h => ?_, fun h => by rw [h]⟩
 unfold opM atomT at h
 simp only [Tm.mk.injEq, List.cons.injEq, and_true, true_and] at h
 obtain ⟨h1, h2, h3⟩ := h
 cases a
 simp only at h1 h2 h3
 rw [h1, h3, ty_inj hj h2]
theorem op_once {l : List OpR} {nm : ByteArray} {pr : Int} {j : Nat} (hj : j < 7) (hS : Sets l ⟨nm, (j : Int) + 1, pr⟩) : (((newL l ⟨nm, (j : Int) + 1, pr⟩).filter fun o => decide (o.name.toList = nm.toList)).filter fun a => sameT (opM a) (opM ⟨nm, (j : Int) + 1, pr⟩)).length ≤ 1 ∧ ((((newL l ⟨nm, (j : Int) + 1, pr⟩).filter fun o => decide (o.name.toList = nm.toList)).filter fun a => sameT (opM a) (opM ⟨nm, (j : Int) + 1, pr⟩)).length = 1 ↔ 0 < pr) := by
 have hv := hS.valid
 have hz := ops_names hv
 have h := sorted_one (l := (newL l ⟨nm, (j : Int) + 1, pr⟩).filter fun o => decide (o.name.toList = nm.toList)) (o := ⟨nm, (j : Int) + 1, pr⟩) (p := fun a => sameT (opM a) (opM ⟨nm, (j : Int) + 1, pr⟩)) (List.Pairwise.filter _ (sorted_valid hv)) (fun a ha => same_op hj (hz a (List.mem_filter.1 ha).1) hS.sz)
 refine ⟨h.1, h.2.trans ?_⟩
 rw [List.mem_filter, mem_new]
 constructor
 ·rintro ⟨⟨h1, _⟩ | ⟨_, h1⟩, _⟩
  ·exact h1
  ·have := (eqOp_iff ⟨nm, (j : Int) + 1, pr⟩ ⟨nm, (j : Int) + 1, pr⟩).2 ⟨rfl, rfl⟩
   rw [this] at h1; cases h1
 ·intro h1
  exact ⟨.inl ⟨h1, rfl⟩, by simp⟩
end Hb
namespace Go.Proofs.YtfkhcpeahdkafaaGreat
open Go.RowKit Hb Go.Shelf
set_option maxRecDepth 100000
set_option maxHeartbeats 6400000 in
theorem law_operators (OA : Option Addr) (on oc : Nat) (q u : Int) (c d : Bool) (CA : Option Addr) (cn cc : Nat) (pr ty : Int) (hty : (Lit.int .u8 ty).wf = true) (nm : ByteArray) (l : List OpR) (cl : List (Int × Int)) (w : World) (hS : SyAt w OA on oc CA cn cc l cl) (hcn : cn ≤ maxLen) :
  Calls Tryz.prog 7 #[.agg #[.slice OA on oc, .int .i64 q, .int .i64 u, .bool c, .bool d, .slice CA cn cc], .int .i64 pr, .int .u8 ty, .string nm] w fun e w' => e = .returned (.bool true) ∧ Below w.heap.size w w' := by
 have hty2 : 0 ≤ ty ∧ ty ≤ 255 := by unfold Lit.wf at hty; rw [Bool.and_eq_true, decide_eq_true_iff, decide_eq_true_iff] at hty; exact hty
 have hj0 : 0 ≤ ty.tmod 7 := by rw [Int.tmod_eq_emod_of_nonneg hty2.1]; omega
 have hj1 : ty.tmod 7 < 7 := by rw [Int.tmod_eq_emod_of_nonneg hty2.1]; omega
 obtain ⟨j, HJ, HWD⟩ : ∃ j : Nat, Hid (j < 7) ∧ Hid (∀ h, (([.string ⟨#[120, 102, 120]⟩, .string ⟨#[120, 102, 121]⟩, .string ⟨#[121, 102, 120]⟩, .string ⟨#[102, 121]⟩, .string ⟨#[102, 120]⟩, .string ⟨#[120, 102]⟩, .string ⟨#[121, 102]⟩] : List Value)[(ty.tmod 7).toNat]'h) = .string (tyNm ((j : Int) + 1))) := by
  refine ⟨(ty.tmod 7).toNat, Lib.hid (by omega), Lib.hid ?_⟩
  generalize ty.tmod 7 = t at hj0 hj1
  rcases (show t = 0 ∨ t = 1 ∨ t = 2 ∨ t = 3 ∨ t = 4 ∨ t = 5 ∨ t = 6 by omega) with rfl | rfl | rfl | rfl | rfl | rfl | rfl <;> intro h <;> rfl
 clear hty hty2
 have HNUM : Hid (∀ X, Calls Tryz.prog 36 #[.int .i64 pr] X fun e w' => e = .returned (.agg #[.int .i64 1, .int .i64 pr, .string ⟨#[]⟩, .slice none 0 0]) ∧ Below X.heap.size X w') := Lib.hid fun X => law_number pr X
 have HATM : Hid (∀ X, Calls Tryz.prog 34 #[.string nm] X fun e w' => e = .returned (.agg #[.int .i64 2, .int .i64 0, .string nm, .slice none 0 0]) ∧ Below X.heap.size X w') := Lib.hid fun X => law_atom nm X
 have HAWD : Hid (∀ X, Calls Tryz.prog 34 #[.string (tyNm ((j : Int) + 1))] X fun e w' => e = .returned (.agg #[.int .i64 2, .int .i64 0, .string (tyNm ((j : Int) + 1)), .slice none 0 0]) ∧ Below X.heap.size X w') := Lib.hid fun X => law_atom _ X
 obtain ⟨CV, HCV⟩ : ∃ c', Hid (c' = opC ⟨l, ⟨q, u, c, d⟩, cl⟩ pr (tyNm ((j : Int) + 1)) nm) := ⟨_, Lib.hid rfl⟩
 have HCAL : Hid (∀ X g, Below w.heap.size w X → TmsAt X.heap.size X (some ⟨g, 0, none⟩) [.mk 1 pr ⟨#[]⟩ [], atomT (tyNm ((j : Int) + 1)), atomT nm] → Calls Tryz.prog 30 #[.agg #[.slice OA on oc, .int .i64 q, .int .i64 u, .bool c, .bool d, .slice CA cn cc], .agg #[.int .i64 3, .int .i64 0, .string ⟨#[111, 112]⟩, .slice (some ⟨g, 0, none⟩) 3 3]] X fun e w' => ∃ r : RV, e = .returned r.val ∧ Below X.heap.size X w' ∧ RIs (X.heap.size + 1 + 1 + 1 + 1) X w' r CV ∧ (r.er ≠ 0 → r.rn = 0)) := Lib.hid fun X g hX hT =>
  (call_op OA on oc q u c d CA cn cc (some ⟨g, 0, none⟩) 3 pr (tyNm ((j : Int) + 1)) nm l cl X (hS.below hX) hcn (tyNm_small _) hT).mono fun e w' h => by
   obtain ⟨r, he, hB, hr, hb⟩ := h
   rw [HCV.out]
   exact ⟨r, he, hB, hr, hb.rn⟩
 have HS := Lib.hid hS
 have HBL0 : Hid (Below w.heap.size w ((w.alloc (.cells #[.slice OA on oc, .int .i64 q, .int .i64 u, .bool c, .bool d, .slice CA cn cc] 43)).alloc (.cells #[.string ⟨#[120, 102, 120]⟩, .string ⟨#[120, 102, 121]⟩, .string ⟨#[121, 102, 120]⟩, .string ⟨#[102, 121]⟩, .string ⟨#[102, 120]⟩, .string ⟨#[120, 102]⟩, .string ⟨#[121, 102]⟩] 54))) := Lib.hid (((Below.refl _ w).alloc (Nat.le_refl _) _).alloc (by simp) _)
 have HBK0 : Hid (Bks ((w.alloc (.cells #[.slice OA on oc, .int .i64 q, .int .i64 u, .bool c, .bool d, .slice CA cn cc] 43)).alloc (.cells #[.string ⟨#[120, 102, 120]⟩, .string ⟨#[120, 102, 121]⟩, .string ⟨#[121, 102, 120]⟩, .string ⟨#[102, 121]⟩, .string ⟨#[102, 120]⟩, .string ⟨#[120, 102]⟩, .string ⟨#[121, 102]⟩] 54)) [(w.heap.size + 1, [.string ⟨#[120, 102, 120]⟩, .string ⟨#[120, 102, 121]⟩, .string ⟨#[121, 102, 120]⟩, .string ⟨#[102, 121]⟩, .string ⟨#[102, 120]⟩, .string ⟨#[120, 102]⟩, .string ⟨#[121, 102]⟩]), (w.heap.size, [.slice OA on oc, .int .i64 q, .int .i64 u, .bool c, .bool d, .slice CA cn cc])]) := Lib.hid (((Bks.nil w).new [.slice OA on oc, .int .i64 q, .int .i64 u, .bool c, .bool d, .slice CA cn cc] 43 rfl).new [.string ⟨#[120, 102, 120]⟩, .string ⟨#[120, 102, 121]⟩, .string ⟨#[121, 102, 120]⟩, .string ⟨#[102, 121]⟩, .string ⟨#[102, 120]⟩, .string ⟨#[120, 102]⟩, .string ⟨#[121, 102]⟩] 54 (by simp))
 clear hS
 go_enter Tryz.func7, Tryz.ntmps7
 go_wp2_with fail
 simp only [HWD.out]
 refine (HAWD.out _).mono ?_; rintro e w1 ⟨rfl, hB1⟩
 clear hj0 hj1 HWD
 have HBL1 : Hid (Below w.heap.size w (w1.alloc (.cells #[.int .i64 2, .int .i64 0, .string (tyNm ((j : Int) + 1)), .slice none 0 0] 26))) := Lib.hid ((HBL0.out.trans (hB1.mono HBL0.out.size)).alloc (Nat.le_trans HBL0.out.size hB1.size) _)
 have HBK1 : Hid (Bks (w1.alloc (.cells #[.int .i64 2, .int .i64 0, .string (tyNm ((j : Int) + 1)), .slice none 0 0] 26)) ((w1.heap.size, [.int .i64 2, .int .i64 0, .string (tyNm ((j : Int) + 1)), .slice none 0 0]) :: [(w.heap.size + 1, [.string ⟨#[120, 102, 120]⟩, .string ⟨#[120, 102, 121]⟩, .string ⟨#[121, 102, 120]⟩, .string ⟨#[102, 121]⟩, .string ⟨#[102, 120]⟩, .string ⟨#[120, 102]⟩, .string ⟨#[121, 102]⟩]), (w.heap.size, [.slice OA on oc, .int .i64 q, .int .i64 u, .bool c, .bool d, .slice CA cn cc])])) := Lib.hid ((HBK0.out.call hB1).new [.int .i64 2, .int .i64 0, .string (tyNm ((j : Int) + 1)), .slice none 0 0] 26 rfl)
 clear HBL0 HBK0 hB1
 go_wp2_with fail
 obtain ⟨W0, HW0⟩ : ∃ W0, Hid (W0 = (w1.alloc (.cells #[.int .i64 2, .int .i64 0, .string (tyNm ((j : Int) + 1)), .slice none 0 0] 26))) := ⟨_, Lib.hid rfl⟩
 obtain ⟨g10, HG10⟩ : ∃ g, Hid (g = w1.heap.size) := ⟨_, Lib.hid rfl⟩
 rw [← HW0.out] at HBL1 HBK1 ⊢
 rw [← HG10.out] at HBK1 ⊢
 clear HW0 HG10
 rename_i K0 hK0
 have s0_0 := HBK1.out.cell 2 0 rfl rfl
 have s0_1 := HBK1.out.cell 2 1 rfl rfl
 have s0_2 := HBK1.out.cell 2 2 rfl rfl
 have s0_3 := HBK1.out.cell 2 3 rfl rfl
 have s0_4 := HBK1.out.cell 2 4 rfl rfl
 have s0_5 := HBK1.out.cell 2 5 rfl rfl
 have s2_0 := HBK1.out.cell 0 0 rfl rfl
 have s2_1 := HBK1.out.cell 0 1 rfl rfl
 have s2_2 := HBK1.out.cell 0 2 rfl rfl
 have s2_3 := HBK1.out.cell 0 3 rfl rfl
 have s0l : w.heap.size < W0.heap.size := HBK1.out.lt 2 rfl
 have s2l : g10 < W0.heap.size := HBK1.out.lt 0 rfl
 have HCALL : Hid (∀ X g, Below W0.heap.size W0 X → TmsAt X.heap.size X (some ⟨g, 0, none⟩) [.mk 1 pr ⟨#[]⟩ [], atomT (tyNm ((j : Int) + 1)), atomT nm] → Calls Tryz.prog 30 #[.agg #[.slice OA on oc, .int .i64 q, .int .i64 u, .bool c, .bool d, .slice CA cn cc], .agg #[.int .i64 3, .int .i64 0, .string ⟨#[111, 112]⟩, .slice (some ⟨g, 0, none⟩) 3 3]] X fun e w' => ∃ r : RV, e = .returned r.val ∧ Below X.heap.size X w' ∧ RIs (X.heap.size + 1 + 1 + 1 + 1) X w' r CV ∧ (r.er ≠ 0 → r.rn = 0)) := Lib.hid fun X g hX hT => HCAL.out X g (HBL1.out.trans (hX.mono HBL1.out.size)) hT
 refine region_own (w0 := W0) [rVal [] [0] (fun | [v] => v = .agg #[.slice OA on oc, .int .i64 q, .int .i64 u, .bool c, .bool d, .slice CA cn cc] | _ => False),
  rPure [] [1] (fun | [v] => v = .int .i64 pr | _ => False),
  rVal [1] [2] (fun | [v] => v = .agg #[.int .i64 1, .int .i64 pr, .string ⟨#[]⟩, .slice none 0 0] | _ => False),
  rVal [] [3] (fun | [v] => v = .agg #[.int .i64 2, .int .i64 0, .string (tyNm ((j : Int) + 1)), .slice none 0 0] | _ => False),
  rPure [] [4] (fun | [v] => v = .string nm | _ => False),
  rVal [1, 2, 4] [5] (fun | [v] => v = .agg #[.int .i64 2, .int .i64 0, .string nm, .slice none 0 0] | _ => False),
  rRow [1, 2, 3, 4, 5] 6 3 [.mk 1 pr ⟨#[]⟩ [], atomT (tyNm ((j : Int) + 1)), atomT nm],
  rGoal [1, 2, 3, 4, 5, 6] 7 ⟨#[111, 112]⟩ 3 [.mk 1 pr ⟨#[]⟩ [], atomT (tyNm ((j : Int) + 1)), atomT nm],
  rRV (List.range 8) 8 W0.heap.size (CV),
  rPure (List.range 9) [9, 8] (fun | [v, u] => v = u | _ => False),
  rPure (List.range 10) [10, 9] (fun | [v, u] => v = tupC u 0 | _ => False),
  rPure (List.range 10) [11, 9] (fun | [v, u] => v = tupC u 1 | _ => False),
  rPure (List.range 10) [12, 9] (fun | [v, u] => v = tupC u 2 | _ => False),
  rPure (List.range 10) [13, 9] (fun | [v, u] => v = tupC u 3 | _ => False),
  rBox [] [.slice none 0 0, .int .i64 0, .int .i64 0, .bool false, .bool false, .slice none 0 0] 16,
  rBox [] [.int .i64 0, .int .i64 0, .string ⟨#[]⟩, .slice none 0 0] 18,
  rStore [0, 1, 2, 3, 4, 5, 6, 7, 8, 9, 10, 14, 15] [10] 14 (fun | [v] => contV v | _ => []),
  rPure [0, 1, 2, 3, 4, 5, 6, 7, 8, 9, 10, 11, 14, 15, 16] [17, 11] (fun | [v, u] => v = u | _ => False),
  rStore [0, 1, 2, 3, 4, 5, 6, 7, 8, 9, 10, 11, 12, 14, 15, 16, 17] [12] 15 (fun | [v] => contV v | _ => []),
  rPure (List.range 19) [19, 13] (fun | [v, u] => v = u | _ => False)]
  [some 30, some 31, some 32, some 33, some 34, some 35, some 36, some 37, some 38, some 29, some 39, some 40, some 41, some 42, some 11, some 13, none, some 12, none, some 14] (noOp) (W0.heap.size) (by kernel_rfl) (Nat.le_refl _) (by kernel_rfl) (by kernel_rfl) (by kernel_rfl) (fun j o ho => ?srv) (fun val Y N hv HF => ?fin)
 case srv =>
  have hlt : j < 20 := (Array.getElem?_eq_some_iff.1 ho).1
  rcases (show j = 0 ∨ j = 1 ∨ j = 2 ∨ j = 3 ∨ j = 4 ∨ j = 5 ∨ j = 6 ∨ j = 7 ∨ j = 8 ∨ j = 9 ∨ j = 10 ∨ j = 11 ∨ j = 12 ∨ j = 13 ∨ j = 14 ∨ j = 15 ∨ j = 16 ∨ j = 17 ∨ j = 18 ∨ j = 19 by omega) with rfl | rfl | rfl | rfl | rfl | rfl | rfl | rfl | rfl | rfl | rfl | rfl | rfl | rfl | rfl | rfl | rfl | rfl | rfl | rfl
  ·cases ho
   refine srv_val rfl rfl (fun _ _ _ => trivial) (fun val E X hE hB hA => ?_)
   have e4 : E (.tmp 4) = .pointer (some ⟨w.heap.size, 0, none⟩) := by rw [hE.eq]; rfl
   have z0 : X.cell? ⟨w.heap.size, 0, none⟩ = some (.slice OA on oc) := (hB.cell (p := ⟨_, 0, none⟩) s0l).trans s0_0
   have z1 : X.cell? ⟨w.heap.size, 1, none⟩ = some (.int .i64 q) := (hB.cell (p := ⟨_, 1, none⟩) s0l).trans s0_1
   have z2 : X.cell? ⟨w.heap.size, 2, none⟩ = some (.int .i64 u) := (hB.cell (p := ⟨_, 2, none⟩) s0l).trans s0_2
   have z3 : X.cell? ⟨w.heap.size, 3, none⟩ = some (.bool c) := (hB.cell (p := ⟨_, 3, none⟩) s0l).trans s0_3
   have z4 : X.cell? ⟨w.heap.size, 4, none⟩ = some (.bool d) := (hB.cell (p := ⟨_, 4, none⟩) s0l).trans s0_4
   have z5 : X.cell? ⟨w.heap.size, 5, none⟩ = some (.slice CA cn cc) := (hB.cell (p := ⟨_, 5, none⟩) s0l).trans s0_5
   exact ⟨.agg #[.slice OA on oc, .int .i64 q, .int .i64 u, .bool c, .bool d, .slice CA cn cc], by simp [execOp, go_sem, e4, z0, z1, z2, z3, z4, z5], rfl⟩
  ·cases ho
   refine srv_pure rfl rfl (fun val E hE hA => ?_)
   have e1 : E (.tmp 1) = .int .i64 pr := by rw [hE.eq]; rfl
   exact ⟨.int .i64 pr, fun X => by simp [execOp, go_sem, e1], rfl⟩
  ·cases ho
   refine srv_calV rfl rfl (fun _ _ _ => trivial) (fun val E X hE hB hA => ?_)
   have e31 : E (.tmp 31) = val 1 := by rw [hE.eq]; rfl
   have h1 : val 1 = .int .i64 pr := hA 1 (of_decide_eq_true rfl)
   exact ⟨_, _, _, by simp [execOp, go_sem, hE.f, e31, h1] <;> rfl, HNUM.out X, rfl⟩
  ·cases ho
   refine srv_val rfl rfl (fun _ _ _ => trivial) (fun val E X hE hB hA => ?_)
   have e10 : E (.tmp 10) = .pointer (some ⟨g10, 0, none⟩) := by rw [hE.eq]; rfl
   have z0 : X.cell? ⟨g10, 0, none⟩ = some (.int .i64 2) := (hB.cell (p := ⟨_, 0, none⟩) s2l).trans s2_0
   have z1 : X.cell? ⟨g10, 1, none⟩ = some (.int .i64 0) := (hB.cell (p := ⟨_, 1, none⟩) s2l).trans s2_1
   have z2 : X.cell? ⟨g10, 2, none⟩ = some (.string (tyNm ((j : Int) + 1))) := (hB.cell (p := ⟨_, 2, none⟩) s2l).trans s2_2
   have z3 : X.cell? ⟨g10, 3, none⟩ = some (.slice none 0 0) := (hB.cell (p := ⟨_, 3, none⟩) s2l).trans s2_3
   exact ⟨.agg #[.int .i64 2, .int .i64 0, .string (tyNm ((j : Int) + 1)), .slice none 0 0], by simp [execOp, go_sem, e10, z0, z1, z2, z3], rfl⟩
  ·cases ho
   refine srv_pure rfl rfl (fun val E hE hA => ?_)
   have e3 : E (.tmp 3) = .string nm := by rw [hE.eq]; rfl
   exact ⟨.string nm, fun X => by simp [execOp, go_sem, e3], rfl⟩
  ·cases ho
   refine srv_calV rfl rfl (fun _ _ _ => trivial) (fun val E X hE hB hA => ?_)
   have e34 : E (.tmp 34) = val 4 := by rw [hE.eq]; rfl
   have h4 : val 4 = .string nm := hA 4 (of_decide_eq_true rfl)
   exact ⟨_, _, _, by simp [execOp, go_sem, hE.f, e34, h4] <;> rfl, HATM.out X, rfl⟩
  ·cases ho
   refine srv_mk rfl rfl fun val E X N hE hC hA hc => ?_
   have e32 : E (.tmp 32) = val 2 := by rw [hE.eq]; rfl
   have h2 : val 2 = .agg #[.int .i64 1, .int .i64 pr, .string ⟨#[]⟩, .slice none 0 0] := hA 2 (of_decide_eq_true rfl)
   have e33 : E (.tmp 33) = val 3 := by rw [hE.eq]; rfl
   have h3 : val 3 = .agg #[.int .i64 2, .int .i64 0, .string (tyNm ((j : Int) + 1)), .slice none 0 0] := hA 3 (of_decide_eq_true rfl)
   have e35 : E (.tmp 35) = val 5 := by rw [hE.eq]; rfl
   have h5 : val 5 = .agg #[.int .i64 2, .int .i64 0, .string nm, .slice none 0 0] := hA 5 (of_decide_eq_true rfl)
   exact ⟨.slice (some ⟨X.heap.size, 0, none⟩) 3 3, X.alloc (.cells #[.int .i64 1, .int .i64 pr, .string ⟨#[]⟩, .slice none 0 0, .int .i64 2, .int .i64 0, .string (tyNm ((j : Int) + 1)), .slice none 0 0, .int .i64 2, .int .i64 0, .string nm, .slice none 0 0] 26), by simp [execOp, go_sem, e32, h2, e33, h3, e35, h5], (Below.refl _ _).alloc (Nat.le_refl _) _, ⟨_, rfl⟩, fun N' _ h2 => ⟨_, rfl, rows_leaf (N := N') (X := X) (rs := [(.mk 1 pr ⟨#[]⟩ [], none, 0), (atomT (tyNm ((j : Int) + 1)), none, 0), (atomT nm, none, 0)]) (e := 26) (h2 _ (Nat.le_refl _) (by simp)) (by simp [maxLen]) (fun x hx => by
    simp only [List.mem_cons, List.mem_nil_iff, or_false] at hx
    rcases hx with rfl | rfl | rfl <;> rfl)⟩⟩
  ·cases ho
   refine srv_cal rfl rfl fun val E X N hE hC hA hc => ?_
   obtain ⟨g, h6, ht⟩ : ∃ g, val 6 = .slice (some ⟨g, 0, none⟩) 3 3 ∧ TmsK N X (some ⟨g, 0, none⟩) [.mk 1 pr ⟨#[]⟩ [], atomT (tyNm ((j : Int) + 1)), atomT nm] := hc 6 (of_decide_eq_true rfl) rfl
   have e36 : E (.tmp 36) = val 6 := by rw [hE.eq]; rfl
   exact ⟨_, _, by simp [execOp, go_sem, hE.c, hE.f, e36, h6] <;> rfl, (law_goal _ _ _ _ X).mono fun e w' h => ⟨_, h.1, h.2, ⟨g, rfl⟩, fun N' h1 _ => ⟨g, rfl, row_stab ht (fun b hb => h.2.block b (hC.lt b hb)) h1⟩⟩⟩
  ·cases ho
   refine srv_cal rfl rfl fun val E X N hE hC hA hc => ?_
   obtain ⟨g, h7, ht⟩ : ∃ g, val 7 = .agg #[.int .i64 3, .int .i64 0, .string ⟨#[111, 112]⟩, .slice (some ⟨g, 0, none⟩) 3 3] ∧ TmsK N X (some ⟨g, 0, none⟩) [.mk 1 pr ⟨#[]⟩ [], atomT (tyNm ((j : Int) + 1)), atomT nm] := hc 7 (of_decide_eq_true rfl) rfl
   have e37 : E (.tmp 37) = val 7 := by rw [hE.eq]; rfl
   have e30 : E (.tmp 30) = val 0 := by rw [hE.eq]; rfl
   have h0 : val 0 = .agg #[.slice OA on oc, .int .i64 q, .int .i64 u, .bool c, .bool d, .slice CA cn cc] := hA 0 (of_decide_eq_true rfl)
   exact ⟨_, _, by simp [execOp, go_sem, hE.f, e37, e30, h7, h0] <;> rfl, (HCALL.out X g hC.bel (TmsK.at' ht)).mono fun e w' h => by
    obtain ⟨r, he, hB', hr, hrn⟩ := h
    exact ⟨_, he, hB', ⟨r, rfl⟩, fun N' h1 h2 => ⟨r, rfl, ResC.of hC.bel.size hr hrn hB' hC.bx h1 h2⟩⟩⟩
  ·cases ho
   refine srv_pure rfl rfl (fun val E hE hA => ?_)
   have e38 : E (.tmp 38) = val 8 := by rw [hE.eq]; rfl
   obtain ⟨r, h8⟩ : ∃ r : RV, val 8 = r.val := hA 8 (of_decide_eq_true rfl)
   exact ⟨val 8, fun X => by simp [execOp, go_sem, e38, h8], rfl⟩
  ·cases ho
   refine srv_pure rfl rfl (fun val E hE hA => ?_)
   have e29 : E (.tmp 29) = val 9 := by rw [hE.eq]; rfl
   obtain ⟨r, h8⟩ : ∃ r : RV, val 8 = r.val := hA 8 (of_decide_eq_true rfl)
   have h9 : val 9 = val 8 := hA 9 (of_decide_eq_true rfl)
   rw [h8] at h9
   exact ⟨tupC (val 9) 0, fun X => by simp [execOp, go_sem, e29, h9, tupC, RV.val], rfl⟩
  ·cases ho
   refine srv_pure rfl rfl (fun val E hE hA => ?_)
   have e29 : E (.tmp 29) = val 9 := by rw [hE.eq]; rfl
   obtain ⟨r, h8⟩ : ∃ r : RV, val 8 = r.val := hA 8 (of_decide_eq_true rfl)
   have h9 : val 9 = val 8 := hA 9 (of_decide_eq_true rfl)
   rw [h8] at h9
   exact ⟨tupC (val 9) 1, fun X => by simp [execOp, go_sem, e29, h9, tupC, RV.val], rfl⟩
  ·cases ho
   refine srv_pure rfl rfl (fun val E hE hA => ?_)
   have e29 : E (.tmp 29) = val 9 := by rw [hE.eq]; rfl
   obtain ⟨r, h8⟩ : ∃ r : RV, val 8 = r.val := hA 8 (of_decide_eq_true rfl)
   have h9 : val 9 = val 8 := hA 9 (of_decide_eq_true rfl)
   rw [h8] at h9
   exact ⟨tupC (val 9) 2, fun X => by simp [execOp, go_sem, e29, h9, tupC, RV.val], rfl⟩
  ·cases ho
   refine srv_pure rfl rfl (fun val E hE hA => ?_)
   have e29 : E (.tmp 29) = val 9 := by rw [hE.eq]; rfl
   obtain ⟨r, h8⟩ : ∃ r : RV, val 8 = r.val := hA 8 (of_decide_eq_true rfl)
   have h9 : val 9 = val 8 := hA 9 (of_decide_eq_true rfl)
   rw [h8] at h9
   exact ⟨tupC (val 9) 3, fun X => by simp [execOp, go_sem, e29, h9, tupC, RV.val], rfl⟩
  ·cases ho
   exact srv_box rfl (fun _ => trivial) (noOp_syn _ _ _ _ _ _ _ _ _ _) 43 fun E X => by simp [execOp, go_sem]
  ·cases ho
   exact srv_box rfl (fun _ => trivial) (noOp_term _ _ _ _ _ _) 26 fun E X => by simp [execOp, go_sem]
  ·cases ho
   refine srv_store rfl rfl (fun _ => trivial) fun val E X b hE hA hb hk => ?_
   have e11 : E (.tmp 11) = val 14 := by rw [hE.eq]; rfl
   have e39 : E (.tmp 39) = val 10 := by rw [hE.eq]; rfl
   obtain ⟨r, h8⟩ : ∃ r : RV, val 8 = r.val := hA 8 (of_decide_eq_true rfl)
   have h9 : val 9 = val 8 := hA 9 (of_decide_eq_true rfl)
   rw [h8] at h9
   have h10 : val 10 = tupC (val 9) 0 := hA 10 (of_decide_eq_true rfl)
   rw [h9] at h10
   have z0 := hk.c 0 (.slice none 0 0) rfl
   have f0 := hk.f 0
   have z1 := hk.c 1 (.int .i64 0) rfl
   have f1 := hk.f 1
   have z2 := hk.c 2 (.int .i64 0) rfl
   have f2 := hk.f 2
   have z3 := hk.c 3 (.bool false) rfl
   have f3 := hk.f 3
   have z4 := hk.c 4 (.bool false) rfl
   have f4 := hk.f 4
   have z5 := hk.c 5 (.slice none 0 0) rfl
   have f5 := hk.f 5
   exact ⟨((((((X.setCell ⟨b, 0, none⟩ (.slice r.oa r.on r.oc)).setCell ⟨b, 1, none⟩ (.int .i64 r.q)).setCell ⟨b, 2, none⟩ (.int .i64 r.u)).setCell ⟨b, 3, none⟩ (.bool r.c)).setCell ⟨b, 4, none⟩ (.bool r.d)).setCell ⟨b, 5, none⟩ (.slice r.ca r.cn r.cc)), [.slice r.oa r.on r.oc, .int .i64 r.q, .int .i64 r.u, .bool r.c, .bool r.d, .slice r.ca r.cn r.cc], by simp [execOp, go_sem, hb, e11, e39, h10, z0, f0, z1, f1, z2, f2, z3, f3, z4, f4, z5, f5, tupC, RV.val], (((((((PutTo.start hk).more 0 (.slice r.oa r.on r.oc)).more 1 (.int .i64 r.q)).more 2 (.int .i64 r.u)).more 3 (.bool r.c)).more 4 (.bool r.d)).more 5 (.slice r.ca r.cn r.cc)), (show contV (val 10) = _ by rw [h10]; rfl), noOp_syn _ _ _ _ _ _ _ _ _ _⟩
  ·cases ho
   refine srv_pure rfl rfl (fun val E hE hA => ?_)
   have e40 : E (.tmp 40) = val 11 := by rw [hE.eq]; rfl
   obtain ⟨r, h8⟩ : ∃ r : RV, val 8 = r.val := hA 8 (of_decide_eq_true rfl)
   have h9 : val 9 = val 8 := hA 9 (of_decide_eq_true rfl)
   rw [h8] at h9
   have h11 : val 11 = tupC (val 9) 1 := hA 11 (of_decide_eq_true rfl)
   rw [h9] at h11
   exact ⟨val 11, fun X => by simp [execOp, go_sem, e40, h11], rfl⟩
  ·cases ho
   refine srv_store rfl rfl (fun _ => trivial) fun val E X b hE hA hb hk => ?_
   have e13 : E (.tmp 13) = val 15 := by rw [hE.eq]; rfl
   have e41 : E (.tmp 41) = val 12 := by rw [hE.eq]; rfl
   obtain ⟨r, h8⟩ : ∃ r : RV, val 8 = r.val := hA 8 (of_decide_eq_true rfl)
   have h9 : val 9 = val 8 := hA 9 (of_decide_eq_true rfl)
   rw [h8] at h9
   have h12 : val 12 = tupC (val 9) 2 := hA 12 (of_decide_eq_true rfl)
   rw [h9] at h12
   have z0 := hk.c 0 (.int .i64 0) rfl
   have f0 := hk.f 0
   have z1 := hk.c 1 (.int .i64 0) rfl
   have f1 := hk.f 1
   have z2 := hk.c 2 (.string ⟨#[]⟩) rfl
   have f2 := hk.f 2
   have z3 := hk.c 3 (.slice none 0 0) rfl
   have f3 := hk.f 3
   exact ⟨((((X.setCell ⟨b, 0, none⟩ (.int .i64 r.bk)).setCell ⟨b, 1, none⟩ (.int .i64 r.bn)).setCell ⟨b, 2, none⟩ (.string r.bs)).setCell ⟨b, 3, none⟩ (.slice r.ba r.bz r.bc)), [.int .i64 r.bk, .int .i64 r.bn, .string r.bs, .slice r.ba r.bz r.bc], by simp [execOp, go_sem, hb, e13, e41, h12, z0, f0, z1, f1, z2, f2, z3, f3, tupC, RV.val], (((((PutTo.start hk).more 0 (.int .i64 r.bk)).more 1 (.int .i64 r.bn)).more 2 (.string r.bs)).more 3 (.slice r.ba r.bz r.bc)), (show contV (val 12) = _ by rw [h12]; rfl), noOp_term _ _ _ _ _ _⟩
  ·cases ho
   refine srv_pure rfl rfl (fun val E hE hA => ?_)
   have e42 : E (.tmp 42) = val 13 := by rw [hE.eq]; rfl
   obtain ⟨r, h8⟩ : ∃ r : RV, val 8 = r.val := hA 8 (of_decide_eq_true rfl)
   have h9 : val 9 = val 8 := hA 9 (of_decide_eq_true rfl)
   rw [h8] at h9
   have h13 : val 13 = tupC (val 9) 3 := hA 13 (of_decide_eq_true rfl)
   rw [h9] at h13
   exact ⟨val 13, fun X => by simp [execOp, go_sem, e42, h13], rfl⟩
 case fin =>
  have h0 : val 0 = .agg #[.slice OA on oc, .int .i64 q, .int .i64 u, .bool c, .bool d, .slice CA cn cc] := hv 0 (show 0 < 20 by decide)
  have h1 : val 1 = .int .i64 pr := hv 1 (show 1 < 20 by decide)
  have h2 : val 2 = .agg #[.int .i64 1, .int .i64 pr, .string ⟨#[]⟩, .slice none 0 0] := hv 2 (show 2 < 20 by decide)
  have h3 : val 3 = .agg #[.int .i64 2, .int .i64 0, .string (tyNm ((j : Int) + 1)), .slice none 0 0] := hv 3 (show 3 < 20 by decide)
  have h4 : val 4 = .string nm := hv 4 (show 4 < 20 by decide)
  have h5 : val 5 = .agg #[.int .i64 2, .int .i64 0, .string nm, .slice none 0 0] := hv 5 (show 5 < 20 by decide)
  obtain ⟨g, h6⟩ : ∃ g, val 6 = .slice (some ⟨g, 0, none⟩) 3 3 := hv 6 (show 6 < 20 by decide)
  obtain ⟨gg, h7⟩ : ∃ g, val 7 = .agg #[.int .i64 3, .int .i64 0, .string ⟨#[111, 112]⟩, .slice (some ⟨g, 0, none⟩) 3 3] := hv 7 (show 7 < 20 by decide)
  obtain ⟨r, h8, HR⟩ : ∃ r : RV, val 8 = r.val ∧ ResC N W0.heap.size Y r (CV) := HF.vcs 8 (show 8 < 20 by decide) rfl
  have h9 : val 9 = val 8 := hv 9 (show 9 < 20 by decide)
  rw [h8] at h9
  have h10 : val 10 = tupC (val 9) 0 := hv 10 (show 10 < 20 by decide)
  rw [h9] at h10
  have h11 : val 11 = tupC (val 9) 1 := hv 11 (show 11 < 20 by decide)
  rw [h9] at h11
  have h12 : val 12 = tupC (val 9) 2 := hv 12 (show 12 < 20 by decide)
  rw [h9] at h12
  have h13 : val 13 = tupC (val 9) 3 := hv 13 (show 13 < 20 by decide)
  rw [h9] at h13
  have h17 : val 17 = val 11 := hv 17 (show 17 < 20 by decide)
  rw [h11] at h17
  have h19 : val 19 = val 13 := hv 19 (show 19 < 20 by decide)
  rw [h13] at h19
  obtain ⟨oa, on1, oc1, q1, u1, c1, d1, ca, cn1, cc1, ra, rn, rc, bk, bn, bs, ba, bz, bc, er⟩ := r
  have h8 : val 8 = .tuple #[.agg #[.slice oa on1 oc1, .int .i64 q1, .int .i64 u1, .bool c1, .bool d1, .slice ca cn1 cc1], .slice ra rn rc, .agg #[.int .i64 bk, .int .i64 bn, .string bs, .slice ba bz bc], .int .i64 er] := h8
  have h9 : val 9 = .tuple #[.agg #[.slice oa on1 oc1, .int .i64 q1, .int .i64 u1, .bool c1, .bool d1, .slice ca cn1 cc1], .slice ra rn rc, .agg #[.int .i64 bk, .int .i64 bn, .string bs, .slice ba bz bc], .int .i64 er] := h9
  have h10 : val 10 = .agg #[.slice oa on1 oc1, .int .i64 q1, .int .i64 u1, .bool c1, .bool d1, .slice ca cn1 cc1] := h10
  have h11 : val 11 = .slice ra rn rc := h11
  have h12 : val 12 = .agg #[.int .i64 bk, .int .i64 bn, .string bs, .slice ba bz bc] := h12
  have h13 : val 13 = .int .i64 er := h13
  have h17 : val 17 = .slice ra rn rc := h17
  have h19 : val 19 = .int .i64 er := h19
  obtain ⟨e14, h14, l14, hK14, n14⟩ := HF.at_box 14 (by decide) rfl
  have hK14 : Bk Y e14 (contV (val 10)) := hK14
  rw [h10] at hK14
  have hK14 : Bk Y e14 [.slice oa on1 oc1, .int .i64 q1, .int .i64 u1, .bool c1, .bool d1, .slice ca cn1 cc1] := hK14
  obtain ⟨e15, h15, l15, hK15, n15⟩ := HF.at_box 15 (by decide) rfl
  have hK15 : Bk Y e15 (contV (val 12)) := hK15
  rw [h12] at hK15
  have hK15 : Bk Y e15 [.int .i64 bk, .int .i64 bn, .string bs, .slice ba bz bc] := hK15
  refine hK0 _ _ ?_
  simp only [fillD, List.set_cons_zero, List.set_cons_succ, Nat.reduceAdd, Nat.zero_add, h0, h1, h2, h3, h4, h5, h6, h7, h8, h9, h10, h11, h12, h13, h17, h19, h14, h15]
  clear hv hK0 h0 h1 h2 h3 h4 h5 h6 h7 h8 h9 h10 h11 h12 h13 h17 h19 h14 h15 HCALL HCAL s0_0 s0_1 s0_2 s0_3 s0_4 s0_5 s2_0 s2_1 s2_2 s2_3 s0l s2l
  have HR : ResC N W0.heap.size Y ⟨oa, on1, oc1, q1, u1, c1, d1, ca, cn1, cc1, ra, rn, rc, bk, bn, bs, ba, bz, bc, er⟩ CV := HR
  have hcase : (er ≠ 0 ∧ rn = 0) ∨ (er = 0 ∧ ∃ s' L, CV = .ok s' L ∧ ResN N W0.heap.size Y ⟨oa, on1, oc1, q1, u1, c1, d1, ca, cn1, cc1, ra, rn, rc, bk, bn, bs, ba, bz, bc, er⟩ s' L) := by
   cases CV with
   | ok s' L => exact .inr ⟨HR.er, s', L, rfl, HR⟩
   | ball b => exact .inl ⟨by have h1 : er = 8 := HR.1; rw [h1]; decide, HR.2.2.2.2.2.1⟩
   | err n => exact .inl ⟨by have h1 : er = n := HR.1; rw [h1]; exact HR.2.1, HR.2.2.2⟩
  have HBLY := Lib.hid (HBL1.out.trans (HF.bel.mono HBL1.out.size))
  have HBKY := Lib.hid (HBK1.out.keep fun x hx => HF.bel.block x.1 (HBK1.out.bk x hx).lt)
  have HK11 := Lib.hid hK14
  have HRL := Lib.hid HF.lt
  clear HR HF hK14 hK15 n14 n15 l14 l15 HBL1 HBK1 hcn
  rcases hcase with ⟨her, rfl⟩ | ⟨rfl, s', L, hcv, HR⟩
  ·clear HS HCV HK11 HRL HBKY
   go_wp2_with fail
   refine (law_example _).mono ?_; rintro e w2 ⟨rfl, hB2⟩
   have HB2 := Lib.hid (HBLY.out.trans (hB2.mono HBLY.out.size))
   go_wp2_with fail
   exact bodyPost_ret (v := .bool true) (by simp [results, Tryz.results7, go_sem, her]) rfl ⟨rfl, HB2.out⟩
  ·have hop := opC_ok HJ.out (HCV.out.symm.trans hcv)
   obtain ⟨hok, hnz, rfl, hf1, hf2, hf3⟩ := hop
   have hrn : rn = 1 := HR.rn
   subst hrn
   by_cases hn : nm.toList = [91, 93]
   ·have t1 : (nm.toList == [91, 93]) = true := by rw [hn]; rfl
    clear HS HCV HK11 HRL HBKY hf3 hf1 hf2 hok HR hcv
    go_wp2_with fail
    refine (law_example _).mono ?_; rintro e w2 ⟨rfl, hB2⟩
    have HB2 := Lib.hid (HBLY.out.trans (hB2.mono HBLY.out.size))
    go_wp2_with fail
    go_ret
    exact ⟨rfl, HB2.out⟩
   ·have t1 : (nm.toList == [91, 93]) = false := by simp [hn]
    obtain ⟨hf4, hSet⟩ := hf3 hn
    have hfl := HR.fl
    rw [hf1] at hfl
    dsimp only at hfl
    injection hfl with f1 f2 f3 f4
    obtain rfl := f1.symm
    obtain rfl := f2.symm
    obtain rfl := f3.symm
    obtain rfl := f4.symm
    have hTab1 := HR.tab
    have hcv1 := HR.cv
    rw [hf4] at hTab1
    rw [hf2] at hcv1
    have HST : Hid (SyAt Y oa on1 oc1 ca cn1 cc1 (newL l ⟨nm, (j : Int) + 1, pr⟩) cl) := Lib.hid ⟨hTab1, hcv1.len, hcv1.prs, hcv1.nil⟩
    have HSY := Lib.hid (HS.out.below HBLY.out)
    have HOK := Lib.hid hok
    have HOK2 : Hid (sokB (newL l ⟨nm, (j : Int) + 1, pr⟩) ⟨q, u, c, d⟩ cl = true) := Lib.hid (by
     have h := hok
     unfold sokB at h ⊢
     rw [Bool.and_eq_true] at h ⊢
     exact ⟨hSet.valid, h.2⟩)
    have HSET := Lib.hid hSet
    have HONE := Lib.hid (op_once HJ.out hSet)
    have HTWO := Lib.hid (names_two hSet.valid nm)
    have HOTH := Lib.hid (op_others (o := ⟨nm, (j : Int) + 1, pr⟩) (l := l) (nm := nm) rfl)
    have HNMS := Lib.hid (ops_names hSet.valid)
    have HNZ := Lib.hid hnz
    clear hSet hok hTab1 hcv1 HR hf1 hf2 hf3 hf4 hcv HCV hn hnz HRL
    obtain ⟨NL, HNL⟩ : ∃ x, Hid (x = newL l ⟨nm, (j : Int) + 1, pr⟩) := ⟨_, Lib.hid rfl⟩
    rw [← HNL.out] at HST HOK2 HONE HTWO HOTH HNMS
    have c11 := HK11.out.all0
    simp only [bkAll, Nat.zero_add, Nat.reduceAdd, and_true] at c11
    have c0 := HBKY.out.all
    simp only [bksAll, bkAll, Nat.zero_add, Nat.reduceAdd, and_true] at c0
    go_wp2_with fail
    refine (law_listed OA on oc q u c d CA cn cc nm l cl Y HSY.out HOK.out).mono ?_; rintro e w2 ⟨A1, n1, k1, rfl, hB2, hn1, -⟩
    have HBL2 := Lib.hid (HBLY.out.trans (hB2.mono HBLY.out.size))
    have HBK2 := Lib.hid (HBKY.out.call hB2)
    have HK2 := Lib.hid (HK11.out.call hB2)
    have HST2 := Lib.hid (HST.out.below hB2)
    have HN1 := Lib.hid hn1
    clear hn1 hB2 HBLY HBKY HK11 HST HSY c11 c0
    have c11 := HK2.out.all0
    simp only [bkAll, Nat.zero_add, Nat.reduceAdd, and_true] at c11
    have c0 := HBK2.out.all
    simp only [bksAll, bkAll, Nat.zero_add, Nat.reduceAdd, and_true] at c0
    go_wp2_with fail
    refine (law_listed oa on1 oc1 q u c d ca cn1 cc1 nm NL cl w2 HST2.out HOK2.out).mono ?_; rintro e w3 ⟨A2, n2, k2, rfl, hB3, hn2, hN2⟩
    have hdif : ((NL.length : Int) - (n2 : Int)) = (l.length : Int) - (n1 : Int) := by rw [HN1.out, hn2]; exact HOTH.out
    rw [hdif]
    have HBL3 := Lib.hid (HBL2.out.trans (hB3.mono HBL2.out.size))
    have HBK3 := Lib.hid (HBK2.out.call hB3)
    obtain ⟨FL, HFL⟩ : ∃ f, Hid (f = NL.filter fun o => decide (o.name.toList = nm.toList)) := ⟨_, Lib.hid rfl⟩
    rw [← HFL.out] at HONE HTWO hn2 hN2
    obtain ⟨PS, HPS⟩ : ∃ p : OpR → Bool, Hid (p = fun a => sameT (opM a) (opM ⟨nm, (j : Int) + 1, pr⟩)) := ⟨_, Lib.hid rfl⟩
    rw [← HPS.out] at HONE
    have HN2 := Lib.hid hN2
    have hn22 : n2 ≤ 2 := by rw [hn2]; exact HTWO.out
    have HFN := Lib.hid hn2
    have HFS : Hid (∀ o ∈ FL, o.name.size ≤ 100) := Lib.hid fun o ho => HNMS.out o (by rw [HFL.out] at ho; exact (List.mem_filter.1 ho).1)
    clear hB3 HBL2 HBK2 HK2 HST2 c11 c0 HN1 hn2 hdif HOTH HTWO HOK HOK2 hN2
    go_wp2_with fail
    go_loopw [21, 22] (fun v i wr => ∃ k m : Nat, k ≤ n2 ∧ m ≤ k ∧ v = .int .i64 m ∧ i = .int .i64 k ∧ Hid (Below w3.heap.size w3 wr) ∧ Hid (m = ((FL.take k).filter PS).length)) (fun _ i _ => n2 - (intOf i).toNat)
    case atStart => exact ⟨0, 0, Nat.zero_le _, Nat.le_refl _, rfl, rfl, Lib.hid (Below.refl _ _), Lib.hid rfl⟩
    case round =>
     obtain ⟨k, m, hk, hm, rfl, rfl, HB, HM⟩ := hrel
     by_cases hlt : k < n2
     ·have hkl : k < FL.length := by have := HFN.out; omega
      have HNk : Hid (TmsK (fun b => w2.heap.size ≤ b ∧ b < w3.heap.size) wr A2 (FL.map opM)) := Lib.hid (HN2.out.keep (fun b hb => HB.out.block b hb.2) (fun _ hb => hb))
      obtain ⟨rb, ro, XA, xc, hra, hrb, j0, j1, j2, j3, hXA⟩ := HNk.out.get k (by rw [List.length_map]; exact hkl)
      obtain ⟨o, HOE⟩ : ∃ o, Hid (o = FL[k]) := ⟨_, Lib.hid rfl⟩
      have hge : (FL.map opM)[k]'(by rw [List.length_map]; exact hkl) = opM o := by rw [List.getElem_map, HOE.out]
      rw [hge] at j0 j1 j2 j3 hXA
      subst hra
      have y0 : wr.cell? ⟨rb, ro + k * 4, none⟩ = some (.int .i64 3) := j0
      have y1 : wr.cell? ⟨rb, ro + k * 4 + 1, none⟩ = some (.int .i64 0) := j1
      have y2 : wr.cell? ⟨rb, ro + k * 4 + 2, none⟩ = some (.string ⟨#[99, 117, 114, 114, 101, 110, 116, 95, 111, 112]⟩) := j2
      have y3 : wr.cell? ⟨rb, ro + k * 4 + 3, none⟩ = some (.slice XA 3 xc) := j3
      have yl : rb < wr.heap.size := Nat.lt_of_lt_of_le hrb.2 HB.out.size
      have hXA' : TmsAt wr.heap.size wr XA (opM o).args := TmsK.at' (hXA.keep (fun _ _ => rfl) (fun b hb => Nat.lt_of_lt_of_le hb.2 HB.out.size))
      have HSAM : Hid (∀ X g, Below wr.heap.size wr X → TmsAt X.heap.size X (some ⟨g, 0, none⟩) [.mk 1 pr ⟨#[]⟩ [], atomT (tyNm ((j : Int) + 1)), atomT nm] → Calls Tryz.prog 18 #[.agg #[.int .i64 3, .int .i64 0, .string ⟨#[99, 117, 114, 114, 101, 110, 116, 95, 111, 112]⟩, .slice XA 3 xc], .agg #[.int .i64 3, .int .i64 0, .string ⟨#[99, 117, 114, 114, 101, 110, 116, 95, 111, 112]⟩, .slice (some ⟨g, 0, none⟩) 3 3]] X fun e w' => e = .returned (.bool (PS o)) ∧ Below X.heap.size X w') := Lib.hid fun X g hX hT => by
       rw [HPS.out]
       exact law_same (opM o) (opM ⟨nm, (j : Int) + 1, pr⟩) XA (some ⟨g, 0, none⟩) xc 3 X ((hXA'.keep hX).mono hX.size) hT
      have HFS2 := Lib.hid (filter_snoc PS FL k hkl)
      rw [← HOE.out] at HFS2
      have HBKr := Lib.hid (HBK3.out.call HB.out)
      have HLT := Lib.hid hlt
      have hk0 : (0 : Int) ≤ (k : Int) := by omega
      have hk1 : (k : Int) < (n2 : Int) := by omega
      clear hge hXA hXA' HNk j0 j1 j2 j3 hrb
      go_wp2_with fail
      rename_i K1 hK1
      have t2_0 := HBKr.out.cell 0 0 rfl rfl
      have t2_1 := HBKr.out.cell 0 1 rfl rfl
      have t2_2 := HBKr.out.cell 0 2 rfl rfl
      have t2_3 := HBKr.out.cell 0 3 rfl rfl
      have t2l : g10 < wr.heap.size := HBKr.out.lt 0 rfl
      refine region_own (w0 := wr) [rPure [] [0] (fun | [v] => v = .slice (some ⟨rb, ro, none⟩) n2 k2 | _ => False),
        rPure [] [1] (fun | [v] => v = .int .i64 k | _ => False),
        rPure [0, 1] [2] (fun | [v] => v = .pointer (some ⟨rb, ro + k * 4, none⟩) | _ => False),
        rVal (List.range 3) [3] (fun | [v] => v = .agg #[.int .i64 3, .int .i64 0, .string ⟨#[99, 117, 114, 114, 101, 110, 116, 95, 111, 112]⟩, .slice XA 3 xc] | _ => False),
        rPure [] [4] (fun | [v] => v = .int .i64 pr | _ => False),
        rVal [4] [5] (fun | [v] => v = .agg #[.int .i64 1, .int .i64 pr, .string ⟨#[]⟩, .slice none 0 0] | _ => False),
        rVal [] [6] (fun | [v] => v = .agg #[.int .i64 2, .int .i64 0, .string (tyNm ((j : Int) + 1)), .slice none 0 0] | _ => False),
        rPure [] [7] (fun | [v] => v = .string nm | _ => False),
        rVal [4, 5, 7] [8] (fun | [v] => v = .agg #[.int .i64 2, .int .i64 0, .string nm, .slice none 0 0] | _ => False),
        rRow [4, 5, 6, 7, 8] 9 3 [.mk 1 pr ⟨#[]⟩ [], atomT (tyNm ((j : Int) + 1)), atomT nm],
        rGoal [4, 5, 6, 7, 8, 9] 10 ⟨#[99, 117, 114, 114, 101, 110, 116, 95, 111, 112]⟩ 3 [.mk 1 pr ⟨#[]⟩ [], atomT (tyNm ((j : Int) + 1)), atomT nm],
        rCall (List.range 11) [11] (fun | [v] => v = .bool (PS o) | _ => False) (fun _ _ _ => True) (fun _ _ _ _ _ _ _ _ _ => trivial)]
        [some 94, some 95, some 96, some 97, some 98, some 99, some 100, some 101, some 102, some 103, some 104, some 105] (noOp) (wr.heap.size) (by kernel_rfl) (Nat.le_refl _) (by kernel_rfl) (by kernel_rfl) (by kernel_rfl) (fun j o ho => ?srv2) (fun val Y N hv HF => ?fin2)
      case srv2 =>
        have hlt : j < 12 := (Array.getElem?_eq_some_iff.1 ho).1
        rcases (show j = 0 ∨ j = 1 ∨ j = 2 ∨ j = 3 ∨ j = 4 ∨ j = 5 ∨ j = 6 ∨ j = 7 ∨ j = 8 ∨ j = 9 ∨ j = 10 ∨ j = 11 by omega) with rfl | rfl | rfl | rfl | rfl | rfl | rfl | rfl | rfl | rfl | rfl | rfl
        ·cases ho
         refine srv_pure rfl rfl (fun val E hE hA => ?_)
         have e18 : E (.tmp 18) = .slice (some ⟨rb, ro, none⟩) n2 k2 := by rw [hE.eq]; rfl
         exact ⟨.slice (some ⟨rb, ro, none⟩) n2 k2, fun X => by simp [execOp, go_sem, e18], rfl⟩
        ·cases ho
         refine srv_pure rfl rfl (fun val E hE hA => ?_)
         have e22 : E (.tmp 22) = .int .i64 k := by rw [hE.eq]; rfl
         exact ⟨.int .i64 k, fun X => by simp [execOp, go_sem, e22], rfl⟩
        ·cases ho
         refine srv_pure rfl rfl (fun val E hE hA => ?_)
         have e94 : E (.tmp 94) = val 0 := by rw [hE.eq]; rfl
         have h0 : val 0 = .slice (some ⟨rb, ro, none⟩) n2 k2 := hA 0 (of_decide_eq_true rfl)
         have e95 : E (.tmp 95) = val 1 := by rw [hE.eq]; rfl
         have h1 : val 1 = .int .i64 k := hA 1 (of_decide_eq_true rfl)
         exact ⟨.pointer (some ⟨rb, ro + k * 4, none⟩), fun X => by simp [execOp, go_sem, e94, h0, e95, h1, hk0, hk1], rfl⟩
        ·cases ho
         refine srv_val rfl rfl (fun _ _ _ => trivial) (fun val E X hE hB hA => ?_)
         have e96 : E (.tmp 96) = val 2 := by rw [hE.eq]; rfl
         have h2 : val 2 = .pointer (some ⟨rb, ro + k * 4, none⟩) := hA 2 (of_decide_eq_true rfl)
         have z0 : X.cell? ⟨rb, ro + k * 4, none⟩ = some (.int .i64 3) := (hB.cell (p := ⟨_, _, none⟩) yl).trans y0
         have z1 : X.cell? ⟨rb, ro + k * 4 + 1, none⟩ = some (.int .i64 0) := (hB.cell (p := ⟨_, _, none⟩) yl).trans y1
         have z2 : X.cell? ⟨rb, ro + k * 4 + 2, none⟩ = some (.string ⟨#[99, 117, 114, 114, 101, 110, 116, 95, 111, 112]⟩) := (hB.cell (p := ⟨_, _, none⟩) yl).trans y2
         have z3 : X.cell? ⟨rb, ro + k * 4 + 3, none⟩ = some (.slice XA 3 xc) := (hB.cell (p := ⟨_, _, none⟩) yl).trans y3
         exact ⟨.agg #[.int .i64 3, .int .i64 0, .string ⟨#[99, 117, 114, 114, 101, 110, 116, 95, 111, 112]⟩, .slice XA 3 xc], by simp [execOp, go_sem, e96, h2, z0, z1, z2, z3], rfl⟩
        ·cases ho
         refine srv_pure rfl rfl (fun val E hE hA => ?_)
         have e1 : E (.tmp 1) = .int .i64 pr := by rw [hE.eq]; rfl
         exact ⟨.int .i64 pr, fun X => by simp [execOp, go_sem, e1], rfl⟩
        ·cases ho
         refine srv_calV rfl rfl (fun _ _ _ => trivial) (fun val E X hE hB hA => ?_)
         have e98 : E (.tmp 98) = val 4 := by rw [hE.eq]; rfl
         have h4 : val 4 = .int .i64 pr := hA 4 (of_decide_eq_true rfl)
         exact ⟨_, _, _, by simp [execOp, go_sem, hE.f, e98, h4] <;> rfl, HNUM.out X, rfl⟩
        ·cases ho
         refine srv_val rfl rfl (fun _ _ _ => trivial) (fun val E X hE hB hA => ?_)
         have e10 : E (.tmp 10) = .pointer (some ⟨g10, 0, none⟩) := by rw [hE.eq]; rfl
         have z0 : X.cell? ⟨g10, 0, none⟩ = some (.int .i64 2) := (hB.cell (p := ⟨_, 0, none⟩) t2l).trans t2_0
         have z1 : X.cell? ⟨g10, 1, none⟩ = some (.int .i64 0) := (hB.cell (p := ⟨_, 1, none⟩) t2l).trans t2_1
         have z2 : X.cell? ⟨g10, 2, none⟩ = some (.string (tyNm ((j : Int) + 1))) := (hB.cell (p := ⟨_, 2, none⟩) t2l).trans t2_2
         have z3 : X.cell? ⟨g10, 3, none⟩ = some (.slice none 0 0) := (hB.cell (p := ⟨_, 3, none⟩) t2l).trans t2_3
         exact ⟨.agg #[.int .i64 2, .int .i64 0, .string (tyNm ((j : Int) + 1)), .slice none 0 0], by simp [execOp, go_sem, e10, z0, z1, z2, z3], rfl⟩
        ·cases ho
         refine srv_pure rfl rfl (fun val E hE hA => ?_)
         have e3 : E (.tmp 3) = .string nm := by rw [hE.eq]; rfl
         exact ⟨.string nm, fun X => by simp [execOp, go_sem, e3], rfl⟩
        ·cases ho
         refine srv_calV rfl rfl (fun _ _ _ => trivial) (fun val E X hE hB hA => ?_)
         have e101 : E (.tmp 101) = val 7 := by rw [hE.eq]; rfl
         have h7 : val 7 = .string nm := hA 7 (of_decide_eq_true rfl)
         exact ⟨_, _, _, by simp [execOp, go_sem, hE.f, e101, h7] <;> rfl, HATM.out X, rfl⟩
        ·cases ho
         refine srv_mk rfl rfl fun val E X N hE hC hA hc => ?_
         have e99 : E (.tmp 99) = val 5 := by rw [hE.eq]; rfl
         have h5 : val 5 = .agg #[.int .i64 1, .int .i64 pr, .string ⟨#[]⟩, .slice none 0 0] := hA 5 (of_decide_eq_true rfl)
         have e100 : E (.tmp 100) = val 6 := by rw [hE.eq]; rfl
         have h6 : val 6 = .agg #[.int .i64 2, .int .i64 0, .string (tyNm ((j : Int) + 1)), .slice none 0 0] := hA 6 (of_decide_eq_true rfl)
         have e102 : E (.tmp 102) = val 8 := by rw [hE.eq]; rfl
         have h8 : val 8 = .agg #[.int .i64 2, .int .i64 0, .string nm, .slice none 0 0] := hA 8 (of_decide_eq_true rfl)
         exact ⟨.slice (some ⟨X.heap.size, 0, none⟩) 3 3, X.alloc (.cells #[.int .i64 1, .int .i64 pr, .string ⟨#[]⟩, .slice none 0 0, .int .i64 2, .int .i64 0, .string (tyNm ((j : Int) + 1)), .slice none 0 0, .int .i64 2, .int .i64 0, .string nm, .slice none 0 0] 26), by simp [execOp, go_sem, e99, h5, e100, h6, e102, h8], (Below.refl _ _).alloc (Nat.le_refl _) _, ⟨_, rfl⟩, fun N' _ h2 => ⟨_, rfl, rows_leaf (N := N') (X := X) (rs := [(.mk 1 pr ⟨#[]⟩ [], none, 0), (atomT (tyNm ((j : Int) + 1)), none, 0), (atomT nm, none, 0)]) (e := 26) (h2 _ (Nat.le_refl _) (by simp)) (by simp [maxLen]) (fun x hx => by
          simp only [List.mem_cons, List.mem_nil_iff, or_false] at hx
          rcases hx with rfl | rfl | rfl <;> rfl)⟩⟩
        ·cases ho
         refine srv_cal rfl rfl fun val E X N hE hC hA hc => ?_
         obtain ⟨g, h9, ht⟩ : ∃ g, val 9 = .slice (some ⟨g, 0, none⟩) 3 3 ∧ TmsK N X (some ⟨g, 0, none⟩) [.mk 1 pr ⟨#[]⟩ [], atomT (tyNm ((j : Int) + 1)), atomT nm] := hc 9 (of_decide_eq_true rfl) rfl
         have e103 : E (.tmp 103) = val 9 := by rw [hE.eq]; rfl
         exact ⟨_, _, by simp [execOp, go_sem, hE.c, hE.f, e103, h9] <;> rfl, (law_goal _ _ _ _ X).mono fun e w' h => ⟨_, h.1, h.2, ⟨g, rfl⟩, fun N' h1 _ => ⟨g, rfl, row_stab ht (fun b hb => h.2.block b (hC.lt b hb)) h1⟩⟩⟩
        ·cases ho
         refine srv_cal rfl rfl fun val E X N hE hC hA hc => ?_
         obtain ⟨g, h10, ht⟩ : ∃ g, val 10 = .agg #[.int .i64 3, .int .i64 0, .string ⟨#[99, 117, 114, 114, 101, 110, 116, 95, 111, 112]⟩, .slice (some ⟨g, 0, none⟩) 3 3] ∧ TmsK N X (some ⟨g, 0, none⟩) [.mk 1 pr ⟨#[]⟩ [], atomT (tyNm ((j : Int) + 1)), atomT nm] := hc 10 (of_decide_eq_true rfl) rfl
         have e104 : E (.tmp 104) = val 10 := by rw [hE.eq]; rfl
         have e97 : E (.tmp 97) = val 3 := by rw [hE.eq]; rfl
         have h3 : val 3 = .agg #[.int .i64 3, .int .i64 0, .string ⟨#[99, 117, 114, 114, 101, 110, 116, 95, 111, 112]⟩, .slice XA 3 xc] := hA 3 (of_decide_eq_true rfl)
         exact ⟨_, _, by simp [execOp, go_sem, hE.f, e104, e97, h10, h3] <;> rfl, (HSAM.out X g hC.bel (TmsK.at' ht)).mono fun e w' h => ⟨_, h.1, h.2, rfl, fun _ _ _ => trivial⟩⟩
      case fin2 =>
       have h0 : val 0 = .slice (some ⟨rb, ro, none⟩) n2 k2 := hv 0 (show 0 < 12 by decide)
       have h1 : val 1 = .int .i64 k := hv 1 (show 1 < 12 by decide)
       have h2 : val 2 = .pointer (some ⟨rb, ro + k * 4, none⟩) := hv 2 (show 2 < 12 by decide)
       have h3 : val 3 = .agg #[.int .i64 3, .int .i64 0, .string ⟨#[99, 117, 114, 114, 101, 110, 116, 95, 111, 112]⟩, .slice XA 3 xc] := hv 3 (show 3 < 12 by decide)
       have h4 : val 4 = .int .i64 pr := hv 4 (show 4 < 12 by decide)
       have h5 : val 5 = .agg #[.int .i64 1, .int .i64 pr, .string ⟨#[]⟩, .slice none 0 0] := hv 5 (show 5 < 12 by decide)
       have h6 : val 6 = .agg #[.int .i64 2, .int .i64 0, .string (tyNm ((j : Int) + 1)), .slice none 0 0] := hv 6 (show 6 < 12 by decide)
       have h7 : val 7 = .string nm := hv 7 (show 7 < 12 by decide)
       have h8 : val 8 = .agg #[.int .i64 2, .int .i64 0, .string nm, .slice none 0 0] := hv 8 (show 8 < 12 by decide)
       obtain ⟨g, h9⟩ : ∃ g, val 9 = .slice (some ⟨g, 0, none⟩) 3 3 := hv 9 (show 9 < 12 by decide)
       obtain ⟨gg, h10⟩ : ∃ g, val 10 = .agg #[.int .i64 3, .int .i64 0, .string ⟨#[99, 117, 114, 114, 101, 110, 116, 95, 111, 112]⟩, .slice (some ⟨g, 0, none⟩) 3 3] := hv 10 (show 10 < 12 by decide)
       have h11 : val 11 = .bool (PS o) := hv 11 (show 11 < 12 by decide)
       refine hK1 _ _ ?_
       simp only [fillD, List.set_cons_zero, List.set_cons_succ, Nat.reduceAdd, Nat.zero_add, h0, h1, h2, h3, h4, h5, h6, h7, h8, h9, h10, h11]
       have HB5 := Lib.hid (HB.out.trans (HF.bel.mono HB.out.size))
       have hm2 : (m : Int) + 1 ≤ 3 := by omega
       have hk2 : (k : Int) + 1 ≤ 3 := by omega
       clear hv h0 h1 h2 h3 h4 h5 h6 h7 h8 h9 h10 h11 hK1 HF HB HSAM HBKr t2l t2_0 t2_1 t2_2 t2_3 y0 y1 y2 y3 yl
       cases hps : PS o with
       | true =>
        have HM2 : Hid (m + 1 = ((FL.take (k + 1)).filter PS).length) := Lib.hid (by rw [HFS2.out, if_pos hps, List.length_append, ← HM.out]; rfl)
        clear HFS2 HM hps
        go_wp2_with fail
        go_roundw
        case rel => exact ⟨k + 1, m + 1, by omega, by omega, by go_num, by go_num, HB5, HM2⟩
        case measure => simp [intOf] <;> omega
       | false =>
        have HM2 : Hid (m = ((FL.take (k + 1)).filter PS).length) := Lib.hid (by rw [HFS2.out, if_neg (by rw [hps]; decide), List.append_nil]; exact HM.out)
        clear HFS2 HM hps
        go_wp2_with fail
        go_roundw
        case rel => exact ⟨k + 1, m, by omega, by omega, rfl, by go_num, HB5, HM2⟩
        case measure => simp [intOf] <;> omega
     ·obtain rfl : k = n2 := by omega
      have hmF : m = (FL.filter PS).length := by
       have h := HM.out
       rw [HFN.out, List.take_length] at h
       exact h
      have h1 : m ≤ 1 := by rw [hmF]; exact HONE.out.1
      have h2 : m = 1 ↔ 0 < pr := by rw [hmF]; exact HONE.out.2
      have HBF := Lib.hid (HBL3.out.trans (HB.out.mono HBL3.out.size))
      clear HBL3 HB HBK3 HM HFN HONE hmF hlt hm
      rcases (show (m = 1 ∧ 0 < pr) ∨ (m = 0 ∧ ¬ 0 < pr) by omega) with ⟨rfl, hp⟩ | ⟨rfl, hp⟩
      ·clear h1 h2
       go_wp2_with fail
       refine (law_example _).mono ?_; rintro e w4 ⟨rfl, hB4⟩
       have HB4 := Lib.hid (HBF.out.trans (hB4.mono HBF.out.size))
       go_wp2_with fail
       go_ret
       exact ⟨rfl, HB4.out⟩
      ·clear h1 h2
       go_wp2_with fail
       refine (law_example _).mono ?_; rintro e w4 ⟨rfl, hB4⟩
       have HB4 := Lib.hid (HBF.out.trans (hB4.mono HBF.out.size))
       go_wp2_with fail
       go_ret
       exact ⟨rfl, HB4.out⟩
end Go.Proofs.YtfkhcpeahdkafaaGreat
