/- Operators: what Set keeps, in plain words. Operators: the reference's without and with. Operators: the reference's Find and Is. Operators: the laws' awake. Operators: the law OpsChanges. Operators: the reference's Same, at equal tables. Operators: the law OpsAgain. Operators: the reference's Is; the law OpsLookups. Operators: the reference's put and Default; the law OpsDefault. Operators that came in, opened. -/
import Derived.Test.YtgapnafkelokaaaGreatDoorM08
import Derived.Test.YtgapnafkelokaaaGreatDoorM07
import Derived.Test.YtgapnafkelokaaaGreatDoorM03
import Derived.ProofKit
import Derived.Deep.Slices
import Derived.Deep.Strs
import Derived.ChangeMaps5
import Derived.Carry
namespace Hb
open Go Go.RowKit
theorem sorted_idx {l : List OpR} (h : Sorted l) {i j : Nat} (hj : j < l.length) (hij : i < j) : befOp (l[i]'(by omega)) l[j] = true := (List.pairwise_iff_getElem.1 h) i j (by omega) hj hij
theorem bef_names {a b : OpR} (h : befOp a b = true) : a.name.toList ≤ b.name.toList := by
  rw [befOp_iff] at h
  rcases h with h | ⟨h, _⟩
  · exact List.le_of_lt h
  · rw [h]; exact List.le_refl _
theorem bef_cls {a b : OpR} (h : befOp a b = true) (he : a.name.toList = b.name.toList) : clsOp a.typ < clsOp b.typ := by
  rw [befOp_iff] at h
  rcases h with h | ⟨_, h⟩
  · rw [he] at h; exact absurd h (List.lt_irrefl _)
  · exact h
/-- No infix operator beside a postfix one of the same name. -/
def NoMix (l : List OpR) : Prop := ∀ a ∈ l, ∀ b ∈ l, a.name.toList = b.name.toList → ¬(clsOp a.typ = 2 ∧ clsOp b.typ = 3)
theorem nomix_valid {l : List OpR} (h : opsValid l = true) : NoMix l := by
  intro a ha b hb hn ⟨h2, h3⟩
  have hs := sorted_valid h
  obtain ⟨i, hi, rfl⟩ := List.getElem_of_mem ha
  obtain ⟨j, hj, rfl⟩ := List.getElem_of_mem hb
  rcases Nat.lt_trichotomy i j with hij | hij | hij
  · rcases Nat.eq_or_lt_of_le (show i + 1 ≤ j from hij) with he | hlt
    · subst he
      have := valid_next h i hj
      rw [opLt_ref, hn, h2, h3] at this
      simp at this
    · have b1 := sorted_idx hs (i := i) (j := i + 1) (by omega) (by omega)
      have b2 := sorted_idx hs (i := i + 1) (j := j) hj hlt
      have n1 := bef_names b1
      have n2 := bef_names b2
      have e1 : l[i].name.toList = l[i + 1].name.toList := List.le_antisymm n1 (by rw [hn]; exact n2)
      have c1 := bef_cls b1 e1
      have c2 := bef_cls b2 (e1.symm.trans hn)
      omega
  · subst hij; omega
  · have := bef_cls (sorted_idx hs hi hij) hn.symm
    omega
theorem valid_of {l : List OpR} (h1 : l.length ≤ 100) (h2 : ∀ a ∈ l, opOk a = true) (h3 : Sorted l) (h4 : NoMix l) : opsValid l = true := by
  refine opsValid_yes l h1 fun j hj => ?_
  unfold okJ
  rw [getD_at l j hj, h2 _ (List.getElem_mem hj)]
  rcases Nat.eq_zero_or_pos j with h0 | h0
  · subst h0; rfl
  · have hp := sorted_idx h3 hj (show j - 1 < j by omega)
    rw [getD_at l (j - 1) (by omega), opLt_ref, hp]
    have hne : ¬((l[j - 1].name.toList == l[j].name.toList && (clsOp l[j - 1].typ == 2 && clsOp l[j].typ == 3)) = true) := by
      intro hh
      simp only [Bool.and_eq_true, beq_iff_eq] at hh
      exact h4 _ (List.getElem_mem _) _ (List.getElem_mem hj) hh.1 hh.2
    rw [Bool.not_eq_true] at hne
    rw [hne]; simp
theorem valid_all {l : List OpR} (h : opsValid l = true) : ∀ a ∈ l, opOk a = true := by
  intro a ha
  obtain ⟨j, hj, rfl⟩ := List.getElem_of_mem ha
  exact valid_ok h j hj
theorem find_one {l : List OpR} (hs : Sorted l) {name : ByteArray} {c : Int} {a : OpR} (ha : a ∈ l) (hi : isOp name c a = true) : l.find? (isOp name c) = some a := by
  cases hf : l.find? (isOp name c) with
  | none => rw [List.find?_eq_none] at hf; exact absurd hi (hf a ha)
  | some b =>
    have hb := List.mem_of_find?_eq_some hf
    have hib := List.find?_some hf
    unfold isOp at hi hib
    simp only [Bool.and_eq_true, beq_iff_eq] at hi hib
    obtain ⟨i, hi1, rfl⟩ := List.getElem_of_mem ha
    obtain ⟨j, hj1, rfl⟩ := List.getElem_of_mem hb
    rcases Nat.lt_trichotomy i j with hij | hij | hij
    · have := bef_cls (sorted_idx hs hj1 hij) (hi.1.trans hib.1.symm)
      omega
    · subst hij; rfl
    · have := bef_cls (sorted_idx hs hi1 hij) (hib.1.trans hi.1.symm)
      omega
theorem mem_rest {o a : OpR} {l : List OpR} : a ∈ restL o l ↔ a ∈ l ∧ eqOp o a = false := by
  unfold restL
  rw [List.mem_filter]
  simp
theorem mem_new {o a : OpR} {l : List OpR} : a ∈ newL l o ↔ (0 < o.prec ∧ a = o) ∨ (a ∈ l ∧ eqOp o a = false) := by
  unfold newL
  split
  · rename_i h
    rw [(insO_perm o (restL o l)).mem_iff, List.mem_cons, mem_rest]
    simp [h]
  · rename_i h
    rw [mem_rest]
    simp [h]
theorem sorted_ins {o : OpR} : ∀ {t : List OpR}, Sorted t → (∀ a ∈ t, eqOp o a = false) → Sorted (insO o t)
  | [], _, _ => by unfold insO Sorted; simp
  | a :: t, h, hne => by
    unfold Sorted at h ⊢
    rw [List.pairwise_cons] at h
    unfold insO
    split
    · rename_i hc
      rw [List.pairwise_cons]
      refine ⟨fun b hb => ?_, List.pairwise_cons.2 h⟩
      rcases List.mem_cons.1 hb with rfl | hb
      · exact (cmp_bef _ _).1 hc
      · exact bef_trans ((cmp_bef _ _).1 hc) (h.1 b hb)
    · rename_i hc
      rw [List.pairwise_cons]
      refine ⟨fun b hb => ?_, sorted_ins h.2 fun b hb => hne b (by simp [hb])⟩
      rcases List.mem_cons.1 ((insO_perm o t).mem_iff.1 hb) with rfl | hb
      · have h1 : befOp b a = false := by rw [← Bool.not_eq_true, ← cmp_bef]; exact hc
        have h2 : eqOp a b = false := by
          have := hne a (by simp)
          rw [← Bool.not_eq_true, eqOp_iff] at this ⊢
          exact fun hh => this ⟨hh.1.symm, hh.2.symm⟩
        exact bef_tri h1 h2
      · exact h.1 b hb
theorem sorted_new {l : List OpR} (h : Sorted l) (o : OpR) : Sorted (newL l o) := by
  unfold newL
  split
  · exact sorted_ins (h.rest o) (rest_ne o l)
  · exact h.rest o
/-- What Set asks, when it sets. -/
structure Sets (l : List OpR) (o : OpR) : Prop where
  val : opsValid l = true
  p0 : 0 ≤ o.prec
  p1 : o.prec ≤ 1200
  cls : clsOp o.typ ≠ 0
  sz : o.name.size ≤ 100
  fix : fixedS l o = false
  len : (newL l o).length ≤ 100
theorem findR_valid {l : List OpR} (h : opsValid l = true) (name : ByteArray) (c : Int) : findR l name c = l.find? (isOp name c) := by unfold findR; rw [h]; rfl
/-- The operator itself is a valid one. -/
theorem Sets.ok {l : List OpR} {o : OpR} (h : Sets l o) (hp : 0 < o.prec) : opOk o = true := by
  have h1 := h.p1; have h2 := h.cls; have h3 := h.sz
  have hf := h.fix
  unfold fixedS at hf
  unfold opOk
  grind
theorem Sets.mix {l : List OpR} {o b : OpR} (h : Sets l o) (hp : 0 < o.prec) (hc : clsOp o.typ ≠ 1) (hb : b ∈ l) (hn : b.name.toList = o.name.toList) : clsOp b.typ ≠ 5 - clsOp o.typ := by
  intro hcb
  have hf := h.fix
  unfold fixedS at hf
  have hnone : (findR l o.name (5 - clsOp o.typ)).isSome = false := by grind
  rw [findR_valid h.val, find_one (sorted_valid h.val) hb (by unfold isOp; simp [hn, hcb])] at hnone
  cases hnone
theorem Sets.valid {l : List OpR} {o : OpR} (h : Sets l o) : opsValid (newL l o) = true := by
  refine valid_of h.len (fun a ha => ?_) (sorted_new (sorted_valid h.val) o) ?_
  · rcases mem_new.1 ha with ⟨hp, rfl⟩ | ⟨ha, _⟩
    · exact h.ok hp
    · exact valid_all h.val a ha
  · intro a ha b hb hn hh
    rcases mem_new.1 ha with ⟨hp, ea⟩ | ⟨la, _⟩ <;> rcases mem_new.1 hb with ⟨hp2, eb⟩ | ⟨lb, _⟩
    · rw [ea, eb] at hh; omega
    · rw [ea] at hn hh; exact h.mix hp (by omega) lb hn.symm (by omega)
    · rw [eb] at hn hh; exact h.mix hp2 (by omega) la hn (by omega)
    · exact nomix_valid h.val a la b lb hn hh
/-- Other names and classes. -/
theorem Sets.other {l : List OpR} {o : OpR} (h : Sets l o) (name : ByteArray) (c : Int) (hne : ¬(c = clsOp o.typ ∧ name.toList = o.name.toList)) : findR (newL l o) name c = findR l name c := by
  rw [findR_valid h.valid, findR_valid h.val]
  have key : ∀ a, isOp name c a = true → eqOp o a = false := by
    intro a ha
    rw [← Bool.not_eq_true, eqOp_iff]
    unfold isOp at ha
    simp only [Bool.and_eq_true, beq_iff_eq] at ha
    exact fun hh => hne ⟨ha.2.symm.trans hh.2, ha.1.symm.trans hh.1⟩
  cases hf : l.find? (isOp name c) with
  | some a =>
    have hi := List.find?_some hf
    exact find_one (sorted_new (sorted_valid h.val) o) (mem_new.2 (.inr ⟨List.mem_of_find?_eq_some hf, key a hi⟩)) hi
  | none =>
    rw [List.find?_eq_none] at hf ⊢
    intro a ha
    rcases mem_new.1 ha with ⟨_, rfl⟩ | ⟨ha, _⟩
    · intro hi
      have h1 := key a hi
      rw [← Bool.not_eq_true, eqOp_iff] at h1
      exact h1 ⟨rfl, rfl⟩
    · exact hf a ha
end Hb
namespace Hb
open Go Go.RowKit
theorem ins_app {o x : OpR} : ∀ {t : List OpR}, (∃ a ∈ t, befOp o a = true) → insO o (t ++ [x]) = insO o t ++ [x]
  | [], h => by obtain ⟨a, ha, _⟩ := h; cases ha
  | a :: t, h => by
    by_cases hc : cmpOp o a < 0
    · rw [List.cons_append]; unfold insO; rw [if_pos hc, if_pos hc]; rfl
    · rw [List.cons_append]; unfold insO; rw [if_neg hc, if_neg hc]
      rw [ins_app (t := t)]
      · rfl
      · obtain ⟨b, hb, hbf⟩ := h
        rcases List.mem_cons.1 hb with rfl | hb
        · exact absurd ((cmp_bef _ _).2 hbf) hc
        · exact ⟨b, hb, hbf⟩
theorem ins_none {o : OpR} : ∀ {t : List OpR}, (∀ a ∈ t, befOp o a = false) → insO o t = t ++ [o]
  | [], _ => rfl
  | a :: t, h => by
    unfold insO
    rw [if_neg (by rw [cmp_bef, h a (by simp)]; simp), ins_none fun b hb => h b (by simp [hb])]
    rfl
theorem ins_here {o x : OpR} (hx : befOp o x = true) : ∀ {t : List OpR}, (∀ a ∈ t, befOp o a = false) → insO o (t ++ [x]) = t ++ [o] ++ [x]
  | [], _ => by
    show (if cmpOp o x < 0 then o :: x :: [] else x :: insO o []) = _
    rw [if_pos ((cmp_bef _ _).2 hx)]; rfl
  | a :: t, h => by
    rw [List.cons_append]
    unfold insO
    rw [if_neg (by rw [cmp_bef, h a (by simp)]; simp), ins_here hx fun b hb => h b (by simp [hb])]
    rfl
/-- What lies in out: the operators put in so far. -/
def withL (o : OpR) (l : List OpR) (k : Nat) (dn : Bool) : List OpR := if dn = true then insO o (l.take k) else l.take k
structure Withs (o : OpR) (l : List OpR) (k : Nat) (dn : Bool) : Prop where
  yes : dn = true → ∃ a ∈ l.take k, befOp o a = true
  no : dn = false → ∀ a ∈ l.take k, befOp o a = false
theorem Withs.start (o : OpR) (l : List OpR) : Withs o l 0 false := ⟨fun h => by (cases h), fun _ a h => by simp at h⟩
theorem mem_take {l : List OpR} {k : Nat} {a : OpR} (hk : k < l.length) : a ∈ l.take (k + 1) ↔ a ∈ l.take k ∨ a = l[k] := by
  rw [List.take_succ_eq_append_getElem hk, List.mem_append, List.mem_singleton]
theorem Withs.done {o : OpR} {l : List OpR} {k : Nat} (h : Withs o l k true) (hk : k < l.length) : Withs o l (k + 1) true ∧ withL o l (k + 1) true = withL o l k true ++ [l[k]] := by
  obtain ⟨a, ha, hb⟩ := h.yes rfl
  refine ⟨⟨fun _ => ⟨a, (mem_take hk).2 (.inl ha), hb⟩, fun h => by (cases h)⟩, ?_⟩
  unfold withL
  rw [if_pos rfl, if_pos rfl, List.take_succ_eq_append_getElem hk, ins_app ⟨a, ha, hb⟩]
theorem Withs.skip {o : OpR} {l : List OpR} {k : Nat} (h : Withs o l k false) (hk : k < l.length) (hb : befOp o l[k] = false) : Withs o l (k + 1) false ∧ withL o l (k + 1) false = withL o l k false ++ [l[k]] := by
  refine ⟨⟨fun h => by (cases h), fun _ a ha => ?_⟩, ?_⟩
  · rcases (mem_take hk).1 ha with ha | rfl
    · exact h.no rfl a ha
    · exact hb
  · unfold withL
    rw [if_neg (by simp), if_neg (by simp), List.take_succ_eq_append_getElem hk]
theorem Withs.put {o : OpR} {l : List OpR} {k : Nat} (h : Withs o l k false) (hk : k < l.length) (hb : befOp o l[k] = true) : Withs o l (k + 1) true ∧ withL o l (k + 1) true = withL o l k false ++ [o] ++ [l[k]] := by
  refine ⟨⟨fun _ => ⟨_, (mem_take hk).2 (.inr rfl), hb⟩, fun h => by (cases h)⟩, ?_⟩
  unfold withL
  rw [if_pos rfl, if_neg (by simp), List.take_succ_eq_append_getElem hk, ins_here hb (h.no rfl)]
theorem withL_len {o : OpR} {l : List OpR} {k : Nat} {dn : Bool} (hk : k ≤ l.length) : (withL o l k dn).length ≤ l.length + 1 := by
  unfold withL
  split
  · rw [insO_len, List.length_take]; omega
  · rw [List.length_take]; omega
theorem own_nat {w : World} {base e m : Nat} {v : Value} {l : List OpR} (h : w.ownsRow base e 3 v m (opsCells l)) : w.ownsRow base e 3 v l.length (opsCells l) := by
  have := own_len h
  rw [this]; exact h
end Hb
namespace Go.Proofs.YtgapnafkelokaaaGreatDoor
open Go.RowKit Hb
set_option maxRecDepth 100000
set_option maxHeartbeats 6400000 in
theorem ref_with (A : Option Addr) (n cap : Nat) (l : List OpR) (o : OpR) (w : World) (hm : n ≤ 400) (hT : Tab w A n cap l) :
    Calls Tryz.prog 98 #[.slice A n cap, opV o] w fun e w' => ∃ A' n' cap', e = .returned (.slice A' n' cap') ∧ Below w.heap.size w w' ∧ Tab w' A' n' cap' (insO o l) := by
  obtain ⟨W0, hW0⟩ : ∃ W0, W0 = w.alloc (.cells #[.string o.name, .int .i64 o.typ, .int .i64 o.prec] 80) := ⟨_, rfl⟩
  have hX0 : BoxAt w W0 o := by rw [hW0]; exact BoxAt.start w o 80
  have HN := Lib.hid hT.len
  have HP := Lib.hid (hT.ops.below hX0.bel)
  have HBOX : Hid (∀ W, Below W0.heap.size W0 W → W.cell? ⟨w.heap.size, 0, none⟩ = some (.string o.name) ∧ W.cell? ⟨w.heap.size, 1, none⟩ = some (.int .i64 o.typ) ∧ W.cell? ⟨w.heap.size, 2, none⟩ = some (.int .i64 o.prec) ∧ w.heap.size < W.heap.size) := Lib.hid fun W hB => by
    have h := hX0.call hB
    exact ⟨h.c0, h.c1, h.c2, h.lt⟩
  have HWB : Hid (∀ W, Below W0.heap.size W0 W → Below w.heap.size w W) := Lib.hid fun W hB => (hX0.call hB).bel
  have hst : Below W0.heap.size W0 (w.alloc (.cells #[.string o.name, .int .i64 o.typ, .int .i64 o.prec] 80)) := by rw [← hW0]; exact Below.refl _ _
  have mixed : Tryz.prog.follows Departure.mixedOrders = true := by kernel_rfl
  have HX := Lib.hid (fun a W => ref_before_up o a W)
  clear hT hX0 hW0
  unfold opV at *
  go_enter Tryz.func98, Tryz.ntmps98
  go_wp2_with fail
  go_loopw [5, 6, 7] (fun v d i wr => ∃ (k : Nat) (dn : Bool), k ≤ n ∧ d = .bool dn ∧ i = .int .i64 k ∧ Below W0.heap.size W0 wr ∧ Hid (Withs o l k dn) ∧ Hid (wr.ownsRow W0.heap.size 80 3 v (withL o l k dn).length (opsCells (withL o l k dn)))) (fun _ _ i _ => n - (intOf i).toNat)
  case atStart => exact ⟨0, false, Nat.zero_le _, rfl, rfl, hst, Lib.hid (Withs.start o l), Lib.hid (World.ownsRow_nil _ _ _ _)⟩
  case round =>
    obtain ⟨k, dn, hk, rfl, rfl, hB, HWI, HO⟩ := hrel
    have hbs := hB.size
    have hln : (withL o l k dn).length ≤ 70368744 := by have := withL_len (o := o) (l := l) (k := k) (dn := dn) (by have := HN.out; omega); have := HN.out; omega
    by_cases hlt : k < n
    · have hkl : k < l.length := by have := HN.out; omega
      obtain ⟨b, off, rfl, hb0, C0, C1, C2⟩ := HP.out k hkl
      have HCE : Hid (∀ W, Below W0.heap.size W0 W → W.cell? ⟨b, off + k * 3, none⟩ = some (.string l[k].name) ∧ W.cell? ⟨b, off + k * 3 + 1, none⟩ = some (.int .i64 l[k].typ) ∧ W.cell? ⟨b, off + k * 3 + 2, none⟩ = some (.int .i64 l[k].prec) ∧ b < W.heap.size) := Lib.hid fun W h =>
        ⟨(h.cell (p := ⟨b, _, none⟩) hb0).trans C0, (h.cell (p := ⟨b, _, none⟩) hb0).trans C1, (h.cell (p := ⟨b, _, none⟩) hb0).trans C2, Nat.lt_of_lt_of_le hb0 h.size⟩
      clear C0 C1 C2
      have HD1 := Lib.hid (fun (h : Withs o l k true) => h.done hkl)
      have HD2 := Lib.hid (fun (h : Withs o l k false) (hb : befOp o l[k] = false) => h.skip hkl hb)
      have HD3 := Lib.hid (fun (h : Withs o l k false) (hb : befOp o l[k] = true) => h.put hkl hb)
      have hk0 : (0 : Int) ≤ (k : Int) := by omega
      have hk1 : (k : Int) < (n : Int) := by omega
      generalize l[k] = a at *
      cases dn
      · have HCX : Hid (∀ n os, Calls Tryz.prog 42 #[.agg #[.string o.name, .int .i64 o.typ, .int .i64 o.prec], .agg #[.string a.name, .int .i64 a.typ, .int .i64 a.prec]] (Sort.grow (wr.drewN n) os) fun e w' => e = .returned (.bool (befOp o a)) ∧ ∃ q os', w' = Sort.grow ((Sort.grow (wr.drewN n) os).drewN q) os') := Lib.hid fun n os => HX.out a _
        obtain ⟨z0, z1, z2, zl⟩ := HBOX.out wr hB
        obtain ⟨y0, y1, y2, yl⟩ := HCE.out wr hB
        have q0 : ∀ n os, (Sort.grow (wr.drewN n) os).cell? ⟨w.heap.size, 0, none⟩ = some (.string o.name) := cell_grown zl z0
        have q1 : ∀ n os, (Sort.grow (wr.drewN n) os).cell? ⟨w.heap.size, 1, none⟩ = some (.int .i64 o.typ) := cell_grown zl z1
        have q2 : ∀ n os, (Sort.grow (wr.drewN n) os).cell? ⟨w.heap.size, 2, none⟩ = some (.int .i64 o.prec) := cell_grown zl z2
        have r0 : ∀ n os, (Sort.grow (wr.drewN n) os).cell? ⟨b, off + k * 3, none⟩ = some (.string a.name) := cell_grown yl y0
        have r1 : ∀ n os, (Sort.grow (wr.drewN n) os).cell? ⟨b, off + k * 3 + 1, none⟩ = some (.int .i64 a.typ) := cell_grown yl y1
        have r2 : ∀ n os, (Sort.grow (wr.drewN n) os).cell? ⟨b, off + k * 3 + 2, none⟩ = some (.int .i64 a.prec) := cell_grown yl y2
        clear z0 z1 z2 y0 y1 y2
        cases hbf : befOp o a
        · rw [hbf] at HCX
          have HI := Lib.hid (HD2.out HWI.out hbf)
          clear hbf HD1 HD2 HD3
          go_wp2_with fail
          refine wp_region_quiet_grown (by assumption) (by kernel_rfl) ?_
          with_reducible refine wpQuiet_run (by kernel_rfl) (fun K hK => ?_)
          go_simp
          refine hK _ ?_
          clear hK K
          with_reducible refine wpQuiet_run (by kernel_rfl) (fun K hK => ?_)
          go_simp
          refine hK _ ?_
          clear hK K
          with_reducible refine wpQuiet_run (by kernel_rfl) (fun K hK => ?_)
          go_simp
          refine hK _ ?_
          clear hK K
          with_reducible refine wpQuiet_run (by kernel_rfl) (fun K hK => ?_)
          go_simp
          refine hK _ ?_
          clear hK K
          with_reducible refine wpQuiet_run (by kernel_rfl) (fun K hK => ?_)
          go_simp
          refine hK _ ?_
          clear hK K
          with_reducible refine wpQuiet_run (by kernel_rfl) (fun K hK => ?_)
          go_simp
          refine hK _ ?_
          clear hK K
          with_reducible refine wpQuiet_run (by kernel_rfl) (fun K hK => ?_)
          go_simp
          refine hK _ ?_
          clear hK K
          with_reducible refine wpQuiet_run (by kernel_rfl) (fun K hK => ?_)
          go_simp
          refine hK _ ?_
          clear hK K
          with_reducible refine wpQuiet_run (by kernel_rfl) (fun K hK => ?_)
          go_simp
          apply Exists.intro
          refine ⟨fun _ => ?_, hK _ ?_⟩
          (go_at_call 42; (with_reducible refine Calls.grown_of (HCX.out _ _)))
          clear hK K
          with_reducible refine wpQuiet_run (by kernel_rfl) (fun K hK => ?_)
          go_simp
          refine hK _ ?_
          clear hK K
          refine wpQuiet_nil ?_
          intro _ hw'
          obtain ⟨⟨nq, osq⟩, hw''⟩ := hw'
          subst hw''
          have hBg := bl_grow wr nq osq
          have HO6 := Lib.hid (own_belowO HO.out hBg)
          have hB6 := hB.trans (hBg.mono hbs)
          generalize Sort.grow (wr.drewN nq) osq = w6 at *
          clear q0 q1 q2 r0 r1 r2 HCX
          obtain ⟨y0, y1, y2, _⟩ := HCE.out w6 hB6
          have hb6 := hB6.size
          go_wp2_with ((with_reducible refine at_appOO ?_); go_must (refine wpList_append_op rfl _ _ rfl W0.heap.size _ _ _ rfl _ HO6.out a rfl rfl hln hb6 ?_; intro v1 w7 hown7 hB7 hg7))
          have HO7 := Lib.hid hown7
          clear hown7
          go_roundw
          case rel => exact ⟨k + 1, false, by omega, rfl, by go_num, hB6.trans hB7, Lib.hid HI.out.1, by rw [HI.out.2]; exact Lib.hid (own_nat HO7.out)⟩
          case measure => simp [intOf] <;> omega
        · rw [hbf] at HCX
          have HI := Lib.hid (HD3.out HWI.out hbf)
          clear hbf HD1 HD2 HD3
          go_wp2_with fail
          refine wp_region_quiet_grown (by assumption) (by kernel_rfl) ?_
          with_reducible refine wpQuiet_run (by kernel_rfl) (fun K hK => ?_)
          go_simp
          refine hK _ ?_
          clear hK K
          with_reducible refine wpQuiet_run (by kernel_rfl) (fun K hK => ?_)
          go_simp
          refine hK _ ?_
          clear hK K
          with_reducible refine wpQuiet_run (by kernel_rfl) (fun K hK => ?_)
          go_simp
          refine hK _ ?_
          clear hK K
          with_reducible refine wpQuiet_run (by kernel_rfl) (fun K hK => ?_)
          go_simp
          refine hK _ ?_
          clear hK K
          with_reducible refine wpQuiet_run (by kernel_rfl) (fun K hK => ?_)
          go_simp
          refine hK _ ?_
          clear hK K
          with_reducible refine wpQuiet_run (by kernel_rfl) (fun K hK => ?_)
          go_simp
          refine hK _ ?_
          clear hK K
          with_reducible refine wpQuiet_run (by kernel_rfl) (fun K hK => ?_)
          go_simp
          refine hK _ ?_
          clear hK K
          with_reducible refine wpQuiet_run (by kernel_rfl) (fun K hK => ?_)
          go_simp
          refine hK _ ?_
          clear hK K
          with_reducible refine wpQuiet_run (by kernel_rfl) (fun K hK => ?_)
          go_simp
          apply Exists.intro
          refine ⟨fun _ => ?_, hK _ ?_⟩
          (go_at_call 42; (with_reducible refine Calls.grown_of (HCX.out _ _)))
          clear hK K
          with_reducible refine wpQuiet_run (by kernel_rfl) (fun K hK => ?_)
          go_simp
          refine hK _ ?_
          clear hK K
          refine wpQuiet_nil ?_
          intro _ hw'
          obtain ⟨⟨nq, osq⟩, hw''⟩ := hw'
          subst hw''
          have hBg := bl_grow wr nq osq
          have HO6 := Lib.hid (own_belowO HO.out hBg)
          have hB6 := hB.trans (hBg.mono hbs)
          generalize Sort.grow (wr.drewN nq) osq = w6 at *
          clear q0 q1 q2 r0 r1 r2 HCX
          obtain ⟨z0, z1, z2, _⟩ := HBOX.out w6 hB6
          have hb6 := hB6.size
          have hln2 : (withL o l k false).length + 1 ≤ 70368744 := by have := withL_len (o := o) (l := l) (k := k) (dn := false) (by have := HN.out; omega); have := HN.out; omega
          go_wp2_with (first
            | ((with_reducible refine at_appOO ?_); have _m := HO7; refine wpList_append_op rfl _ _ rfl W0.heap.size _ _ _ rfl _ HO7.out a rfl rfl hln2 hb7 ?_; intro v2 w8 hown8 hB8 hg8)
            | ((with_reducible refine at_appOO ?_); go_must (refine wpList_append_op rfl _ _ rfl W0.heap.size _ _ _ rfl _ HO6.out o rfl rfl hln hb6 ?_; intro v1 w7 hown7 hB7 hg7; have HO7 := Lib.hid hown7; clear hown7; have hB67 := hB6.trans hB7; obtain ⟨y0, y1, y2, _⟩ := HCE.out w7 hB67; have hb7 := hB67.size)))
          have HO8 := Lib.hid hown8
          clear hown8
          go_roundw
          case rel => exact ⟨k + 1, true, by omega, rfl, by go_num, hB67.trans hB8, Lib.hid HI.out.1, by rw [HI.out.2]; exact Lib.hid (own_nat HO8.out)⟩
          case measure => simp [intOf] <;> omega
      · have HI := Lib.hid (HD1.out HWI.out)
        clear HD1 HD2 HD3
        go_wp2_with fail
        refine wp_region_quiet_grown (by assumption) (by kernel_rfl) ?_
        with_reducible refine wpQuiet_run (by kernel_rfl) (fun K hK => ?_)
        go_simp
        refine hK _ ?_
        clear hK K
        with_reducible refine wpQuiet_run (by kernel_rfl) (fun K hK => ?_)
        go_simp
        refine hK _ ?_
        clear hK K
        with_reducible refine wpQuiet_run (by kernel_rfl) (fun K hK => ?_)
        go_simp
        refine hK _ ?_
        clear hK K
        with_reducible refine wpQuiet_skip (by kernel_rfl) ?_
        simp only [Act.put, List.setIfInBounds_toArray, List.set_cons_zero, List.set_cons_succ]
        with_reducible refine wpQuiet_skip (by kernel_rfl) ?_
        simp only [Act.put, List.setIfInBounds_toArray, List.set_cons_zero, List.set_cons_succ]
        with_reducible refine wpQuiet_skip (by kernel_rfl) ?_
        simp only [Act.put, List.setIfInBounds_toArray, List.set_cons_zero, List.set_cons_succ]
        with_reducible refine wpQuiet_skip (by kernel_rfl) ?_
        simp only [Act.put, List.setIfInBounds_toArray, List.set_cons_zero, List.set_cons_succ]
        with_reducible refine wpQuiet_skip (by kernel_rfl) ?_
        simp only [Act.put, List.setIfInBounds_toArray, List.set_cons_zero, List.set_cons_succ]
        with_reducible refine wpQuiet_skip (by kernel_rfl) ?_
        simp only [Act.put, List.setIfInBounds_toArray, List.set_cons_zero, List.set_cons_succ]
        with_reducible refine wpQuiet_run (by kernel_rfl) (fun K hK => ?_)
        go_simp
        refine hK _ ?_
        clear hK K
        refine wpQuiet_nil ?_
        intro _ hw'
        obtain ⟨⟨nq, osq⟩, hw''⟩ := hw'
        subst hw''
        have hBg := bl_grow wr nq osq
        have HO6 := Lib.hid (own_belowO HO.out hBg)
        have hB6 := hB.trans (hBg.mono hbs)
        generalize Sort.grow (wr.drewN nq) osq = w6 at *
        obtain ⟨y0, y1, y2, _⟩ := HCE.out w6 hB6
        have hb6 := hB6.size
        go_wp2_with ((with_reducible refine at_appOO ?_); go_must (refine wpList_append_op rfl _ _ rfl W0.heap.size _ _ _ rfl _ HO6.out a rfl rfl hln hb6 ?_; intro v1 w7 hown7 hB7 hg7))
        have HO7 := Lib.hid hown7
        clear hown7
        go_roundw
        case rel => exact ⟨k + 1, true, by omega, rfl, by go_num, hB6.trans hB7, Lib.hid HI.out.1, by rw [HI.out.2]; exact Lib.hid (own_nat HO7.out)⟩
        case measure => simp [intOf] <;> omega
    · have hkn : l.take k = l := List.take_of_length_le (by have := HN.out; omega)
      cases dn
      · have HIN : Hid (insO o l = l ++ [o]) := Lib.hid (ins_none fun a ha => HWI.out.no rfl a (by rw [hkn]; exact ha))
        have hwl : withL o l k false = l := by unfold withL; rw [if_neg (by simp), hkn]
        rw [hwl] at HO hln
        obtain ⟨z0, z1, z2, _⟩ := HBOX.out wr hB
        clear hwl
        go_wp2_with ((with_reducible refine at_appOO ?_); go_must (refine wpList_append_op rfl _ _ rfl W0.heap.size _ _ _ rfl _ HO.out o rfl rfl hln hbs ?_; intro v1 w7 hown7 hB7 hg7))
        rw [← HIN.out] at hown7
        obtain ⟨A', cap', rfl⟩ := own_sliceO hown7
        have HTT := Lib.hid (Tab.own hown7)
        have hBw := HWB.out _ (hB.trans hB7)
        clear hown7
        go_ret
        first | exact ⟨A', _, cap', rfl, hBw, HTT.out⟩ | exact ⟨A', _, ⟨cap', rfl⟩, hBw, HTT.out⟩
      · have hwl : withL o l k true = insO o l := by unfold withL; rw [if_pos rfl, hkn]
        rw [hwl] at HO
        obtain ⟨A', cap', rfl⟩ := own_sliceO HO.out
        have HTT := Lib.hid (Tab.own HO.out)
        have hBw := HWB.out _ hB
        clear hwl HO hkn
        go_wp2_with fail
        go_ret
        first | exact ⟨A', _, cap', rfl, hBw, HTT.out⟩ | exact ⟨A', _, ⟨cap', rfl⟩, hBw, HTT.out⟩
end Go.Proofs.YtgapnafkelokaaaGreatDoor
namespace Go.Proofs.YtgapnafkelokaaaGreatDoor
open Go.RowKit Hb
set_option maxRecDepth 100000
set_option maxHeartbeats 3200000 in
theorem ref_find (A : Option Addr) (n cap : Nat) (l : List OpR) (c : Int) (name : ByteArray) (w : World) (hm : n ≤ 400) (hT : Tab w A n cap l) :
    Calls Tryz.prog 45 #[.slice A n cap, .int .i64 c, .string name] w fun e w' => e = .returned (.tuple #[opV ((findR l name c).getD op0), .bool (findR l name c).isSome]) ∧ Below w.heap.size w w' := by
  have hX := R3.start w 80
  have HT0 := Lib.hid (hT.below hX.bel)
  have HT := Lib.hid hT
  have HV := Lib.hid (ref_valid A n cap l _ HT0.out.len hm HT0.out.ops)
  clear hT
  cases hv : opsValid l
  · rw [hv] at HV
    have HF := Lib.hid (show findR l name c = none by unfold findR; rw [hv]; rfl)
    clear hv
    go_enter Tryz.func45, Tryz.ntmps45
    go_wp2_with fail
    refine HV.out.mono ?_; rintro e w1 ⟨rfl, hB1⟩
    have hY := hX.call hB1
    obtain ⟨v0, r0⟩ := hY.r0
    obtain ⟨v1, r1⟩ := hY.r1
    obtain ⟨v2, r2⟩ := hY.r2
    have fr := hY.fr
    have fr0 := fr 0
    go_wp2_with fail
    refine bodyPost_ret (v := .tuple #[opV op0, .bool false]) (by simp [opV, op0, results, Tryz.results45, go_sem, r0, r1, r2]) rfl ⟨by rw [HF.out]; rfl, hY.put _ _ _⟩
  · rw [hv] at HV
    have HF := Lib.hid (show findR l name c = l.find? (isOp name c) by unfold findR; rw [hv]; rfl)
    clear hv
    have HN := Lib.hid HT.out.len
    go_enter Tryz.func45, Tryz.ntmps45
    go_wp2_with fail
    refine HV.out.mono ?_; rintro e w1 ⟨rfl, hB1⟩
    have hY := Lib.hid (hX.call hB1)
    go_wp2_with fail
    go_loopw [8] (fun i wr => ∃ k : Nat, k ≤ n ∧ i = .int .i64 k ∧ Hid (R3 w wr) ∧ Hid (∀ j (hj : j < l.length), j < k → isOp name c l[j] = false)) (fun i _ => n - (intOf i).toNat)
    case atStart => exact ⟨0, Nat.zero_le _, rfl, hY, Lib.hid fun j _ hj => absurd hj (by omega)⟩
    case round =>
      clear hX hY HV HT0
      obtain ⟨k, hk, rfl, HY, HA⟩ := hrel
      by_cases hlt : k < n
      · have hkl : k < l.length := by have := HN.out; omega
        obtain ⟨b, off, rfl, hb, c0, c1, c2⟩ := (HT.out.ops.below HY.out.bel) k hkl
        have HH := Lib.hid (fun h => HF.out.trans (find_hit (isOp name c) l k hkl h (fun j hj => HA.out j (by omega) hj)))
        have HR := Lib.hid (fun (h : isOp name c l[k] = false) => (show ∀ j (hj : j < l.length), j < k + 1 → isOp name c l[j] = false from fun j hj hjk => by
          rcases Nat.lt_or_ge j k with h' | h'
          · exact HA.out j hj h'
          · have : j = k := by omega
            subst this; exact h))
        generalize l[k] = a at *
        have HC := Lib.hid (ref_classO a.typ)
        by_cases hcl : clsOp a.typ = c
        · have e1 : (clsOp a.typ == c) = true := by simpa using hcl
          by_cases hnm : a.name.toList = name.toList
          · have HI : Hid (isOp name c a = true) := by unfold isOp; refine Lib.hid ?_; simp [hnm, hcl]
            have HE := Lib.hid (HH.out HI.out)
            have e2 : (a.name.toList == name.toList) = true := by simpa using hnm
            have hY := HY.out
            obtain ⟨v0, r0⟩ := hY.r0
            obtain ⟨v1, r1⟩ := hY.r1
            obtain ⟨v2, r2⟩ := hY.r2
            have fr := hY.fr
            have fr0 := fr 0
            go_wp2_with fail
            refine (HC.out _).mono ?_; rintro e w2 ⟨rfl, rfl⟩
            go_wp2_with fail
            refine bodyPost_ret (v := .tuple #[opV a, .bool true]) (by simp [opV, results, Tryz.results45, go_sem, r0, r1, r2]) rfl ⟨by rw [HE.out]; rfl, hY.put _ _ _⟩
          · have HI : Hid (isOp name c a = false) := by unfold isOp; refine Lib.hid ?_; simp [hnm]
            have e2 : (a.name.toList == name.toList) = false := by simpa using hnm
            go_wp2_with fail
            refine (HC.out _).mono ?_; rintro e w2 ⟨rfl, rfl⟩
            go_wp2_with fail
            go_roundw
            case rel => exact ⟨k + 1, by omega, by go_num, HY, Lib.hid (HR.out HI.out)⟩
            case measure => simp [intOf] <;> omega
        · have HI : Hid (isOp name c a = false) := by unfold isOp; refine Lib.hid ?_; simp [hcl]
          have e1 : (clsOp a.typ == c) = false := by simpa using hcl
          go_wp2_with fail
          refine (HC.out _).mono ?_; rintro e w2 ⟨rfl, rfl⟩
          go_wp2_with fail
          go_roundw
          case rel => exact ⟨k + 1, by omega, by go_num, HY, Lib.hid (HR.out HI.out)⟩
          case measure => simp [intOf] <;> omega
      · have HE := Lib.hid (HF.out.trans (find_miss (isOp name c) l (fun j hj => HA.out j hj (by have := HN.out; omega))))
        have hY := HY.out
        obtain ⟨v0, r0⟩ := hY.r0
        obtain ⟨v1, r1⟩ := hY.r1
        obtain ⟨v2, r2⟩ := hY.r2
        have fr := hY.fr
        have fr0 := fr 0
        go_wp2_with fail
        refine bodyPost_ret (v := .tuple #[opV op0, .bool false]) (by simp [opV, op0, results, Tryz.results45, go_sem, r0, r1, r2]) rfl ⟨by rw [HE.out]; rfl, hY.put _ _ _⟩
theorem ref_find_tab {w : World} {A : Option Addr} {n cap : Nat} {l : List OpR} (hT : Tab w A n cap l) (hm : n ≤ 400) (c : Int) (name : ByteArray) :
    Calls Tryz.prog 45 #[.slice A n cap, .int .i64 c, .string name] w fun e w' => e = .returned (.tuple #[.agg #[.string ((findR l name c).getD op0).name, .int .i64 ((findR l name c).getD op0).typ, .int .i64 ((findR l name c).getD op0).prec], .bool (findR l name c).isSome]) ∧ Below w.heap.size w w' :=
  ref_find A n cap l c name w hm hT
end Go.Proofs.YtgapnafkelokaaaGreatDoor
namespace Hb
open Go Go.RowKit
end Hb
namespace Go.Proofs.YtgapnafkelokaaaGreatDoor
open Go.RowKit Hb
set_option maxRecDepth 100000
end Go.Proofs.YtgapnafkelokaaaGreatDoor
namespace Go.Proofs.YtgapnafkelokaaaGreatDoor
open Go.RowKit Hb
set_option maxRecDepth 100000
end Go.Proofs.YtgapnafkelokaaaGreatDoor
namespace Go.Proofs.YtgapnafkelokaaaGreatDoor
open Go.RowKit Hb
set_option maxRecDepth 100000
end Go.Proofs.YtgapnafkelokaaaGreatDoor
namespace Go.Proofs.YtgapnafkelokaaaGreatDoor
open Go.RowKit Hb
set_option maxRecDepth 100000
end Go.Proofs.YtgapnafkelokaaaGreatDoor
namespace Hb
open Go Go.RowKit
/-- An operator in a block. -/
structure BoxG (w : World) (g : Nat) (o : OpR) : Prop where
  lt : g < w.heap.size
  c0 : w.cell? ⟨g, 0, none⟩ = some (.string o.name)
  c1 : w.cell? ⟨g, 1, none⟩ = some (.int .i64 o.typ)
  c2 : w.cell? ⟨g, 2, none⟩ = some (.int .i64 o.prec)
theorem BoxG.call {w w' : World} {g : Nat} {o : OpR} (h : BoxG w g o) (hB : Below w.heap.size w w') : BoxG w' g o where
  lt := Nat.lt_of_lt_of_le h.lt hB.size
  c0 := (hB.cell (p := ⟨_, _, none⟩) h.lt).trans h.c0
  c1 := (hB.cell (p := ⟨_, _, none⟩) h.lt).trans h.c1
  c2 := (hB.cell (p := ⟨_, _, none⟩) h.lt).trans h.c2
theorem BoxG.start (w : World) (o : OpR) (e : TypeId) : BoxG (w.alloc (.cells #[.string o.name, .int .i64 o.typ, .int .i64 o.prec] e)) w.heap.size o where
  lt := by simp
  c0 := World.cell?_alloc_new _ _ _ 0
  c1 := World.cell?_alloc_new _ _ _ 1
  c2 := World.cell?_alloc_new _ _ _ 2
theorem opOk_cls {o : OpR} (h : opOk o = true) : clsOp o.typ ≠ 0 := by
  unfold opOk at h
  grind
theorem findR_is {l : List OpR} (hv : opsValid l = true) (name : ByteArray) (c : Int) : (findR l name c).isSome = l.any (isOp name c) := by
  rw [findR_valid hv, Bool.eq_iff_iff, List.find?_isSome, List.any_eq_true]
theorem is_eq (l : List OpR) (name : ByteArray) : ((findR l name 1).isSome || (findR l name 2).isSome || (findR l name 3).isSome) = (opsValid l && l.any (isNm name)) := by
  cases hv : opsValid l
  · unfold findR; rw [hv]; rfl
  · rw [findR_is hv, findR_is hv, findR_is hv, Bool.true_and, Bool.eq_iff_iff]
    simp only [Bool.or_eq_true, List.any_eq_true]
    constructor
    · rintro ((⟨a, ha, h⟩ | ⟨a, ha, h⟩) | ⟨a, ha, h⟩) <;> exact ⟨a, ha, by unfold isOp at h; unfold isNm; rw [Bool.and_eq_true] at h; exact h.1⟩
    · rintro ⟨a, ha, h⟩
      have h0 := (opOk_cls (valid_all hv a ha))
      have h1 := cls_ge a.typ
      have h2 := cls_le a.typ
      unfold isNm at h
      have h3 : clsOp a.typ = 1 ∨ clsOp a.typ = 2 ∨ clsOp a.typ = 3 := by omega
      rcases h3 with h3 | h3 | h3
      · exact .inl (.inl ⟨a, ha, by unfold isOp; rw [h, h3]; rfl⟩)
      · exact .inl (.inr ⟨a, ha, by unfold isOp; rw [h, h3]; rfl⟩)
      · exact .inr ⟨a, ha, by unfold isOp; rw [h, h3]; rfl⟩
end Hb
namespace Go.Proofs.YtgapnafkelokaaaGreatDoor
open Go.RowKit Hb
set_option maxRecDepth 100000
set_option maxHeartbeats 3200000 in
theorem ref_isO (A : Option Addr) (n cap : Nat) (l : List OpR) (name : ByteArray) (w : World) (hm : n ≤ 400) (hT : Tab w A n cap l) :
    Calls Tryz.prog 24 #[.slice A n cap, .string name] w fun e w' => e = .returned (.bool (opsValid l && l.any (isNm name))) ∧ Below w.heap.size w w' := by
  rw [← is_eq]
  have H1 := Lib.hid (fun W (h : Below w.heap.size w W) => ref_find_tab (hT.below h) hm 1 name)
  have H2 := Lib.hid (fun W (h : Below w.heap.size w W) => ref_find_tab (hT.below h) hm 2 name)
  have H3 := Lib.hid (fun W (h : Below w.heap.size w W) => ref_find_tab (hT.below h) hm 3 name)
  clear hT
  generalize (findR l name 1).isSome = p1 at *
  generalize (findR l name 2).isSome = p2 at *
  generalize (findR l name 3).isSome = p3 at *
  generalize (findR l name 1).getD op0 = X1 at *
  generalize (findR l name 2).getD op0 = X2 at *
  generalize (findR l name 3).getD op0 = X3 at *
  cases p1 <;> cases p2
  all_goals
    go_enter Tryz.func24, Tryz.ntmps24
    go_wp2_with fail
    refine (H1.out w (Below.refl _ _)).mono ?_; rintro e w1 ⟨rfl, hB1⟩
    have hB1' := hB1.alloc hB1.size (.cells #[.string X1.name, .int .i64 X1.typ, .int .i64 X1.prec] 80)
    go_wp2_with fail
    refine (H2.out _ hB1').mono ?_; rintro e w2 ⟨rfl, hB2⟩
    have hB2a := hB1'.trans (hB2.mono hB1'.size)
    have hB2' := hB2a.alloc hB2a.size (.cells #[.string X2.name, .int .i64 X2.typ, .int .i64 X2.prec] 80)
    go_wp2_with fail
    refine (H3.out _ hB2').mono ?_; rintro e w3 ⟨rfl, hB3⟩
    have hB3a := hB2'.trans (hB3.mono hB2'.size)
    have hB3' := hB3a.alloc hB3a.size (.cells #[.string X3.name, .int .i64 X3.typ, .int .i64 X3.prec] 80)
    go_wp2_with fail
    go_ret
    exact ⟨ret_bool (by simp), hB3'⟩
end Go.Proofs.YtgapnafkelokaaaGreatDoor
namespace Hb
open Go Go.RowKit
/-- Strings in a row. -/
def StrsIn (w : World) (b : Nat) (l : List ByteArray) : Prop := b < w.heap.size ∧ ∀ (j : Nat) (hj : j < l.length), w.cell? ⟨b, j, none⟩ = some (.string l[j])
theorem StrsIn.below {w w' : World} {b : Nat} {l : List ByteArray} (h : StrsIn w b l) (hB : Below w.heap.size w w') : StrsIn w' b l :=
  ⟨Nat.lt_of_lt_of_le h.1 hB.size, fun j hj => (hB.cell (p := ⟨b, j, none⟩) h.1).trans (h.2 j hj)⟩
theorem insAll_len : ∀ (l acc : List OpR), (insAll acc l).length = acc.length + l.length := fun l acc => by rw [(insAll_perm l acc).length_eq, List.length_append]
theorem insAll_snoc (l acc : List OpR) (o : OpR) : insAll acc (l ++ [o]) = insO o (insAll acc l) := by unfold insAll; rw [List.foldl_append]; rfl
theorem insAll_app (l m acc : List OpR) : insAll acc (l ++ m) = insAll (insAll acc l) m := by unfold insAll; rw [List.foldl_append]
theorem pre_step (k : Nat) : insAll (insAll [] (preL k)) (grO k) = insAll [] (preL (k + 1)) := by rw [preL_succ, insAll_app]
end Hb
namespace Go.Proofs.YtgapnafkelokaaaGreatDoor
open Go.RowKit Hb
set_option maxRecDepth 100000
set_option maxHeartbeats 3200000 in
theorem ref_put (A : Option Addr) (n cap : Nat) (l : List OpR) (prec typ : Int) (b m c2 : Nat) (names : List ByteArray) (w : World) (hm : n + m ≤ 400) (hT : Tab w A n cap l) (hl : m = names.length) (hS : StrsIn w b names) :
    Calls Tryz.prog 63 #[.slice A n cap, .int .i64 prec, .int .i64 typ, .slice (some ⟨b, 0, none⟩) m c2] w fun e w' => ∃ A' n' cap', e = .returned (.slice A' n' cap') ∧ Below w.heap.size w w' ∧ Tab w' A' n' cap' (insAll l (names.map fun s => (⟨s, typ, prec⟩ : OpR))) := by
  have HL := Lib.hid hl
  have HS := Lib.hid hS
  have HT0 := Lib.hid (show Tab w A n cap (insAll l ((names.take 0).map fun s => (⟨s, typ, prec⟩ : OpR))) from hT)
  have HNL := Lib.hid hT.len
  have HWI : Hid (∀ W A' n' c' (s : ByteArray) (t : List OpR), n' ≤ 400 → Tab W A' n' c' t → Calls Tryz.prog 98 #[.slice A' n' c', .agg #[.string s, .int .i64 typ, .int .i64 prec]] W fun e w' => ∃ A'' n'' cap'', e = .returned (.slice A'' n'' cap'') ∧ Below W.heap.size W w' ∧ Tab w' A'' n'' cap'' (insO ⟨s, typ, prec⟩ t)) := Lib.hid fun W A' n' c' s t h1 h2 => ref_with A' n' c' t ⟨s, typ, prec⟩ W h1 h2
  clear hT hl hS
  go_enter Tryz.func63, Tryz.ntmps63
  go_wp2_with fail
  go_loopw [0, 9] (fun v i wr => ∃ (k : Nat) (A' : Option Addr) (n' cap' : Nat), k ≤ m ∧ v = .slice A' n' cap' ∧ i = .int .i64 k ∧ Below w.heap.size w wr ∧ Hid (Tab wr A' n' cap' (insAll l ((names.take k).map fun s => (⟨s, typ, prec⟩ : OpR))))) (fun _ i _ => m - (intOf i).toNat)
  case atStart => exact ⟨0, A, n, cap, Nat.zero_le _, rfl, rfl, Below.refl _ _, HT0⟩
  case round =>
    obtain ⟨k, A', n', cap', hk, rfl, rfl, hB, HT⟩ := hrel
    by_cases hlt : k < m
    · have hkl : k < names.length := by have := HL.out; omega
      obtain ⟨hbl, hcs⟩ := HS.out.below hB
      have cc := hcs k hkl
      have hn' : n' ≤ 400 := by
        have h1 := HT.out.len
        rw [insAll_len, List.length_map, List.length_take] at h1
        have := HNL.out
        omega
      have HTK := Lib.hid (show insO ⟨names[k], typ, prec⟩ (insAll l ((names.take k).map fun s => (⟨s, typ, prec⟩ : OpR))) = insAll l ((names.take (k + 1)).map fun s => (⟨s, typ, prec⟩ : OpR)) by
        rw [List.take_succ_eq_append_getElem hkl, List.map_append, List.map_cons, List.map_nil, insAll_snoc])
      generalize names[k] = s at *
      clear hcs
      go_wp2_with fail
      refine (HWI.out wr A' n' cap' s _ hn' HT.out).mono ?_; rintro e w1 ⟨A1, n1, c1, rfl, hB1, hT1⟩
      rw [HTK.out] at hT1
      have HT1 := Lib.hid hT1
      clear hT1
      go_wp2_with fail
      go_roundw
      case rel => exact ⟨k + 1, A1, n1, c1, by omega, rfl, by go_num, hB.trans (hB1.mono hB.size), HT1⟩
      case measure => simp [intOf] <;> omega
    · have hkn : names.take k = names := List.take_of_length_le (by have := HL.out; omega)
      rw [hkn] at HT
      clear hkn
      go_wp2_with fail
      go_ret
      exact ⟨A', n', cap', rfl, hB, HT.out⟩
theorem put_gen (k : Nat) (hk : k < 12) (A : Option Addr) (n cap b : Nat) (W0 W : World) (hT : Tab W A n cap (insAll [] (preL k))) (hb : BS W0 W b k) :
    Calls Tryz.prog 63 #[.slice A n cap, .int .i64 (grP k), .int .i64 (grT k), .slice (some ⟨b, 0, none⟩) (grN k).length (grN k).length] W fun e w' => ∃ A' n' cap', e = .returned (.slice A' n' cap') ∧ Below W.heap.size W w' ∧ Tab w' A' n' cap' (insAll [] (preL (k + 1))) := by
  have h1 := hT.len
  rw [insAll_len, List.length_nil, Nat.zero_add] at h1
  have h2 := grO_le k hk
  refine (ref_put A n cap _ (grP k) (grT k) b (grN k).length (grN k).length (grN k) W (by omega) hT rfl (hb.out (Below.refl _ _))).mono ?_
  rintro e w' ⟨A', n', cap', he, hB, hT'⟩
  have e1 : ((grN k).map fun s => (⟨s, grT k, grP k⟩ : OpR)) = grO k := rfl
  rw [e1, pre_step] at hT'
  exact ⟨A', n', cap', he, hB, hT'⟩
theorem put_0 (A : Option Addr) (n cap b : Nat) (W0 W : World) (hT : Tab W A n cap (insAll [] (preL 0))) (hb : BS W0 W b 0) :
    Calls Tryz.prog 63 #[.slice A n cap, .int .i64 1200, .int .i64 1, .slice (some ⟨b, 0, none⟩) 2 2] W fun e w' => ∃ A' n' cap', e = .returned (.slice A' n' cap') ∧ Below W.heap.size W w' ∧ Tab w' A' n' cap' (insAll [] (preL 1)) :=
  put_gen 0 (by decide) A n cap b W0 W hT hb
theorem put_1 (A : Option Addr) (n cap b : Nat) (W0 W : World) (hT : Tab W A n cap (insAll [] (preL 1))) (hb : BS W0 W b 1) :
    Calls Tryz.prog 63 #[.slice A n cap, .int .i64 1200, .int .i64 5, .slice (some ⟨b, 0, none⟩) 2 2] W fun e w' => ∃ A' n' cap', e = .returned (.slice A' n' cap') ∧ Below W.heap.size W w' ∧ Tab w' A' n' cap' (insAll [] (preL 2)) :=
  put_gen 1 (by decide) A n cap b W0 W hT hb
theorem put_2 (A : Option Addr) (n cap b : Nat) (W0 W : World) (hT : Tab W A n cap (insAll [] (preL 2))) (hb : BS W0 W b 2) :
    Calls Tryz.prog 63 #[.slice A n cap, .int .i64 1100, .int .i64 2, .slice (some ⟨b, 0, none⟩) 1 1] W fun e w' => ∃ A' n' cap', e = .returned (.slice A' n' cap') ∧ Below W.heap.size W w' ∧ Tab w' A' n' cap' (insAll [] (preL 3)) :=
  put_gen 2 (by decide) A n cap b W0 W hT hb
theorem put_3 (A : Option Addr) (n cap b : Nat) (W0 W : World) (hT : Tab W A n cap (insAll [] (preL 3))) (hb : BS W0 W b 3) :
    Calls Tryz.prog 63 #[.slice A n cap, .int .i64 1050, .int .i64 2, .slice (some ⟨b, 0, none⟩) 1 1] W fun e w' => ∃ A' n' cap', e = .returned (.slice A' n' cap') ∧ Below W.heap.size W w' ∧ Tab w' A' n' cap' (insAll [] (preL 4)) :=
  put_gen 3 (by decide) A n cap b W0 W hT hb
theorem put_4 (A : Option Addr) (n cap b : Nat) (W0 W : World) (hT : Tab W A n cap (insAll [] (preL 4))) (hb : BS W0 W b 4) :
    Calls Tryz.prog 63 #[.slice A n cap, .int .i64 1000, .int .i64 2, .slice (some ⟨b, 0, none⟩) 1 1] W fun e w' => ∃ A' n' cap', e = .returned (.slice A' n' cap') ∧ Below W.heap.size W w' ∧ Tab w' A' n' cap' (insAll [] (preL 5)) :=
  put_gen 4 (by decide) A n cap b W0 W hT hb
theorem put_5 (A : Option Addr) (n cap b : Nat) (W0 W : World) (hT : Tab W A n cap (insAll [] (preL 5))) (hb : BS W0 W b 5) :
    Calls Tryz.prog 63 #[.slice A n cap, .int .i64 900, .int .i64 4, .slice (some ⟨b, 0, none⟩) 1 1] W fun e w' => ∃ A' n' cap', e = .returned (.slice A' n' cap') ∧ Below W.heap.size W w' ∧ Tab w' A' n' cap' (insAll [] (preL 6)) :=
  put_gen 5 (by decide) A n cap b W0 W hT hb
theorem put_6 (A : Option Addr) (n cap b : Nat) (W0 W : World) (hT : Tab W A n cap (insAll [] (preL 6))) (hb : BS W0 W b 6) :
    Calls Tryz.prog 63 #[.slice A n cap, .int .i64 700, .int .i64 1, .slice (some ⟨b, 0, none⟩) 16 16] W fun e w' => ∃ A' n' cap', e = .returned (.slice A' n' cap') ∧ Below W.heap.size W w' ∧ Tab w' A' n' cap' (insAll [] (preL 7)) :=
  put_gen 6 (by decide) A n cap b W0 W hT hb
theorem put_7 (A : Option Addr) (n cap b : Nat) (W0 W : World) (hT : Tab W A n cap (insAll [] (preL 7))) (hb : BS W0 W b 7) :
    Calls Tryz.prog 63 #[.slice A n cap, .int .i64 500, .int .i64 3, .slice (some ⟨b, 0, none⟩) 4 4] W fun e w' => ∃ A' n' cap', e = .returned (.slice A' n' cap') ∧ Below W.heap.size W w' ∧ Tab w' A' n' cap' (insAll [] (preL 8)) :=
  put_gen 7 (by decide) A n cap b W0 W hT hb
theorem put_8 (A : Option Addr) (n cap b : Nat) (W0 W : World) (hT : Tab W A n cap (insAll [] (preL 8))) (hb : BS W0 W b 8) :
    Calls Tryz.prog 63 #[.slice A n cap, .int .i64 400, .int .i64 3, .slice (some ⟨b, 0, none⟩) 8 8] W fun e w' => ∃ A' n' cap', e = .returned (.slice A' n' cap') ∧ Below W.heap.size W w' ∧ Tab w' A' n' cap' (insAll [] (preL 9)) :=
  put_gen 8 (by decide) A n cap b W0 W hT hb
theorem put_9 (A : Option Addr) (n cap b : Nat) (W0 W : World) (hT : Tab W A n cap (insAll [] (preL 9))) (hb : BS W0 W b 9) :
    Calls Tryz.prog 63 #[.slice A n cap, .int .i64 200, .int .i64 1, .slice (some ⟨b, 0, none⟩) 1 1] W fun e w' => ∃ A' n' cap', e = .returned (.slice A' n' cap') ∧ Below W.heap.size W w' ∧ Tab w' A' n' cap' (insAll [] (preL 10)) :=
  put_gen 9 (by decide) A n cap b W0 W hT hb
theorem put_10 (A : Option Addr) (n cap b : Nat) (W0 W : World) (hT : Tab W A n cap (insAll [] (preL 10))) (hb : BS W0 W b 10) :
    Calls Tryz.prog 63 #[.slice A n cap, .int .i64 200, .int .i64 2, .slice (some ⟨b, 0, none⟩) 1 1] W fun e w' => ∃ A' n' cap', e = .returned (.slice A' n' cap') ∧ Below W.heap.size W w' ∧ Tab w' A' n' cap' (insAll [] (preL 11)) :=
  put_gen 10 (by decide) A n cap b W0 W hT hb
theorem put_11 (A : Option Addr) (n cap b : Nat) (W0 W : World) (hT : Tab W A n cap (insAll [] (preL 11))) (hb : BS W0 W b 11) :
    Calls Tryz.prog 63 #[.slice A n cap, .int .i64 200, .int .i64 4, .slice (some ⟨b, 0, none⟩) 3 3] W fun e w' => ∃ A' n' cap', e = .returned (.slice A' n' cap') ∧ Below W.heap.size W w' ∧ Tab w' A' n' cap' (insAll [] (preL 12)) :=
  put_gen 11 (by decide) A n cap b W0 W hT hb
set_option maxHeartbeats 3200000 in
theorem ref_default (w : World) : Calls Tryz.prog 36 #[] w fun e w' => ∃ A n cap, e = .returned (.slice A n cap) ∧ Below w.heap.size w w' ∧ Tab w' A n cap defL := by
  have HT0 := Lib.hid (show Tab w none 0 0 (insAll [] (preL 0)) from Tab.none w)
  have HB0 := Lib.hid (Below.refl w.heap.size w)
  go_enter Tryz.func36, Tryz.ntmps36
  go_wp2_with ((with_reducible refine at_bs ?_); refine wpList_bs rfl 0 _ _ _ rfl rfl bs_0 ?_; intro b0 v0 h0)
  refine (put_0 none 0 0 b0 _ v0 (HT0.out.below h0.bel) h0).mono ?_; rintro e w1 ⟨A1, n1, c1, rfl, hB1, hT1⟩
  have HT1 := Lib.hid hT1
  have HB1 := Lib.hid (HB0.out.trans ((h0.bel.trans (hB1.mono h0.bel.size)).mono HB0.out.size))
  clear hT1 hB1 h0 HT0 HB0
  go_wp2_with ((with_reducible refine at_bs ?_); refine wpList_bs rfl 1 _ _ _ rfl rfl bs_1 ?_; intro b1 v1 h1)
  refine (put_1 A1 n1 c1 b1 _ v1 (HT1.out.below h1.bel) h1).mono ?_; rintro e w2 ⟨A2, n2, c2, rfl, hB2, hT2⟩
  have HT2 := Lib.hid hT2
  have HB2 := Lib.hid (HB1.out.trans ((h1.bel.trans (hB2.mono h1.bel.size)).mono HB1.out.size))
  clear hT2 hB2 h1 HT1 HB1
  go_wp2_with ((with_reducible refine at_bs ?_); refine wpList_bs rfl 2 _ _ _ rfl rfl bs_2 ?_; intro b2 v2 h2)
  refine (put_2 A2 n2 c2 b2 _ v2 (HT2.out.below h2.bel) h2).mono ?_; rintro e w3 ⟨A3, n3, c3, rfl, hB3, hT3⟩
  have HT3 := Lib.hid hT3
  have HB3 := Lib.hid (HB2.out.trans ((h2.bel.trans (hB3.mono h2.bel.size)).mono HB2.out.size))
  clear hT3 hB3 h2 HT2 HB2
  go_wp2_with ((with_reducible refine at_bs ?_); refine wpList_bs rfl 3 _ _ _ rfl rfl bs_3 ?_; intro b3 v3 h3)
  refine (put_3 A3 n3 c3 b3 _ v3 (HT3.out.below h3.bel) h3).mono ?_; rintro e w4 ⟨A4, n4, c4, rfl, hB4, hT4⟩
  have HT4 := Lib.hid hT4
  have HB4 := Lib.hid (HB3.out.trans ((h3.bel.trans (hB4.mono h3.bel.size)).mono HB3.out.size))
  clear hT4 hB4 h3 HT3 HB3
  go_wp2_with ((with_reducible refine at_bs ?_); refine wpList_bs rfl 4 _ _ _ rfl rfl bs_4 ?_; intro b4 v4 h4)
  refine (put_4 A4 n4 c4 b4 _ v4 (HT4.out.below h4.bel) h4).mono ?_; rintro e w5 ⟨A5, n5, c5, rfl, hB5, hT5⟩
  have HT5 := Lib.hid hT5
  have HB5 := Lib.hid (HB4.out.trans ((h4.bel.trans (hB5.mono h4.bel.size)).mono HB4.out.size))
  clear hT5 hB5 h4 HT4 HB4
  go_wp2_with ((with_reducible refine at_bs ?_); refine wpList_bs rfl 5 _ _ _ rfl rfl bs_5 ?_; intro b5 v5 h5)
  refine (put_5 A5 n5 c5 b5 _ v5 (HT5.out.below h5.bel) h5).mono ?_; rintro e w6 ⟨A6, n6, c6, rfl, hB6, hT6⟩
  have HT6 := Lib.hid hT6
  have HB6 := Lib.hid (HB5.out.trans ((h5.bel.trans (hB6.mono h5.bel.size)).mono HB5.out.size))
  clear hT6 hB6 h5 HT5 HB5
  go_wp2_with ((with_reducible refine at_bs ?_); refine wpList_bs rfl 6 _ _ _ rfl rfl bs_6 ?_; intro b6 v6 h6)
  refine (put_6 A6 n6 c6 b6 _ v6 (HT6.out.below h6.bel) h6).mono ?_; rintro e w7 ⟨A7, n7, c7, rfl, hB7, hT7⟩
  have HT7 := Lib.hid hT7
  have HB7 := Lib.hid (HB6.out.trans ((h6.bel.trans (hB7.mono h6.bel.size)).mono HB6.out.size))
  clear hT7 hB7 h6 HT6 HB6
  go_wp2_with ((with_reducible refine at_bs ?_); refine wpList_bs rfl 7 _ _ _ rfl rfl bs_7 ?_; intro b7 v7 h7)
  refine (put_7 A7 n7 c7 b7 _ v7 (HT7.out.below h7.bel) h7).mono ?_; rintro e w8 ⟨A8, n8, c8, rfl, hB8, hT8⟩
  have HT8 := Lib.hid hT8
  have HB8 := Lib.hid (HB7.out.trans ((h7.bel.trans (hB8.mono h7.bel.size)).mono HB7.out.size))
  clear hT8 hB8 h7 HT7 HB7
  go_wp2_with ((with_reducible refine at_bs ?_); refine wpList_bs rfl 8 _ _ _ rfl rfl bs_8 ?_; intro b8 v8 h8)
  refine (put_8 A8 n8 c8 b8 _ v8 (HT8.out.below h8.bel) h8).mono ?_; rintro e w9 ⟨A9, n9, c9, rfl, hB9, hT9⟩
  have HT9 := Lib.hid hT9
  have HB9 := Lib.hid (HB8.out.trans ((h8.bel.trans (hB9.mono h8.bel.size)).mono HB8.out.size))
  clear hT9 hB9 h8 HT8 HB8
  go_wp2_with ((with_reducible refine at_bs ?_); refine wpList_bs rfl 9 _ _ _ rfl rfl bs_9 ?_; intro b9 v9 h9)
  refine (put_9 A9 n9 c9 b9 _ v9 (HT9.out.below h9.bel) h9).mono ?_; rintro e w10 ⟨A10, n10, c10, rfl, hB10, hT10⟩
  have HT10 := Lib.hid hT10
  have HB10 := Lib.hid (HB9.out.trans ((h9.bel.trans (hB10.mono h9.bel.size)).mono HB9.out.size))
  clear hT10 hB10 h9 HT9 HB9
  go_wp2_with ((with_reducible refine at_bs ?_); refine wpList_bs rfl 10 _ _ _ rfl rfl bs_10 ?_; intro b10 v10 h10)
  refine (put_10 A10 n10 c10 b10 _ v10 (HT10.out.below h10.bel) h10).mono ?_; rintro e w11 ⟨A11, n11, c11, rfl, hB11, hT11⟩
  have HT11 := Lib.hid hT11
  have HB11 := Lib.hid (HB10.out.trans ((h10.bel.trans (hB11.mono h10.bel.size)).mono HB10.out.size))
  clear hT11 hB11 h10 HT10 HB10
  go_wp2_with ((with_reducible refine at_bs ?_); refine wpList_bs rfl 11 _ _ _ rfl rfl bs_11 ?_; intro b11 v11 h11)
  refine (put_11 A11 n11 c11 b11 _ v11 (HT11.out.below h11.bel) h11).mono ?_; rintro e w12 ⟨A12, n12, c12, rfl, hB12, hT12⟩
  have HT12 := Lib.hid hT12
  have HB12 := Lib.hid (HB11.out.trans ((h11.bel.trans (hB12.mono h11.bel.size)).mono HB11.out.size))
  clear hT12 hB12 h11 HT11 HB11
  go_wp2_with fail
  go_ret
  exact ⟨A12, n12, c12, rfl, HB12.out, HT12.out⟩
end Go.Proofs.YtgapnafkelokaaaGreatDoor
namespace Hb
open Go Go.RowKit
/-- The numbers of an operator are Go's. -/
structure OpFit (o : OpR) : Prop where
  typ : (Lit.int .i64 o.typ).wf = true
  prec : (Lit.int .i64 o.prec).wf = true
  name : o.name.size ≤ maxLen
theorem wf_range {n : Int} (h : (Lit.int .i64 n).wf = true) : -9223372036854775808 ≤ n ∧ n ≤ 9223372036854775807 := by
  unfold Lit.wf at h; rw [Bool.and_eq_true, decide_eq_true_iff, decide_eq_true_iff] at h; exact h
end Hb
namespace Go.Proofs.YtgapnafkelokaaaGreatDoor
set_option maxRecDepth 100000
open Go.ChangeShapes Go.WideShapes Go.ChangeAt Go.RowKit Hb
section
variable {H : Type} {enc : TypeId × Value → H} {P : Program} {w : World} {base : Nat} {spare : Nat → Bool} {held : Bool}
theorem trodAll_six {t0 t1 t2 t3 t4 t5 : TypeId} {args : Array Value} {ds : List (DataW H)} {ps : List MemPlace} (h : DataW.TrodAll enc P w base spare held [t0, t1, t2, t3, t4, t5] args.toList ds ps) :
    ∃ v0 v1 v2 v3 v4 v5 d0 d1 d2 d3 d4 d5 p0 p1 p2 p3 p4 p5, args = #[v0, v1, v2, v3, v4, v5] ∧ ds = [d0, d1, d2, d3, d4, d5] ∧ ps = p0 ++ p1 ++ p2 ++ p3 ++ p4 ++ p5 ∧ DataW.Trod enc P w base spare held t0 v0 d0 p0 ∧ DataW.Trod enc P w base spare held t1 v1 d1 p1 ∧ DataW.Trod enc P w base spare held t2 v2 d2 p2 ∧ DataW.Trod enc P w base spare held t3 v3 d3 p3 ∧ DataW.Trod enc P w base spare held t4 v4 d4 p4 ∧ DataW.Trod enc P w base spare held t5 v5 d5 p5 := by
  obtain ⟨v0, r0, d0, e0, p0, q0, hargs, rfl, rfl, h0, g0⟩ := trodAll_cons h
  obtain ⟨v1, r1, d1, e1, p1, q1, rfl, rfl, rfl, h1, g1⟩ := trodAll_cons g0
  obtain ⟨v2, r2, d2, e2, p2, q2, rfl, rfl, rfl, h2, g2⟩ := trodAll_cons g1
  obtain ⟨v3, r3, d3, e3, p3, q3, rfl, rfl, rfl, h3, g3⟩ := trodAll_cons g2
  obtain ⟨v4, r4, d4, e4, p4, q4, rfl, rfl, rfl, h4, g4⟩ := trodAll_cons g3
  obtain ⟨v5, r5, d5, e5, p5, q5, rfl, rfl, rfl, h5, g5⟩ := trodAll_cons g4
  obtain ⟨rfl, rfl, rfl⟩ := trodAll_nil g5
  exact ⟨v0, v1, v2, v3, v4, v5, d0, d1, d2, d3, d4, d5, p0, p1, p2, p3, p4, p5, by cases args; simp_all, rfl, by simp, h0, h1, h2, h3, h4, h5⟩
theorem trodAll_mk6 {t0 t1 t2 t3 t4 t5 : TypeId} {v0 v1 v2 v3 v4 v5 : Value} {d0 d1 d2 d3 d4 d5 : DataW H} {p0 p1 p2 p3 p4 p5 : List MemPlace} (h0 : DataW.Trod enc P w base spare held t0 v0 d0 p0) (h1 : DataW.Trod enc P w base spare held t1 v1 d1 p1) (h2 : DataW.Trod enc P w base spare held t2 v2 d2 p2) (h3 : DataW.Trod enc P w base spare held t3 v3 d3 p3) (h4 : DataW.Trod enc P w base spare held t4 v4 d4 p4) (h5 : DataW.Trod enc P w base spare held t5 v5 d5 p5) :
    DataW.TrodAll enc P w base spare held [t0, t1, t2, t3, t4, t5] [v0, v1, v2, v3, v4, v5] [d0, d1, d2, d3, d4, d5] (p0 ++ (p1 ++ (p2 ++ (p3 ++ (p4 ++ p5))))) :=
  ⟨p0, p1 ++ (p2 ++ (p3 ++ (p4 ++ p5))), h0, ⟨p1, p2 ++ (p3 ++ (p4 ++ p5)), h1, trodAll_mk4 h2 h3 h4 h5, rfl⟩, rfl⟩
end
theorem op_cells3 : Tryz.prog.cellsOf 80 = 3 := by kernel_rfl
theorem str_cells3 : Tryz.prog.cellsOf 9 = 1 := by kernel_rfl
theorem int_cells3 : Tryz.prog.cellsOf 3 = 1 := by kernel_rfl
set_option maxRecDepth 100000 in
theorem op_trod {H : Type} {enc : TypeId × Value → H} {W : World} {fuel base : Nat} {held : Bool} {sp : Nat → Bool} {cs : List Value} {x : DataW H × List MemPlace} (h : DataW.trod enc Tryz.prog W base sp held fuel 80 cs = some x) : ∃ o : OpR, cs = opCells o ∧ OpFit o := by
  obtain ⟨y0, y1, y2, k, _, hl, g0, g1, g2⟩ := Go.Deep.trod_struct3 Tryz.underlying80 h
  rw [op_cells3] at hl
  match cs, hl with
  | [c0, c1, c2], _ =>
    obtain ⟨s0, e0, _, z0⟩ := DataW.trod_string Tryz.underlying9 g0
    obtain ⟨n1, e1, _, z1⟩ := DataW.trod_int Tryz.underlying3 g1
    obtain ⟨n2, e2, _, z2⟩ := DataW.trod_int Tryz.underlying3 g2
    have u0 : [c0] = [Value.string s0] := by rw [← e0]; show _ = List.take (Tryz.prog.cellsOf 9) _; rw [str_cells3]; rfl
    have u1 : [c1] = [Value.int IntKind.i64 n1] := by rw [← e1]; show _ = List.take (Tryz.prog.cellsOf 3) _; rw [int_cells3]; rfl
    have u2 : [c2] = [Value.int IntKind.i64 n2] := by rw [← e2]; show _ = List.take (Tryz.prog.cellsOf 3) _; rw [int_cells3]; rfl
    injection u0 with u0 _
    injection u1 with u1 _
    injection u2 with u2 _
    subst u0 u1 u2
    exact ⟨⟨s0, n1, n2⟩, rfl, z1, z2, z0⟩
theorem open_op {H : Type} {enc : TypeId × Value → H} {W : World} {r : Reach} {b0 : Nat} {v : Value} {d : DataW H} {ps : List MemPlace} (hval : Value.okWide Tryz.prog W r b0 80 v)
    (h : DataW.Trod enc Tryz.prog W 0 (fun _ => true) true 80 v d ps) : ∃ o : OpR, v = opV o ∧ OpFit o := by
  obtain ⟨cs, rfl, _⟩ := okWide_struct Tryz.underlying80 hval
  obtain ⟨fuel, hf⟩ := h
  obtain ⟨o, ho, hfit⟩ := op_trod hf
  refine ⟨o, ?_, hfit⟩
  have : cs = (opCells o).toArray := by
    apply Array.ext'
    simpa [Value.cells] using ho
  rw [this]
  rfl
set_option maxRecDepth 100000 in
theorem open_ops {H : Type} {enc : TypeId × Value → H} {W : World} {r : Reach} {b0 : Nat} {v : Value} {d : DataW H} {ps : List MemPlace} (hval : Value.okWide Tryz.prog W r b0 25 v)
    (h : DataW.Trod enc Tryz.prog W 0 (fun _ => true) true 25 v d ps) : ∃ A n cap l, v = .slice A n cap ∧ n = l.length ∧ n ≤ maxLen ∧ OpsAt W A l ∧ (n = 0 → (Value.slice A n cap = .slice none 0 0 ∨ ∃ ad, A = some ad)) ∧ ∀ o ∈ l, OpFit o := by
  obtain ⟨A, n, cap, rfl⟩ := okWide_slice Tryz.underlying25 hval
  obtain ⟨fuel, hf⟩ := h
  rcases Go.Deep.open_slice Tryz.underlying25 hf with ⟨hcs, _⟩ | ⟨a, len, cap', m, k, D, Pl, hcs, _, hl, hm, hmm, _, hx⟩
  · have : A = none ∧ n = 0 ∧ cap = 0 := by simpa [Value.cells] using hcs
    obtain ⟨rfl, rfl, rfl⟩ := this
    exact ⟨none, 0, 0, [], rfl, rfl, by decide, OpsAt.nil _ _, fun _ => .inl rfl, fun o h => absurd h (by simp)⟩
  · have : A = some a ∧ n = len ∧ cap = cap' := by simpa [Value.cells] using hcs
    obtain ⟨rfl, rfl, rfl⟩ := this
    have hmn : m = cap := by simpa using hmm
    have key : ∀ i, i < n → ∃ x : OpR, (W.cell? (a.add (i * 3)) = some (.string x.name) ∧ W.cell? ((a.add (i * 3)).add 1) = some (.int .i64 x.typ) ∧ W.cell? ((a.add (i * 3)).add 2) = some (.int .i64 x.prec)) ∧ OpFit x := fun i hi => by
      obtain ⟨cs', h1, h2⟩ := hx i (by omega)
      rw [op_cells3] at h1
      obtain ⟨_, hlen, hget⟩ := World.cells?_some h1
      obtain ⟨o, rfl, hfit⟩ := op_trod h2
      have q0 := hget 0 (by omega)
      have q1 := hget 1 (by omega)
      have q2 := hget 2 (by omega)
      exact ⟨o, ⟨by simpa [Addr.add, opCells] using q0, by simpa [opCells] using q1, by simpa [opCells] using q2⟩, hfit⟩
    obtain ⟨F, hF⟩ := Go.Deep.choose_lt (α := OpR) (p := fun i x => (W.cell? (a.add (i * 3)) = some (.string x.name) ∧ W.cell? ((a.add (i * 3)).add 1) = some (.int .i64 x.typ) ∧ W.cell? ((a.add (i * 3)).add 2) = some (.int .i64 x.prec)) ∧ OpFit x) key
    refine ⟨some a, n, cap, (List.range n).map F, rfl, by simp, by omega, fun j hj => ?_, fun _ => .inr ⟨a, rfl⟩, fun o ho => ?_⟩
    · have hj' : j < n := by simpa using hj
      have hs : a.spot = none := by
        have h0 := (hF 0 (by omega)).1.1
        have : a.add (0 * 3) = a := by simp [Addr.add]
        rw [this] at h0
        unfold World.cell? at h0
        split at h0
        · split at h0
          · cases h0
          · rename_i hh; simpa using hh
        · cases h0
      have ha : a = ⟨a.block, a.off, none⟩ := by obtain ⟨x, y, z⟩ := a; exact congrArg (Addr.mk x y) hs
      obtain ⟨⟨c1, c2, c3⟩, _⟩ := hF j hj'
      have e1 : a.add (j * 3) = ⟨a.block, a.off + j * 3, none⟩ := by
        unfold Addr.add
        split
        · rename_i h0; rw [h0, Nat.add_zero]; exact ha
        · rfl
      have e2 : (a.add (j * 3)).add 1 = ⟨a.block, a.off + j * 3 + 1, none⟩ := by rw [e1]; rfl
      have e3 : (a.add (j * 3)).add 2 = ⟨a.block, a.off + j * 3 + 2, none⟩ := by rw [e1]; rfl
      rw [e3] at c3
      rw [e2] at c2
      rw [e1] at c1
      refine ⟨a.block, a.off, by rw [← ha], World.block_lt_of_cell? W ⟨a.block, a.off + j * 3, none⟩ c1, ?_, ?_, ?_⟩
      · simpa using c1
      · simpa using c2
      · simpa using c3
    · rw [List.mem_map] at ho
      obtain ⟨j, hj, rfl⟩ := ho
      exact (hF j (List.mem_range.1 hj)).2
end Go.Proofs.YtgapnafkelokaaaGreatDoor
