/- Operators: the reference's without and with. -/
import Derived.Test.YteddbeifnolklaaOp9
import Derived.Test.YteddbeifnolklaaOpQ
namespace Hb
open Go Go.RowKit
/-- The operators but those of a class and a name. -/
def withoutL (l : List OpR) (c : Int) (name : ByteArray) : List OpR := l.filter fun a => !isOp name c a
theorem ins_app {o x : OpR} : ∀ {t : List OpR}, (∃ a ∈ t, befOp o a = true) → insO o (t ++ [x]) = insO o t ++ [x]
  | [], h => by obtain ⟨a, ha, _⟩ := h; cases ha
  | a :: t, h => by
    by_cases hc : cmpOp o a < 0
    · rw [List.cons_append]; unfold insO; rw [if_pos hc, if_pos hc]; rfl
    · rw [List.cons_append]; unfold insO; rw [if_neg hc, if_neg hc]
      rw [ins_app (t := t)]
      · rfl
      · obtain ⟨b, hb, hbf⟩ := h
        rcases List.mem_cons.1 hb with rfl | hb
        · exact absurd ((cmp_bef _ _).2 hbf) hc
        · exact ⟨b, hb, hbf⟩
theorem ins_none {o : OpR} : ∀ {t : List OpR}, (∀ a ∈ t, befOp o a = false) → insO o t = t ++ [o]
  | [], _ => rfl
  | a :: t, h => by
    unfold insO
    rw [if_neg (by rw [cmp_bef, h a (by simp)]; simp), ins_none fun b hb => h b (by simp [hb])]
    rfl
theorem ins_here {o x : OpR} (hx : befOp o x = true) : ∀ {t : List OpR}, (∀ a ∈ t, befOp o a = false) → insO o (t ++ [x]) = t ++ [o] ++ [x]
  | [], _ => by
    show (if cmpOp o x < 0 then o :: x :: [] else x :: insO o []) = _
    rw [if_pos ((cmp_bef _ _).2 hx)]; rfl
  | a :: t, h => by
    rw [List.cons_append]
    unfold insO
    rw [if_neg (by rw [cmp_bef, h a (by simp)]; simp), ins_here hx fun b hb => h b (by simp [hb])]
    rfl
/-- What lies in out: the operators put in so far. -/
def withL (o : OpR) (l : List OpR) (k : Nat) (dn : Bool) : List OpR := if dn = true then insO o (l.take k) else l.take k
structure Withs (o : OpR) (l : List OpR) (k : Nat) (dn : Bool) : Prop where
  yes : dn = true → ∃ a ∈ l.take k, befOp o a = true
  no : dn = false → ∀ a ∈ l.take k, befOp o a = false
theorem Withs.start (o : OpR) (l : List OpR) : Withs o l 0 false := ⟨fun h => by (cases h), fun _ a h => by simp at h⟩
theorem mem_take {l : List OpR} {k : Nat} {a : OpR} (hk : k < l.length) : a ∈ l.take (k + 1) ↔ a ∈ l.take k ∨ a = l[k] := by
  rw [List.take_succ_eq_append_getElem hk, List.mem_append, List.mem_singleton]
theorem Withs.done {o : OpR} {l : List OpR} {k : Nat} (h : Withs o l k true) (hk : k < l.length) : Withs o l (k + 1) true ∧ withL o l (k + 1) true = withL o l k true ++ [l[k]] := by
  obtain ⟨a, ha, hb⟩ := h.yes rfl
  refine ⟨⟨fun _ => ⟨a, (mem_take hk).2 (.inl ha), hb⟩, fun h => by (cases h)⟩, ?_⟩
  unfold withL
  rw [if_pos rfl, if_pos rfl, List.take_succ_eq_append_getElem hk, ins_app ⟨a, ha, hb⟩]
theorem Withs.skip {o : OpR} {l : List OpR} {k : Nat} (h : Withs o l k false) (hk : k < l.length) (hb : befOp o l[k] = false) : Withs o l (k + 1) false ∧ withL o l (k + 1) false = withL o l k false ++ [l[k]] := by
  refine ⟨⟨fun h => by (cases h), fun _ a ha => ?_⟩, ?_⟩
  · rcases (mem_take hk).1 ha with ha | rfl
    · exact h.no rfl a ha
    · exact hb
  · unfold withL
    rw [if_neg (by simp), if_neg (by simp), List.take_succ_eq_append_getElem hk]
theorem Withs.put {o : OpR} {l : List OpR} {k : Nat} (h : Withs o l k false) (hk : k < l.length) (hb : befOp o l[k] = true) : Withs o l (k + 1) true ∧ withL o l (k + 1) true = withL o l k false ++ [o] ++ [l[k]] := by
  refine ⟨⟨fun _ => ⟨_, (mem_take hk).2 (.inr rfl), hb⟩, fun h => by (cases h)⟩, ?_⟩
  unfold withL
  rw [if_pos rfl, if_neg (by simp), List.take_succ_eq_append_getElem hk, ins_here hb (h.no rfl)]
theorem withL_len {o : OpR} {l : List OpR} {k : Nat} {dn : Bool} (hk : k ≤ l.length) : (withL o l k dn).length ≤ l.length + 1 := by
  unfold withL
  split
  · rw [insO_len, List.length_take]; omega
  · rw [List.length_take]; omega
theorem own_nat {w : World} {base e m : Nat} {v : Value} {l : List OpR} (h : w.ownsRow base e 3 v m (opsCells l)) : w.ownsRow base e 3 v l.length (opsCells l) := by
  have := own_len h
  rw [this]; exact h
theorem app_len (t : List OpR) (a : OpR) : (t ++ [a]).length = t.length + 1 := by simp
end Hb
namespace Go.Proofs.Yteddbeifnolklaa
open Go.RowKit Hb
set_option maxRecDepth 100000
set_option maxHeartbeats 3200000 in
theorem ref_without (A : Option Addr) (n cap : Nat) (l : List OpR) (c : Int) (name : ByteArray) (w : World) (hm : n ≤ 400) (hT : Tab w A n cap l) :
    Calls Try.prog 45 #[.slice A n cap, .int .i64 c, .string name] w fun e w' => ∃ A' n' cap', e = .returned (.slice A' n' cap') ∧ Below w.heap.size w w' ∧ Tab w' A' n' cap' (withoutL l c name) := by
  have HN := Lib.hid hT.len
  have HP := Lib.hid hT.ops
  clear hT
  go_enter Try.func45, Try.ntmps45
  go_wp2_with fail
  go_loopw [7, 8] (fun v i wr => ∃ k : Nat, k ≤ n ∧ i = .int .i64 k ∧ Below w.heap.size w wr ∧ Hid (wr.ownsRow w.heap.size 34 3 v (withoutL (l.take k) c name).length (opsCells (withoutL (l.take k) c name)))) (fun _ i _ => n - (intOf i).toNat)
  case atStart => exact ⟨0, Nat.zero_le _, rfl, Below.refl _ _, Lib.hid (World.ownsRow_nil _ _ _ _)⟩
  case round =>
    obtain ⟨k, hk, rfl, hB, HO⟩ := hrel
    have hbs := hB.size
    by_cases hlt : k < n
    · have hkl : k < l.length := by have := HN.out; omega
      obtain ⟨b, off, rfl, hb, c0, c1, c2⟩ := (HP.out.below hB) k hkl
      have HK := Lib.hid (fun h => filt_yes (fun a => !isOp name c a) l k hkl h)
      have HD := Lib.hid (fun h => filt_no (fun a => !isOp name c a) l k hkl h)
      have hlen : (withoutL (l.take k) c name).length ≤ 70368744 := by
        have h1 : (withoutL (l.take k) c name).length ≤ (l.take k).length := List.length_filter_le _ _
        rw [List.length_take] at h1; omega
      have HW : Hid (∀ t, withoutL t c name = t.filter fun a => !isOp name c a) := Lib.hid fun _ => rfl
      generalize l[k] = a at *
      have HC := Lib.hid (ref_class a.typ)
      by_cases hcl : clsOp a.typ = c
      · have e1 : (clsOp a.typ == c) = true := by simpa using hcl
        by_cases hnm : a.name.toList = name.toList
        · have HI : Hid (isOp name c a = true) := by unfold isOp; refine Lib.hid ?_; simp [hnm, hcl]
          have e2 : (a.name.toList == name.toList) = true := by simpa using hnm
          go_wp2_with fail
          refine (HC.out _).mono ?_; rintro e w1 ⟨rfl, rfl⟩
          go_wp2_with fail
          go_roundw
          case rel => exact ⟨k + 1, by omega, by go_num, hB, by rw [HW.out, HD.out (by rw [HI.out]; rfl), ← HW.out]; exact HO⟩
          case measure => simp [intOf] <;> omega
        · have HI : Hid (isOp name c a = false) := by unfold isOp; refine Lib.hid ?_; simp [hnm]
          have e2 : (a.name.toList == name.toList) = false := by simpa using hnm
          go_wp2_with fail
          refine (HC.out _).mono ?_; rintro e w1 ⟨rfl, rfl⟩
          go_wp2_with ((with_reducible refine at_appOO ?_); go_must (refine wpList_append_op rfl _ _ rfl w.heap.size _ _ _ rfl _ HO.out a rfl rfl hlen hbs ?_; intro v1 w4 hown4 hB4 hg4))
          have HO4 := Lib.hid hown4
          clear hown4
          go_roundw
          case rel => exact ⟨k + 1, by omega, by go_num, hB.trans hB4, by rw [HW.out, HK.out (by rw [HI.out]; rfl), ← HW.out]; exact Lib.hid (own_nat HO4.out)⟩
          case measure => simp [intOf] <;> omega
      · have HI : Hid (isOp name c a = false) := by unfold isOp; refine Lib.hid ?_; simp [hcl]
        have e1 : (clsOp a.typ == c) = false := by simpa using hcl
        go_wp2_with fail
        refine (HC.out _).mono ?_; rintro e w1 ⟨rfl, rfl⟩
        go_wp2_with ((with_reducible refine at_appOO ?_); go_must (refine wpList_append_op rfl _ _ rfl w.heap.size _ _ _ rfl _ HO.out a rfl rfl hlen hbs ?_; intro v1 w4 hown4 hB4 hg4))
        have HO4 := Lib.hid hown4
        clear hown4
        go_roundw
        case rel => exact ⟨k + 1, by omega, by go_num, hB.trans hB4, by rw [HW.out, HK.out (by rw [HI.out]; rfl), ← HW.out]; exact Lib.hid (own_nat HO4.out)⟩
        case measure => simp [intOf] <;> omega
    · have hkn : l.take k = l := List.take_of_length_le (by have := HN.out; omega)
      rw [hkn] at HO
      obtain ⟨A', cap', rfl⟩ := own_slice HO.out
      have HT := Lib.hid (Tab.own HO.out)
      clear HO hkn
      go_wp2_with fail
      go_ret
      first | exact ⟨A', _, cap', rfl, hB, HT.out⟩ | exact ⟨A', _, ⟨cap', rfl⟩, hB, HT.out⟩
set_option maxHeartbeats 6400000 in
theorem ref_with (A : Option Addr) (n cap : Nat) (l : List OpR) (o : OpR) (w : World) (hm : n ≤ 400) (hT : Tab w A n cap l) :
    Calls Try.prog 46 #[.slice A n cap, opV o] w fun e w' => ∃ A' n' cap', e = .returned (.slice A' n' cap') ∧ Below w.heap.size w w' ∧ Tab w' A' n' cap' (insO o l) := by
  obtain ⟨W0, hW0⟩ : ∃ W0, W0 = w.alloc (.cells #[.string o.name, .int .i64 o.typ, .int .i64 o.prec] 34) := ⟨_, rfl⟩
  have hX0 : BoxAt w W0 o := by rw [hW0]; exact BoxAt.start w o 34
  have HN := Lib.hid hT.len
  have HP := Lib.hid (hT.ops.below hX0.bel)
  have HBOX : Hid (∀ W, Below W0.heap.size W0 W → W.cell? ⟨w.heap.size, 0, none⟩ = some (.string o.name) ∧ W.cell? ⟨w.heap.size, 1, none⟩ = some (.int .i64 o.typ) ∧ W.cell? ⟨w.heap.size, 2, none⟩ = some (.int .i64 o.prec) ∧ w.heap.size < W.heap.size) := Lib.hid fun W hB => by
    have h := hX0.call hB
    exact ⟨h.c0, h.c1, h.c2, h.lt⟩
  have HWB : Hid (∀ W, Below W0.heap.size W0 W → Below w.heap.size w W) := Lib.hid fun W hB => (hX0.call hB).bel
  have hst : Below W0.heap.size W0 (w.alloc (.cells #[.string o.name, .int .i64 o.typ, .int .i64 o.prec] 34)) := by rw [← hW0]; exact Below.refl _ _
  have mixed : Try.prog.follows Departure.mixedOrders = true := by kernel_rfl
  have HX := Lib.hid (fun a W => ref_before_up o a W)
  clear hT hX0 hW0
  unfold opV at *
  go_enter Try.func46, Try.ntmps46
  go_wp2_with fail
  go_loopw [5, 6, 7] (fun v d i wr => ∃ (k : Nat) (dn : Bool), k ≤ n ∧ d = .bool dn ∧ i = .int .i64 k ∧ Below W0.heap.size W0 wr ∧ Hid (Withs o l k dn) ∧ Hid (wr.ownsRow W0.heap.size 34 3 v (withL o l k dn).length (opsCells (withL o l k dn)))) (fun _ _ i _ => n - (intOf i).toNat)
  case atStart => exact ⟨0, false, Nat.zero_le _, rfl, rfl, hst, Lib.hid (Withs.start o l), Lib.hid (World.ownsRow_nil _ _ _ _)⟩
  case round =>
    obtain ⟨k, dn, hk, rfl, rfl, hB, HWI, HO⟩ := hrel
    have hbs := hB.size
    have hln : (withL o l k dn).length ≤ 70368744 := by have := withL_len (o := o) (l := l) (k := k) (dn := dn) (by have := HN.out; omega); have := HN.out; omega
    by_cases hlt : k < n
    · have hkl : k < l.length := by have := HN.out; omega
      obtain ⟨b, off, rfl, hb0, C0, C1, C2⟩ := HP.out k hkl
      have HCE : Hid (∀ W, Below W0.heap.size W0 W → W.cell? ⟨b, off + k * 3, none⟩ = some (.string l[k].name) ∧ W.cell? ⟨b, off + k * 3 + 1, none⟩ = some (.int .i64 l[k].typ) ∧ W.cell? ⟨b, off + k * 3 + 2, none⟩ = some (.int .i64 l[k].prec) ∧ b < W.heap.size) := Lib.hid fun W h =>
        ⟨(h.cell (p := ⟨b, _, none⟩) hb0).trans C0, (h.cell (p := ⟨b, _, none⟩) hb0).trans C1, (h.cell (p := ⟨b, _, none⟩) hb0).trans C2, Nat.lt_of_lt_of_le hb0 h.size⟩
      clear C0 C1 C2
      have HD1 := Lib.hid (fun (h : Withs o l k true) => h.done hkl)
      have HD2 := Lib.hid (fun (h : Withs o l k false) (hb : befOp o l[k] = false) => h.skip hkl hb)
      have HD3 := Lib.hid (fun (h : Withs o l k false) (hb : befOp o l[k] = true) => h.put hkl hb)
      have hk0 : (0 : Int) ≤ (k : Int) := by omega
      have hk1 : (k : Int) < (n : Int) := by omega
      generalize l[k] = a at *
      cases dn
      · have HCX : Hid (∀ n os, Calls Try.prog 49 #[.agg #[.string o.name, .int .i64 o.typ, .int .i64 o.prec], .agg #[.string a.name, .int .i64 a.typ, .int .i64 a.prec]] (Sort.grow (wr.drewN n) os) fun e w' => e = .returned (.bool (befOp o a)) ∧ ∃ q os', w' = Sort.grow ((Sort.grow (wr.drewN n) os).drewN q) os') := Lib.hid fun n os => HX.out a _
        obtain ⟨z0, z1, z2, zl⟩ := HBOX.out wr hB
        obtain ⟨y0, y1, y2, yl⟩ := HCE.out wr hB
        have q0 : ∀ n os, (Sort.grow (wr.drewN n) os).cell? ⟨w.heap.size, 0, none⟩ = some (.string o.name) := cell_grown zl z0
        have q1 : ∀ n os, (Sort.grow (wr.drewN n) os).cell? ⟨w.heap.size, 1, none⟩ = some (.int .i64 o.typ) := cell_grown zl z1
        have q2 : ∀ n os, (Sort.grow (wr.drewN n) os).cell? ⟨w.heap.size, 2, none⟩ = some (.int .i64 o.prec) := cell_grown zl z2
        have r0 : ∀ n os, (Sort.grow (wr.drewN n) os).cell? ⟨b, off + k * 3, none⟩ = some (.string a.name) := cell_grown yl y0
        have r1 : ∀ n os, (Sort.grow (wr.drewN n) os).cell? ⟨b, off + k * 3 + 1, none⟩ = some (.int .i64 a.typ) := cell_grown yl y1
        have r2 : ∀ n os, (Sort.grow (wr.drewN n) os).cell? ⟨b, off + k * 3 + 2, none⟩ = some (.int .i64 a.prec) := cell_grown yl y2
        clear z0 z1 z2 y0 y1 y2
        cases hbf : befOp o a
        · rw [hbf] at HCX
          have HI := Lib.hid (HD2.out HWI.out hbf)
          clear hbf HD1 HD2 HD3
          go_wp2_with fail
          refine wp_region_quiet_grown (by assumption) (by kernel_rfl) ?_
          with_reducible refine wpQuiet_run (by kernel_rfl) (fun K hK => ?_)
          go_simp
          refine hK _ ?_
          clear hK K
          with_reducible refine wpQuiet_run (by kernel_rfl) (fun K hK => ?_)
          go_simp
          refine hK _ ?_
          clear hK K
          with_reducible refine wpQuiet_run (by kernel_rfl) (fun K hK => ?_)
          go_simp
          refine hK _ ?_
          clear hK K
          with_reducible refine wpQuiet_run (by kernel_rfl) (fun K hK => ?_)
          go_simp
          refine hK _ ?_
          clear hK K
          with_reducible refine wpQuiet_run (by kernel_rfl) (fun K hK => ?_)
          go_simp
          refine hK _ ?_
          clear hK K
          with_reducible refine wpQuiet_run (by kernel_rfl) (fun K hK => ?_)
          go_simp
          refine hK _ ?_
          clear hK K
          with_reducible refine wpQuiet_run (by kernel_rfl) (fun K hK => ?_)
          go_simp
          refine hK _ ?_
          clear hK K
          with_reducible refine wpQuiet_run (by kernel_rfl) (fun K hK => ?_)
          go_simp
          refine hK _ ?_
          clear hK K
          with_reducible refine wpQuiet_run (by kernel_rfl) (fun K hK => ?_)
          go_simp
          apply Exists.intro
          refine ⟨fun _ => ?_, hK _ ?_⟩
          (go_at_call 49; (with_reducible refine Calls.grown_of (HCX.out _ _)))
          clear hK K
          with_reducible refine wpQuiet_run (by kernel_rfl) (fun K hK => ?_)
          go_simp
          refine hK _ ?_
          clear hK K
          refine wpQuiet_nil ?_
          intro _ hw'
          obtain ⟨⟨nq, osq⟩, hw''⟩ := hw'
          subst hw''
          have hBg := bl_grow wr nq osq
          have HO6 := Lib.hid (own_below HO.out hBg)
          have hB6 := hB.trans (hBg.mono hbs)
          generalize Sort.grow (wr.drewN nq) osq = w6 at *
          clear q0 q1 q2 r0 r1 r2 HCX
          obtain ⟨y0, y1, y2, _⟩ := HCE.out w6 hB6
          have hb6 := hB6.size
          go_wp2_with ((with_reducible refine at_appOO ?_); go_must (refine wpList_append_op rfl _ _ rfl W0.heap.size _ _ _ rfl _ HO6.out a rfl rfl hln hb6 ?_; intro v1 w7 hown7 hB7 hg7))
          have HO7 := Lib.hid hown7
          clear hown7
          go_roundw
          case rel => exact ⟨k + 1, false, by omega, rfl, by go_num, hB6.trans hB7, Lib.hid HI.out.1, by rw [HI.out.2]; exact Lib.hid (own_nat HO7.out)⟩
          case measure => simp [intOf] <;> omega
        · rw [hbf] at HCX
          have HI := Lib.hid (HD3.out HWI.out hbf)
          clear hbf HD1 HD2 HD3
          go_wp2_with fail
          refine wp_region_quiet_grown (by assumption) (by kernel_rfl) ?_
          with_reducible refine wpQuiet_run (by kernel_rfl) (fun K hK => ?_)
          go_simp
          refine hK _ ?_
          clear hK K
          with_reducible refine wpQuiet_run (by kernel_rfl) (fun K hK => ?_)
          go_simp
          refine hK _ ?_
          clear hK K
          with_reducible refine wpQuiet_run (by kernel_rfl) (fun K hK => ?_)
          go_simp
          refine hK _ ?_
          clear hK K
          with_reducible refine wpQuiet_run (by kernel_rfl) (fun K hK => ?_)
          go_simp
          refine hK _ ?_
          clear hK K
          with_reducible refine wpQuiet_run (by kernel_rfl) (fun K hK => ?_)
          go_simp
          refine hK _ ?_
          clear hK K
          with_reducible refine wpQuiet_run (by kernel_rfl) (fun K hK => ?_)
          go_simp
          refine hK _ ?_
          clear hK K
          with_reducible refine wpQuiet_run (by kernel_rfl) (fun K hK => ?_)
          go_simp
          refine hK _ ?_
          clear hK K
          with_reducible refine wpQuiet_run (by kernel_rfl) (fun K hK => ?_)
          go_simp
          refine hK _ ?_
          clear hK K
          with_reducible refine wpQuiet_run (by kernel_rfl) (fun K hK => ?_)
          go_simp
          apply Exists.intro
          refine ⟨fun _ => ?_, hK _ ?_⟩
          (go_at_call 49; (with_reducible refine Calls.grown_of (HCX.out _ _)))
          clear hK K
          with_reducible refine wpQuiet_run (by kernel_rfl) (fun K hK => ?_)
          go_simp
          refine hK _ ?_
          clear hK K
          refine wpQuiet_nil ?_
          intro _ hw'
          obtain ⟨⟨nq, osq⟩, hw''⟩ := hw'
          subst hw''
          have hBg := bl_grow wr nq osq
          have HO6 := Lib.hid (own_below HO.out hBg)
          have hB6 := hB.trans (hBg.mono hbs)
          generalize Sort.grow (wr.drewN nq) osq = w6 at *
          clear q0 q1 q2 r0 r1 r2 HCX
          obtain ⟨z0, z1, z2, _⟩ := HBOX.out w6 hB6
          have hb6 := hB6.size
          have hln2 : (withL o l k false).length + 1 ≤ 70368744 := by have := withL_len (o := o) (l := l) (k := k) (dn := false) (by have := HN.out; omega); have := HN.out; omega
          go_wp2_with (first
            | ((with_reducible refine at_appOO ?_); have _m := HO7; refine wpList_append_op rfl _ _ rfl W0.heap.size _ _ _ rfl _ HO7.out a rfl rfl hln2 hb7 ?_; intro v2 w8 hown8 hB8 hg8)
            | ((with_reducible refine at_appOO ?_); go_must (refine wpList_append_op rfl _ _ rfl W0.heap.size _ _ _ rfl _ HO6.out o rfl rfl hln hb6 ?_; intro v1 w7 hown7 hB7 hg7; have HO7 := Lib.hid hown7; clear hown7; have hB67 := hB6.trans hB7; obtain ⟨y0, y1, y2, _⟩ := HCE.out w7 hB67; have hb7 := hB67.size)))
          have HO8 := Lib.hid hown8
          clear hown8
          go_roundw
          case rel => exact ⟨k + 1, true, by omega, rfl, by go_num, hB67.trans hB8, Lib.hid HI.out.1, by rw [HI.out.2]; exact Lib.hid (own_nat HO8.out)⟩
          case measure => simp [intOf] <;> omega
      · have HI := Lib.hid (HD1.out HWI.out)
        clear HD1 HD2 HD3
        go_wp2_with fail
        refine wp_region_quiet_grown (by assumption) (by kernel_rfl) ?_
        with_reducible refine wpQuiet_run (by kernel_rfl) (fun K hK => ?_)
        go_simp
        refine hK _ ?_
        clear hK K
        with_reducible refine wpQuiet_run (by kernel_rfl) (fun K hK => ?_)
        go_simp
        refine hK _ ?_
        clear hK K
        with_reducible refine wpQuiet_run (by kernel_rfl) (fun K hK => ?_)
        go_simp
        refine hK _ ?_
        clear hK K
        with_reducible refine wpQuiet_skip (by kernel_rfl) ?_
        simp only [Act.put, List.setIfInBounds_toArray, List.set_cons_zero, List.set_cons_succ]
        with_reducible refine wpQuiet_skip (by kernel_rfl) ?_
        simp only [Act.put, List.setIfInBounds_toArray, List.set_cons_zero, List.set_cons_succ]
        with_reducible refine wpQuiet_skip (by kernel_rfl) ?_
        simp only [Act.put, List.setIfInBounds_toArray, List.set_cons_zero, List.set_cons_succ]
        with_reducible refine wpQuiet_skip (by kernel_rfl) ?_
        simp only [Act.put, List.setIfInBounds_toArray, List.set_cons_zero, List.set_cons_succ]
        with_reducible refine wpQuiet_skip (by kernel_rfl) ?_
        simp only [Act.put, List.setIfInBounds_toArray, List.set_cons_zero, List.set_cons_succ]
        with_reducible refine wpQuiet_skip (by kernel_rfl) ?_
        simp only [Act.put, List.setIfInBounds_toArray, List.set_cons_zero, List.set_cons_succ]
        with_reducible refine wpQuiet_run (by kernel_rfl) (fun K hK => ?_)
        go_simp
        refine hK _ ?_
        clear hK K
        refine wpQuiet_nil ?_
        intro _ hw'
        obtain ⟨⟨nq, osq⟩, hw''⟩ := hw'
        subst hw''
        have hBg := bl_grow wr nq osq
        have HO6 := Lib.hid (own_below HO.out hBg)
        have hB6 := hB.trans (hBg.mono hbs)
        generalize Sort.grow (wr.drewN nq) osq = w6 at *
        obtain ⟨y0, y1, y2, _⟩ := HCE.out w6 hB6
        have hb6 := hB6.size
        go_wp2_with ((with_reducible refine at_appOO ?_); go_must (refine wpList_append_op rfl _ _ rfl W0.heap.size _ _ _ rfl _ HO6.out a rfl rfl hln hb6 ?_; intro v1 w7 hown7 hB7 hg7))
        have HO7 := Lib.hid hown7
        clear hown7
        go_roundw
        case rel => exact ⟨k + 1, true, by omega, rfl, by go_num, hB6.trans hB7, Lib.hid HI.out.1, by rw [HI.out.2]; exact Lib.hid (own_nat HO7.out)⟩
        case measure => simp [intOf] <;> omega
    · have hkn : l.take k = l := List.take_of_length_le (by have := HN.out; omega)
      cases dn
      · have HIN : Hid (insO o l = l ++ [o]) := Lib.hid (ins_none fun a ha => HWI.out.no rfl a (by rw [hkn]; exact ha))
        have hwl : withL o l k false = l := by unfold withL; rw [if_neg (by simp), hkn]
        rw [hwl] at HO hln
        obtain ⟨z0, z1, z2, _⟩ := HBOX.out wr hB
        clear hwl
        go_wp2_with ((with_reducible refine at_appOO ?_); go_must (refine wpList_append_op rfl _ _ rfl W0.heap.size _ _ _ rfl _ HO.out o rfl rfl hln hbs ?_; intro v1 w7 hown7 hB7 hg7))
        rw [← HIN.out] at hown7
        obtain ⟨A', cap', rfl⟩ := own_slice hown7
        have HTT := Lib.hid (Tab.own hown7)
        have hBw := HWB.out _ (hB.trans hB7)
        clear hown7
        go_ret
        first | exact ⟨A', _, cap', rfl, hBw, HTT.out⟩ | exact ⟨A', _, ⟨cap', rfl⟩, hBw, HTT.out⟩
      · have hwl : withL o l k true = insO o l := by unfold withL; rw [if_pos rfl, hkn]
        rw [hwl] at HO
        obtain ⟨A', cap', rfl⟩ := own_slice HO.out
        have HTT := Lib.hid (Tab.own HO.out)
        have hBw := HWB.out _ hB
        clear hwl HO hkn
        go_wp2_with fail
        go_ret
        first | exact ⟨A', _, cap', rfl, hBw, HTT.out⟩ | exact ⟨A', _, ⟨cap', rfl⟩, hBw, HTT.out⟩
end Go.Proofs.Yteddbeifnolklaa
