/- Operators: find. -/
import Derived.Test.YteddbeifnolklaaOp5
namespace Hb
open Go Go.RowKit
def idxI (p : OpR → Bool) (l : List OpR) : Int := if l.any p = true then (l.findIdx p : Int) else -1
theorem idxI_hit (p : OpR → Bool) (l : List OpR) (k : Nat) (hk : k < l.length) (h : p l[k] = true) (hb : ∀ j (hj : j < k), p (l[j]'(by omega)) = false) : idxI p l = k := by
  unfold idxI
  rw [if_pos (List.any_eq_true.2 ⟨l[k], List.getElem_mem hk, h⟩), (List.findIdx_eq hk).2 ⟨h, hb⟩]
theorem idxI_miss (p : OpR → Bool) (l : List OpR) (hb : ∀ j (hj : j < l.length), p l[j] = false) : idxI p l = -1 := by
  unfold idxI
  rw [if_neg]
  rw [Bool.not_eq_true, List.any_eq_false]
  intro x hx
  obtain ⟨j, hj, rfl⟩ := List.getElem_of_mem hx
  simp [hb j hj]
theorem find_hit (p : OpR → Bool) (l : List OpR) (k : Nat) (hk : k < l.length) (h : p l[k] = true) (hb : ∀ j (hj : j < k), p (l[j]'(by omega)) = false) : l.find? p = some l[k] := by
  rw [List.find?_eq_some_iff_getElem]
  exact ⟨h, k, hk, rfl, fun j hj => by simp [hb j hj]⟩
theorem find_miss (p : OpR → Bool) (l : List OpR) (hb : ∀ j (hj : j < l.length), p l[j] = false) : l.find? p = none := by
  rw [List.find?_eq_none]
  intro x hx
  obtain ⟨j, hj, rfl⟩ := List.getElem_of_mem hx
  simp [hb j hj]
/-- An operator of a class with a name. -/
def isOp (name : ByteArray) (c : Int) (o : OpR) : Bool := o.name.toList == name.toList && clsOp o.typ == c
def op0 : OpR := ⟨⟨#[]⟩, 0, 0⟩
def findR (l : List OpR) (name : ByteArray) (c : Int) : Option OpR := if opsValid l = true then l.find? (isOp name c) else none
structure FHeld (w0 w : World) (o : OpR) (g1 g2 : Nat) (name : ByteArray) (c : Int) : Prop where
  bel : Below w0.heap.size w0 w
  lt : w0.heap.size < w.heap.size
  a0 : w.cell? ⟨w0.heap.size, 0, none⟩ = some (.string o.name)
  a1 : w.cell? ⟨w0.heap.size, 1, none⟩ = some (.int .i64 o.typ)
  n0 : w.cell? ⟨g1, 0, none⟩ = some (.string name)
  f0 : w.cell? ⟨g2, 0, none⟩ = some (.int .i64 c)
  l1 : g1 < w0.heap.size
  l2 : g2 < w0.heap.size
section
variable {w0 w w' : World} {o : OpR} {g1 g2 : Nat} {name : ByteArray} {c : Int}
theorem FHeld.keep (h : FHeld w0 w o g1 g2 name c) : w.cell? ⟨w0.heap.size, 0, none⟩ = some (.string o.name) ∧ w.cell? ⟨w0.heap.size, 1, none⟩ = some (.int .i64 o.typ) ∧ w.cell? ⟨g1, 0, none⟩ = some (.string name) ∧ w.cell? ⟨g2, 0, none⟩ = some (.int .i64 c) ∧ FHeld w0 w o g1 g2 name c := ⟨h.a0, h.a1, h.n0, h.f0, h⟩
theorem FHeld.of (h : w.cell? ⟨w0.heap.size, 0, none⟩ = some (.string o.name) ∧ w.cell? ⟨w0.heap.size, 1, none⟩ = some (.int .i64 o.typ) ∧ w.cell? ⟨g1, 0, none⟩ = some (.string name) ∧ w.cell? ⟨g2, 0, none⟩ = some (.int .i64 c) ∧ FHeld w0 w o g1 g2 name c) : FHeld w0 w o g1 g2 name c := h.2.2.2.2
theorem FHeld.call (hB : Below w.heap.size w w') (h : FHeld w0 w o g1 g2 name c) : FHeld w0 w' o g1 g2 name c where
  bel := h.bel.trans (hB.mono (by have := h.lt; omega))
  lt := Nat.lt_of_lt_of_le h.lt hB.size
  a0 := (hB.cell (p := ⟨_, _, none⟩) h.lt).trans h.a0
  a1 := (hB.cell (p := ⟨_, _, none⟩) h.lt).trans h.a1
  n0 := (hB.cell (p := ⟨_, _, none⟩) (Nat.lt_trans h.l1 h.lt)).trans h.n0
  f0 := (hB.cell (p := ⟨_, _, none⟩) (Nat.lt_trans h.l2 h.lt)).trans h.f0
  l1 := h.l1
  l2 := h.l2
theorem FHeld.drew (h : FHeld w0 w o g1 g2 name c) : FHeld w0 w.drew o g1 g2 name c := h.call (Below.refl w.heap.size w).drew
theorem FHeld.start (e : TypeId) (n0 : w.cell? ⟨g1, 0, none⟩ = some (.string name)) (f0 : w.cell? ⟨g2, 0, none⟩ = some (.int .i64 c)) (l1 : g1 < w.heap.size) (l2 : g2 < w.heap.size) : FHeld w (w.alloc (.cells #[.string o.name, .int .i64 o.typ, .int .i64 o.prec] e)) o g1 g2 name c where
  bel := (Below.refl _ _).alloc (Nat.le_refl _) _
  lt := by simp
  a0 := World.cell?_alloc_new _ _ _ 0
  a1 := World.cell?_alloc_new _ _ _ 1
  n0 := (World.grownBy_alloc _ _ none).cell n0 (by simp)
  f0 := (World.grownBy_alloc _ _ none).cell f0 (by simp)
  l1 := l1
  l2 := l2
end
/-- The name, the class and the result in cells of the call's own. -/
structure RHeld (w0 w : World) (name : ByteArray) (c : Int) : Prop where
  bel : Below w0.heap.size w0 w
  lt : w0.heap.size + 1 + 1 < w.heap.size
  n0 : w.cell? ⟨w0.heap.size, 0, none⟩ = some (.string name)
  f0 : w.cell? ⟨w0.heap.size + 1, 0, none⟩ = some (.int .i64 c)
  r0 : ∃ v, w.cell? ⟨w0.heap.size + 1 + 1, 0, none⟩ = some v
  r1 : ∃ v, w.cell? ⟨w0.heap.size + 1 + 1, 1, none⟩ = some v
  r2 : ∃ v, w.cell? ⟨w0.heap.size + 1 + 1, 2, none⟩ = some v
  fr : ∀ o, w.frozen? ⟨w0.heap.size + 1 + 1, o, none⟩ = false
theorem RHeld.call {w0 w w' : World} {name : ByteArray} {c : Int} (h : RHeld w0 w name c) (hB : Below w.heap.size w w') : RHeld w0 w' name c where
  bel := h.bel.trans (hB.mono (by have := h.lt; omega))
  lt := Nat.lt_of_lt_of_le h.lt hB.size
  n0 := (hB.cell (p := ⟨_, _, none⟩) (by have := h.lt; show w0.heap.size < _; omega)).trans h.n0
  f0 := (hB.cell (p := ⟨_, _, none⟩) (by have := h.lt; show w0.heap.size + 1 < _; omega)).trans h.f0
  r0 := h.r0.imp fun _ hh => (hB.cell (p := ⟨_, _, none⟩) h.lt).trans hh
  r1 := h.r1.imp fun _ hh => (hB.cell (p := ⟨_, _, none⟩) h.lt).trans hh
  r2 := h.r2.imp fun _ hh => (hB.cell (p := ⟨_, _, none⟩) h.lt).trans hh
  fr := fun o => (hB.frozen (p := ⟨_, o, none⟩) h.lt).trans (h.fr o)
theorem RHeld.start (w : World) (name : ByteArray) (c : Int) (t1 t2 t3 : TypeId) : RHeld w (((w.alloc (.cells #[.string name] t1)).alloc (.cells #[.int .i64 c] t2)).alloc (.cells #[.string ⟨#[]⟩, .int .i64 0, .int .i64 0] t3)) name c where
  bel := (((Below.refl w.heap.size w).alloc (Nat.le_refl _) _).alloc (by simp) _).alloc (by simp; omega) _
  lt := by simp
  n0 := (World.grownBy_alloc _ _ none).cell ((World.grownBy_alloc _ _ none).cell (World.cell?_alloc_new _ _ _ 0) (by simp)) (by simp)
  f0 := (World.grownBy_alloc _ _ none).cell (by
    rw [show w.heap.size + 1 = (w.alloc (.cells #[.string name] t1)).heap.size by simp]
    exact World.cell?_alloc_new _ _ _ 0) (by simp)
  r0 := ⟨_, by
    rw [show w.heap.size + 1 + 1 = ((w.alloc (.cells #[.string name] t1)).alloc (.cells #[.int .i64 c] t2)).heap.size by simp]
    exact World.cell?_alloc_new _ _ _ 0⟩
  r1 := ⟨_, by
    rw [show w.heap.size + 1 + 1 = ((w.alloc (.cells #[.string name] t1)).alloc (.cells #[.int .i64 c] t2)).heap.size by simp]
    exact World.cell?_alloc_new _ _ _ 1⟩
  r2 := ⟨_, by
    rw [show w.heap.size + 1 + 1 = ((w.alloc (.cells #[.string name] t1)).alloc (.cells #[.int .i64 c] t2)).heap.size by simp]
    exact World.cell?_alloc_new _ _ _ 2⟩
  fr := fun o => by
    rw [show w.heap.size + 1 + 1 = ((w.alloc (.cells #[.string name] t1)).alloc (.cells #[.int .i64 c] t2)).heap.size by simp]
    exact World.frozen?_alloc_new _ _ _ _
end Hb
namespace Go.Proofs.Yteddbeifnolklaa
open Go.RowKit Hb
set_option maxRecDepth 100000
set_option maxHeartbeats 1600000 in
theorem find_1 (o : OpR) (g1 g2 : Nat) (name : ByteArray) (c : Int) (w : World) (n0 : w.cell? ⟨g1, 0, none⟩ = some (.string name)) (f0 : w.cell? ⟨g2, 0, none⟩ = some (.int .i64 c)) (l1 : g1 < w.heap.size) (l2 : g2 < w.heap.size) :
    Calls Try.prog 60 #[opV o, .pointer (some ⟨g1, 0, none⟩), .pointer (some ⟨g2, 0, none⟩)] w fun e w' => e = .returned (.bool (isOp name c o)) ∧ Below w.heap.size w w' := by
  have H1 := FHeld.start (o := o) 34 n0 f0 l1 l2
  unfold opV
  have HS := Lib.hid (show isOp name c o = (o.name.toList == name.toList && clsOp o.typ == c) from rfl)
  cases h : (o.name.toList == name.toList)
  · rw [h] at HS
    have h2 : ¬o.name.toList = name.toList := by simpa using h
    go_enter Try.func60, Try.ntmps60
    go_wp2_with fail
    go_quiet (fail)
    go_wp2_with fail
    go_ret
    exact ⟨ret_bool HS.out.symm, bl_drewN H1.bel _⟩
  · rw [h] at HS
    have h2 : o.name.toList = name.toList := by simpa using h
    go_enter Try.func60, Try.ntmps60
    go_wp2_with fail
    go_region_held3 (fun w' => w'.cell? ⟨w.heap.size, 0, none⟩ = some (.string o.name) ∧ w'.cell? ⟨w.heap.size, 1, none⟩ = some (.int .i64 o.typ) ∧ w'.cell? ⟨g1, 0, none⟩ = some (.string name) ∧ w'.cell? ⟨g2, 0, none⟩ = some (.int .i64 c) ∧ FHeld w w' o g1 g2 name c)
      (first | with_reducible exact H1.drew.keep | with_reducible exact FHeld.keep (FHeld.of (by with_reducible assumption)) | with_reducible exact FHeld.keep (FHeld.call (by with_reducible assumption) (FHeld.of (by with_reducible assumption))))
      (first | (go_at_call 38; (with_reducible refine (op_class o.typ _).mono ?_); rintro e w2 ⟨rfl, hB2⟩))
    all_goals go_wp2_with fail
    all_goals go_ret
    all_goals exact ⟨ret_bool HS.out.symm, FHeld.bel (FHeld.of (by with_reducible assumption))⟩
set_option maxHeartbeats 1600000 in
theorem ops_index (A : Option Addr) (n cap : Nat) (l : List OpR) (g1 g2 : Nat) (name : ByteArray) (c : Int) (w : World) (hn : n = l.length) (hm : n ≤ 400) (hp : OpsAt w A l) (n0 : w.cell? ⟨g1, 0, none⟩ = some (.string name)) (f0 : w.cell? ⟨g2, 0, none⟩ = some (.int .i64 c)) (l1 : g1 < w.heap.size) (l2 : g2 < w.heap.size) :
    Calls Try.prog 57 #[.slice A n cap, .func (.func 60) #[] #[.pointer (some ⟨g1, 0, none⟩), .pointer (some ⟨g2, 0, none⟩)]] w fun e w' => e = .returned (.int .i64 (idxI (isOp name c) l)) ∧ Below w.heap.size w w' := by
  have HN := Lib.hid hn
  have HP := Lib.hid hp
  clear hn hp
  go_enter Try.func57, Try.ntmps57
  go_wp2_with fail
  go_loopw [8] (fun i wr => ∃ k : Nat, k ≤ n ∧ i = .int .i64 k ∧ Below w.heap.size w wr ∧ Hid (∀ j (hj : j < l.length), j < k → isOp name c l[j] = false)) (fun i _ => n - (intOf i).toNat)
  case atStart => exact ⟨0, Nat.zero_le _, rfl, Below.refl _ _, fun j _ hj => absurd hj (by omega)⟩
  case round =>
    obtain ⟨k, hk, rfl, hB, HA⟩ := hrel
    by_cases hlt : k < n
    · have hbs := hB.size
      have hkl : k < l.length := by have := HN.out; omega
      obtain ⟨b, off, rfl, hb, c0, c1, c2⟩ := (HP.out.below hB) k hkl
      have HH := Lib.hid (fun h => idxI_hit (isOp name c) l k hkl h (fun j hj => HA.out j (by omega) hj))
      have HC := Lib.hid (find_1 l[k] g1 g2 name c wr ((hB.cell (p := ⟨g1, 0, none⟩) l1).trans n0) ((hB.cell (p := ⟨g2, 0, none⟩) l2).trans f0) (Nat.lt_of_lt_of_le l1 hbs) (Nat.lt_of_lt_of_le l2 hbs))
      have HR := Lib.hid (fun (h : isOp name c l[k] = false) => (show ∀ j (hj : j < l.length), j < k + 1 → isOp name c l[j] = false from fun j hj hjk => by
        rcases Nat.lt_or_ge j k with h' | h'
        · exact HA.out j hj h'
        · have : j = k := by omega
          subst this; exact h))
      generalize l[k] = o at *
      unfold opV at HC
      cases hi : isOp name c o
      · rw [hi] at HC
        have HI := Lib.hid hi
        clear hi
        go_wp2_with fail
        refine HC.out.mono ?_; rintro e w1 ⟨rfl, hB1⟩
        go_wp2_with fail
        go_roundw
        case rel => exact ⟨k + 1, by omega, by go_num, hB.trans (hB1.mono hbs), HR.out HI.out⟩
        case measure => simp [intOf] <;> omega
      · rw [hi] at HC
        have HI := Lib.hid hi
        clear hi
        go_wp2_with fail
        refine HC.out.mono ?_; rintro e w1 ⟨rfl, hB1⟩
        go_wp2_with fail
        go_ret
        exact ⟨ret_int (HH.out HI.out).symm, hB.trans (hB1.mono hbs)⟩
    · obtain rfl : k = n := by omega
      have HM := Lib.hid (idxI_miss (isOp name c) l (fun j hj => HA.out j hj (by have := HN.out; omega)))
      go_wp2_with fail
      go_ret
      exact ⟨ret_int HM.out.symm, hB⟩
theorem op_cells : Try.prog.cellsOf 34 = 3 := by kernel_rfl
set_option maxHeartbeats 1600000 in
theorem ops_find (A : Option Addr) (n cap : Nat) (l : List OpR) (name : ByteArray) (c : Int) (w : World) (hn : n = l.length) (hm : n ≤ 400) (hp : OpsAt w A l) :
    Calls Try.prog 47 #[.slice A n cap, .string name, .int .i64 c] w fun e w' => e = .returned (.tuple #[opV ((findR l name c).getD op0), .bool (findR l name c).isSome]) ∧ Below w.heap.size w w' := by
  have HP := Lib.hid hp
  have HN := Lib.hid hn
  clear hp
  have hX := RHeld.start w name c 9 3 34
  have HV := Lib.hid (ops_valid A n cap l _ hn hm (HP.out.below hX.bel))
  clear hn
  cases hv : opsValid l
  · rw [hv] at HV
    have HF := Lib.hid (show findR l name c = none by unfold findR; rw [hv]; rfl)
    clear hv
    go_enter Try.func47, Try.ntmps47
    go_wp2_with fail
    refine HV.out.mono ?_; rintro e w1 ⟨rfl, hB1⟩
    have hY := hX.call hB1
    obtain ⟨hb, lt, n0, f0, ⟨v0, r0⟩, ⟨v1, r1⟩, ⟨v2, r2⟩, fr⟩ := id hY
    have fr0 := fr 0
    go_wp2_with fail
    refine bodyPost_ret (v := .tuple #[opV op0, .bool false]) (by simp [opV, op0, results, Try.results47, go_sem, r0, r1, r2]) rfl ⟨by rw [HF.out]; rfl, by
      have hs : w.heap.size ≤ w.heap.size + 1 + 1 := by omega
      exact ((hb.setCell (p := ⟨_, _, none⟩) hs _).setCell (p := ⟨_, _, none⟩) hs _).setCell (p := ⟨_, _, none⟩) hs _⟩
  · rw [hv] at HV
    have HF := Lib.hid (show findR l name c = l.find? (isOp name c) by unfold findR; rw [hv]; rfl)
    clear hv
    have HI := Lib.hid (fun (w1 : World) (hY : RHeld w w1 name c) => ops_index A n cap l w.heap.size (w.heap.size + 1) name c w1 HN.out hm (HP.out.below hY.bel) hY.n0 hY.f0 (by have := hY.lt; omega) (by have := hY.lt; omega))
    by_cases hex : ∃ k, ∃ hk : k < l.length, isOp name c l[k] = true ∧ ∀ j (hj : j < k), isOp name c (l[j]'(by omega)) = false
    · obtain ⟨k, hkl, h1, h2⟩ := hex
      have hkn : k < n := by have := HN.out; omega
      have HE := Lib.hid (HF.out.trans (find_hit _ l k hkl h1 h2))
      rw [idxI_hit _ l k hkl h1 h2] at HI
      obtain ⟨b, off, rfl, hbb, q0, q1, q2⟩ := HP.out k hkl
      generalize l[k] = o at *
      clear h1 h2
      go_enter Try.func47, Try.ntmps47
      go_wp2_with fail
      refine HV.out.mono ?_; rintro e w1 ⟨rfl, hB1⟩
      have hY := hX.call hB1
      go_wp2_with fail
      refine (HI.out w1 hY).mono ?_; rintro e w2 ⟨rfl, hB2⟩
      have hZ := hY.call hB2
      obtain ⟨hb, lt, n0, f0, ⟨v0, r0⟩, ⟨v1, r1⟩, ⟨v2, r2⟩, fr⟩ := id hZ
      have fr0 := fr 0
      have q0' := (hb.cell (p := ⟨b, off + k * 3, none⟩) hbb).trans q0
      have q1' := (hb.cell (p := ⟨b, off + k * 3 + 1, none⟩) hbb).trans q1
      have q2' := (hb.cell (p := ⟨b, off + k * 3 + 2, none⟩) hbb).trans q2
      clear q0 q1 q2
      go_wp2_with fail
      refine bodyPost_ret (v := .tuple #[opV o, .bool true]) (by simp [opV, results, Try.results47, go_sem, r0, r1, r2]) rfl ⟨by rw [HE.out]; rfl, by
        have hs : w.heap.size ≤ w.heap.size + 1 + 1 := by omega
        exact ((hb.setCell (p := ⟨_, _, none⟩) hs _).setCell (p := ⟨_, _, none⟩) hs _).setCell (p := ⟨_, _, none⟩) hs _⟩
    · have hno : ∀ j (hj : j < l.length), isOp name c l[j] = false := by
        intro j
        induction j using Nat.strongRecOn with
        | ind j ih =>
          intro hj
          cases hc : isOp name c l[j] with
          | false => rfl
          | true => exact absurd ⟨j, hj, hc, fun i hi => ih i hi (by omega)⟩ hex
      have HE := Lib.hid (HF.out.trans (find_miss _ l hno))
      rw [idxI_miss _ l hno] at HI
      clear hno hex
      go_enter Try.func47, Try.ntmps47
      go_wp2_with fail
      refine HV.out.mono ?_; rintro e w1 ⟨rfl, hB1⟩
      have hY := hX.call hB1
      go_wp2_with fail
      refine (HI.out w1 hY).mono ?_; rintro e w2 ⟨rfl, hB2⟩
      have hZ := hY.call hB2
      obtain ⟨hb, lt, n0, f0, ⟨v0, r0⟩, ⟨v1, r1⟩, ⟨v2, r2⟩, fr⟩ := id hZ
      have fr0 := fr 0
      go_wp2_with fail
      refine bodyPost_ret (v := .tuple #[opV op0, .bool false]) (by simp [opV, op0, results, Try.results47, go_sem, r0, r1, r2]) rfl ⟨by rw [HE.out]; rfl, by
        have hs : w.heap.size ≤ w.heap.size + 1 + 1 := by omega
        exact ((hb.setCell (p := ⟨_, _, none⟩) hs _).setCell (p := ⟨_, _, none⟩) hs _).setCell (p := ⟨_, _, none⟩) hs _⟩
end Go.Proofs.Yteddbeifnolklaa
