/- Flags: names, the iterator. Flags: done. -/
import Derived.Test.YtfkhcpeahdkafaaGreatH06
import Derived.Shelf.Abstract
import Derived.Shelf.RegionOpen
import Derived.WalkKit
import Derived.OwnWalkIn
import Derived.TacticsInMore
import Derived.LoopNIn
import Derived.LoopIn
namespace Hb
open Go Go.RowKit
def nmL (t : Tm) : List Tm := if isAtomT t && !isNilT t then [t] else elemsT t
structure KpC (B : Nat) (W W' : World) : Prop where
 size : W.heap.size ≤ W'.heap.size
 same : ∀ (k : Nat) (o : Obj), B ≤ k → W.heap[k]? = some o → o.isCells = true → W'.heap[k]? = some o
theorem KpC.refl (B : Nat) (W : World) : KpC B W W := ⟨Nat.le_refl _, fun _ _ _ h _ => h⟩
theorem KpC.trans {B : Nat} {X Y Z : World} (h : KpC B X Y) (k : KpC B Y Z) : KpC B X Z := ⟨Nat.le_trans h.size k.size, fun i o hB hi ho => k.same i o hB (h.same i o hB hi ho) ho⟩
theorem KpC.below {B : Nat} {W W' : World} (h : Below W.heap.size W W') : KpC B W W' := ⟨h.size, fun k _ _ hk _ => (h.block k (Array.getElem?_eq_some_iff.1 hk).1).trans hk⟩
theorem KpC.put {B : Nat} (W : World) (l : Nat) (o o' : Obj) (h : W.heap[l]? = some o) (hc : o.isCells = false) : KpC B W (W.putObj l o') := ⟨by simp, fun k x _ hk hx => by
 by_cases e : k = l
 ·subst e; rw [h] at hk; injection hk with hk; subst hk; rw [hc] at hx; cases hx
 ·exact (World.putObj_heap_other e).trans hk⟩
theorem isCells_of_cell {w : World} {p : Addr} {v : Value} (h : w.cell? p = some v) : ∃ o, w.heap[p.block]? = some o ∧ o.isCells = true := by
 unfold World.cell? at h
 split at h <;> first | (rename_i e; exact ⟨_, e, rfl⟩) | cases h
theorem TmsK.cells {K : Nat → Prop} {w : World} {A : Option Addr} {l : List Tm} (h : TmsK K w A l) : TmsK (fun b => K b ∧ ∃ o, w.heap[b]? = some o ∧ o.isCells = true) w A l := by
 induction h with
 | mk A l F C hl hc _ ih =>
  refine .mk A l F C hl (fun j hj => ?_) ih
  obtain ⟨b, off, e, hk, c0, c1, c2, c3⟩ := hc j hj
  exact ⟨b, off, e, ⟨hk, isCells_of_cell (p := ⟨b, off + j * 4, none⟩) c0⟩, c0, c1, c2, c3⟩
theorem TmsK.kp {K : Nat → Prop} {B : Nat} {w w' : World} {A : Option Addr} {l : List Tm} (h : TmsK K w A l) (hK : ∀ b, K b → B ≤ b) (k : KpC B w w') : TmsK K w' A l :=
 h.cells.keep (fun b hb => by obtain ⟨o, ho, hc⟩ := hb.2; rw [ho]; exact k.same b o (hK b hb.1) ho hc) (fun _ h => h.1)
theorem TmsK.at' {K : Nat → Prop} {w : World} {A : Option Addr} {l : List Tm} (h : TmsK K w A l) : TmsAt w.heap.size w A l :=
 h.cells.at (fun b hb => by obtain ⟨o, ho, _⟩ := hb.2; exact (Array.getElem?_eq_some_iff.1 ho).1)
theorem lt_of_cell {w : World} {p : Addr} {v : Value} (h : w.cell? p = some v) : p.block < w.heap.size := by
 obtain ⟨o, ho, _⟩ := isCells_of_cell h
 exact (Array.getElem?_eq_some_iff.1 ho).1
theorem abides_below {β : Type} {B : Nat} {J : β → World → Prop} (h : AbidesFrom B J) {s : β} {W W' : World} (hs : J s W) (hB : Below W.heap.size W W') : J s W' :=
 h s W W' none hs ⟨hB.os, hB.tape, hB.output, hB.size, fun k hk _ => hB.block k hk⟩ (fun r e => by cases e)
theorem TmsK.one {K : Nat → Prop} (w : World) (t : Tm) (A : Option Addr) (cap : Nat) (e : TypeId) (hK : K w.heap.size) (h : TmsK K (w.alloc (.cells #[.int .i64 t.kind, .int .i64 t.num, .string t.name, .slice A t.args.length cap] e)) A t.args) :
  TmsK K (w.alloc (.cells #[.int .i64 t.kind, .int .i64 t.num, .string t.name, .slice A t.args.length cap] e)) (some ⟨w.heap.size, 0, none⟩) [t] := by
 refine .mk _ _ (fun _ => A) (fun _ => cap) (by simp [maxLen]) (fun j hj => ?_) (fun j hj => ?_)
 ·have h0 : j = 0 := by simpa using hj
  subst h0
  exact ⟨_, 0, rfl, hK, World.cell?_alloc_new _ _ _ 0, World.cell?_alloc_new _ _ _ 1, World.cell?_alloc_new _ _ _ 2, World.cell?_alloc_new _ _ _ 3⟩
 ·have h0 : j = 0 := by simpa using hj
  subst h0
  exact h
theorem atom_args {t : Tm} (hv : validT t = true) (h : isAtomT t = true) : t.args = [] := by
 have hk : t.kind = 2 := by simpa [isAtomT] using h
 have := ((validT_iff t).1 hv).2
 rw [Tm.allOk_eq, Bool.and_eq_true] at this
 have h1 := this.1
 unfold nodeOk at h1
 rw [hk] at h1
 simp at h1
 exact h1.2
end Hb
namespace Go.Proofs.YtfkhcpeahdkafaaGreat
open Go.RowKit Hb Go.Shelf
attribute [local go_sem] Oper.semAt_some
set_option maxRecDepth 100000
theorem f_nameSeq (t : Tm) (A : Option Addr) (cap : Nat) (w : World) : Calls Tryz.prog 148 #[tmV t A cap] w fun e w' => e = .returned (.func (.func 186) #[] #[.pointer (some ⟨w.heap.size, 0, none⟩)]) ∧ TBx w' w.heap.size t A cap ∧ w' = w.alloc (.cells #[.int .i64 t.kind, .int .i64 t.num, .string t.name, .slice A t.args.length cap] 26) := by
 have HX := Lib.hid (TBx.start w t A cap t.args.length 26 rfl)
 have hmf : ∀ (fn : Fn) (first cap : Array Value) (w : World), (Instr.makeFunc fn first cap).run Tryz.prog w = .ok (.func fn first cap) w := fun _ _ _ _ => rfl
 unfold tmV
 go_enter Tryz.func148, Tryz.ntmps148
 go_wp2_with fail
 go_ret
 exact ⟨rfl, HX.out, rfl⟩
set_option maxHeartbeats 2000000 in
theorem names_stops (m : Nat) (t : Tm) (A : Option Addr) (cap Bn : Nat) (w : World) (hv : validT t = true) (hX : TBx w Bn t A cap) (hBn : Bn < w.heap.size) (hT : TmsAt w.heap.size w A t.args) :
  SeqX Fence.wide m Tryz.prog 186 #[.pointer (some ⟨Bn, 0, none⟩)] (fun x : TR => #[tmV x.1 x.2.1 x.2.2]) (fun x W => TmsAt W.heap.size W x.2.1 x.1.args) (KpC w.heap.size) (fun xs => xs.map (·.1) = nmL t) (fun pre => pre.map (·.1) <+: nmL t) w := fun l J Jx W hW hJ hJx hY h0 => by
 have hX1 := Lib.hid (hX.call (hW.mono (Nat.le_refl _)))
 have hT1 := (hT.keep hW).mono hW.size
 have c0 := hX1.out.c0
 have c1 := hX1.out.c1
 have c2 := hX1.out.c2
 have c3 := hX1.out.c3
 refine callsIn_of_wp Tryz.func186 rfl trivial ?_ rfl
 simp only [Tryz.ntmps186, List.size_toArray, List.length_cons, List.length_nil, Nat.reduceAdd, Nat.reduceSub, Array.replicate_succ, Array.replicate_zero, List.push_toArray, List.append_toArray, List.nil_append, List.cons_append]
 gi_wp2
 refine ⟨trivial, fun h => (by cases h), (callsIn_wide.2 (t_elems t A cap _ hT1 hv)).mono ?_⟩
 rintro e w1 ⟨A1, k1, A2, k2, rfl, hB1, hN1, hN2⟩
 have hX2 := hX1.out.call hB1
 have hBn1 := Nat.lt_of_lt_of_le hBn hW.size
 have d0 := hX2.c0
 have d1 := hX2.c1
 have d2 := hX2.c2
 have d3 := hX2.c3
 have dl := hX2.lt
 obtain ⟨ta, HTA⟩ : ∃ ta, Hid (ta = tailT t) := ⟨_, Lib.hid rfl⟩
 rw [← HTA.out] at hN2 ⊢
 have HIA := Lib.hid (fun W => f_isAtom t A cap W)
 have HIN := Lib.hid (fun W => f_isNil t A cap W)
 have HN1 := Lib.hid hN1
 have HNM : Hid (nmL t = if isAtomT t && !isNilT t then [t] else elemsT t) := Lib.hid rfl
 have HAR := Lib.hid (atom_args (t := t) hv)
 have HJ0 := Lib.hid h0
 have HWS := Lib.hid hW.size
 clear hN1 hN2 hX hX1 hX2 hT1 hT c0 c1 c2 c3 hv HTA
 generalize elemsT t = EL at *
 obtain ⟨LN, HLN⟩ : ∃ LN, Hid (LN = t.args.length) := ⟨_, Lib.hid rfl⟩
 unfold tmV at HIA HIN ⊢
 rw [← HLN.out] at d3 HIA HIN ⊢
 gi_wp2
 refine ⟨trivial, fun h => (by cases h), (callsIn_wide.2 (HIA.out _)).mono ?_⟩
 rintro e w2 ⟨rfl, hB2⟩
 have hb2 := (((Below.refl w1.heap.size w1).alloc (Nat.le_refl _) (.cells #[.int .i64 ta.kind, .int .i64 ta.num, .string ta.name, .slice A2 ta.args.length k2] 26)).trans (hB2.mono (by simp)))
 have hlt2 := Nat.lt_of_lt_of_le dl hb2.size
 have e0 := (hb2.cell (p := ⟨_, 0, none⟩) dl).trans d0
 have e1 := (hb2.cell (p := ⟨_, 1, none⟩) dl).trans d1
 have e2 := (hb2.cell (p := ⟨_, 2, none⟩) dl).trans d2
 have e3 := (hb2.cell (p := ⟨_, 3, none⟩) dl).trans d3
 have HB2 := Lib.hid (hB1.trans (hb2.mono hB1.size))
 have HK2 := Lib.hid hb2
 clear hB1 hB2 hb2 d0 d1 d2 d3 dl
 generalize isAtomT t = ia at *
 cases ia
 ·gi_wp2
  refine ⟨trivial, ?_⟩
  obtain ⟨NL, HLL⟩ : ∃ NL, Hid (NL = EL.length) := ⟨_, Lib.hid rfl⟩
  have HNL : Hid (nmL t = EL) := Lib.hid (by rw [HNM.out]; simp)
  have HJ3 : Hid (J [] w2) := Lib.hid (abides_below hJ HJ0.out HB2.out)
  have HROW : Hid (TmsK (fun b => w.heap.size ≤ b) w2 A1 EL) := Lib.hid (HN1.out.keep (fun b hb => HK2.out.block b hb.2) (fun b hb => Nat.le_trans HWS.out hb.1))
  clear HIA HIN HNM HAR HJ0 HN1
  rw [← HLL.out]
  generalize EL = LL at *
  generalize A1 = AL at *
  gi_wp2
  gi_loopw [23] (fun i wr => ∃ k : Nat, ∃ pre : List TR, k ≤ NL ∧ i = .int .i64 k ∧ Hid (J pre wr) ∧ Hid (pre.map (·.1) = LL.take k) ∧ Hid (TmsK (fun b => w.heap.size ≤ b) wr AL LL)) (fun i _ => NL - (intOf i).toNat)
  case atStart => exact ⟨0, [], Nat.zero_le _, rfl, HJ3, Lib.hid (by simp), HROW⟩
  case round =>
   obtain ⟨k, pre, hk, rfl, HJK, HPR, HRK⟩ := hrel
   by_cases hlt : k < NL
   ·have hkl : k < LL.length := by have := HLL.out; omega
    obtain ⟨b, off, A', cap', hA', hb, q0, q1, q2, q3, hs⟩ := HRK.out.get k hkl
    cases hA'
    have hbl := lt_of_cell q0
    dsimp only at hbl
    try simp only [Nat.zero_add] at q0 q1 q2 q3
    obtain ⟨a, HAE⟩ : ∃ a, Hid (a = LL[k]) := ⟨_, Lib.hid rfl⟩
    rw [← HAE.out] at q0 q1 q2 q3 hs
    have hP1 : (pre ++ [((a, A', cap') : TR)]).map (fun x : TR => x.1) = LL.take (k + 1) := by rw [List.map_append, HPR.out, HAE.out, List.take_succ_eq_append_getElem hkl]; rfl
    obtain ⟨fn, tmps, assign, body, hy, hR⟩ := hY pre (a, A', cap') (wr.alloc (.cells #[.int .i64 a.kind, .int .i64 a.num, .string a.name, .slice A' a.args.length cap'] 26)) (abides_below hJ HJK.out ((Below.refl _ _).alloc (Nat.le_refl _) _)) ((hs.at'.keep ((Below.refl _ _).alloc (Nat.le_refl _) _)).mono (by simp)) (by rw [hP1, HNL.out]; exact List.take_prefix _ _)
    have HP1 := Lib.hid hP1
    have HRK2 := Lib.hid (HRK.out.kp (B := w.heap.size) (fun _ h => h) (KpC.below ((Below.refl wr.heap.size wr).alloc (Nat.le_refl _) (.cells #[.int .i64 a.kind, .int .i64 a.num, .string a.name, .slice A' a.args.length cap'] 26))))
    have hk0 : (0 : Int) ≤ (k : Int) := by omega
    have hk1 : (k : Int) < (NL : Nat) := by omega
    have hm : NL ≤ 9223372036854775807 := by have h1 := HRK.out.len; have h2 := HLL.out; unfold maxLen at h1; omega
    clear hs hP1 HRK HJK
    unfold tmV at hy
    dsimp only at hy
    gi_wp2
    refine ⟨fun h => (by cases h), hR.mono ?_⟩
    rintro e W3 (⟨rfl, hJ3, hk3⟩ | ⟨rfl, hJx3⟩)
    ·have HRK3 := Lib.hid (HRK2.out.kp (B := w.heap.size) (fun _ h => h) hk3)
     have HJK3 := Lib.hid hJ3
     clear hk3 hJ3 hR hy q0 q1 q2 q3
     gi_wp2
     go_roundw
     case rel => exact ⟨k + 1, _, by omega, by go_num, HJK3, HP1, HRK3⟩
     case measure => simp [intOf] <;> omega
    ·gi_wp2
     refine bodyPost_ret (results_none rfl _ _ _) rfl ?_
     exact ⟨⟨_, rfl⟩, .inr ⟨_, by rw [HP1.out, HNL.out]; exact List.take_prefix _ _, hJx3⟩⟩
   ·have hkL : k = NL := by omega
    subst hkL
    gi_wp2
    go_end0
    exact ⟨⟨_, rfl⟩, .inl ⟨_, by rw [HPR.out, HNL.out, HLL.out, List.take_length], HJK.out⟩⟩
 ·gi_wp2
  refine ⟨trivial, fun h => (by cases h), (callsIn_wide.2 (HIN.out _)).mono ?_⟩
  rintro e w3 ⟨rfl, hB3⟩
  have hlt3 := Nat.lt_of_lt_of_le hlt2 hB3.size
  have g0 := (hB3.cell (p := ⟨_, 0, none⟩) hlt2).trans e0
  have g1 := (hB3.cell (p := ⟨_, 1, none⟩) hlt2).trans e1
  have g2 := (hB3.cell (p := ⟨_, 2, none⟩) hlt2).trans e2
  have g3 := (hB3.cell (p := ⟨_, 3, none⟩) hlt2).trans e3
  have HB3 := Lib.hid (HB2.out.trans (hB3.mono HB2.out.size))
  have HK3 := Lib.hid (HK2.out.trans (hB3.mono HK2.out.size))
  clear hB3 e0 e1 e2 e3 hlt2 HB2 HK2
  generalize isNilT t = ni at *
  cases ni
  ·obtain ⟨LL, HLT⟩ : ∃ LL, Hid (LL = [t]) := ⟨_, Lib.hid rfl⟩
   have HLL : Hid (1 = LL.length) := Lib.hid (by rw [HLT.out]; rfl)
   have HNL : Hid (nmL t = LL) := Lib.hid (by rw [HNM.out, HLT.out]; simp)
   have HJ3 : Hid (J [] (w3.alloc (.cells #[.int .i64 t.kind, .int .i64 t.num, .string t.name, .slice A LN cap] 26))) := Lib.hid (abides_below hJ HJ0.out (HB3.out.alloc HB3.out.size _))
   have HROW : Hid (TmsK (fun b => w.heap.size ≤ b) (w3.alloc (.cells #[.int .i64 t.kind, .int .i64 t.num, .string t.name, .slice A LN cap] 26)) (some ⟨w3.heap.size, 0, none⟩) LL) := Lib.hid (by
    have := TmsK.one (K := fun b => w.heap.size ≤ b) w3 t A cap 26 (Nat.le_trans HWS.out HB3.out.size) (by rw [show t.args = [] by simpa [Hid] using HAR]; exact TmsK.nil)
    rw [HLT.out, HLN.out]; exact this)
   clear HIA HIN HNM HAR HJ0 HN1 HLT
   gi_wp2
   gi_loopw [23] (fun i wr => ∃ k : Nat, ∃ pre : List TR, k ≤ 1 ∧ i = .int .i64 k ∧ Hid (J pre wr) ∧ Hid (pre.map (·.1) = LL.take k) ∧ Hid (TmsK (fun b => w.heap.size ≤ b) wr (some ⟨w3.heap.size, 0, none⟩) LL)) (fun i _ => 1 - (intOf i).toNat)
   case atStart => exact ⟨0, [], Nat.zero_le _, rfl, HJ3, Lib.hid (by simp), HROW⟩
   case round =>
    obtain ⟨k, pre, hk, rfl, HJK, HPR, HRK⟩ := hrel
    by_cases hlt : k < 1
    ·have hkl : k < LL.length := by have := HLL.out; omega
     obtain ⟨b, off, A', cap', hA', hb, q0, q1, q2, q3, hs⟩ := HRK.out.get k hkl
     cases hA'
     have hbl := lt_of_cell q0
     dsimp only at hbl
     try simp only [Nat.zero_add] at q0 q1 q2 q3
     obtain ⟨a, HAE⟩ : ∃ a, Hid (a = LL[k]) := ⟨_, Lib.hid rfl⟩
     rw [← HAE.out] at q0 q1 q2 q3 hs
     have hP1 : (pre ++ [((a, A', cap') : TR)]).map (fun x : TR => x.1) = LL.take (k + 1) := by rw [List.map_append, HPR.out, HAE.out, List.take_succ_eq_append_getElem hkl]; rfl
     obtain ⟨fn, tmps, assign, body, hy, hR⟩ := hY pre (a, A', cap') (wr.alloc (.cells #[.int .i64 a.kind, .int .i64 a.num, .string a.name, .slice A' a.args.length cap'] 26)) (abides_below hJ HJK.out ((Below.refl _ _).alloc (Nat.le_refl _) _)) ((hs.at'.keep ((Below.refl _ _).alloc (Nat.le_refl _) _)).mono (by simp)) (by rw [hP1, HNL.out]; exact List.take_prefix _ _)
     have HP1 := Lib.hid hP1
     have HRK2 := Lib.hid (HRK.out.kp (B := w.heap.size) (fun _ h => h) (KpC.below ((Below.refl wr.heap.size wr).alloc (Nat.le_refl _) (.cells #[.int .i64 a.kind, .int .i64 a.num, .string a.name, .slice A' a.args.length cap'] 26))))
     have hk0 : (0 : Int) ≤ (k : Int) := by omega
     have hk1 : (k : Int) < (1 : Nat) := by omega
     have hm : 1 ≤ 9223372036854775807 := by have h1 := HRK.out.len; have h2 := HLL.out; unfold maxLen at h1; omega
     clear hs hP1 HRK HJK
     unfold tmV at hy
     dsimp only at hy
     gi_wp2
     refine ⟨fun h => (by cases h), hR.mono ?_⟩
     rintro e W3 (⟨rfl, hJ3, hk3⟩ | ⟨rfl, hJx3⟩)
     ·have HRK3 := Lib.hid (HRK2.out.kp (B := w.heap.size) (fun _ h => h) hk3)
      have HJK3 := Lib.hid hJ3
      clear hk3 hJ3 hR hy q0 q1 q2 q3
      gi_wp2
      go_roundw
      case rel => exact ⟨k + 1, _, by omega, by go_num, HJK3, HP1, HRK3⟩
      case measure => simp [intOf] <;> omega
     ·gi_wp2
      refine bodyPost_ret (results_none rfl _ _ _) rfl ?_
      exact ⟨⟨_, rfl⟩, .inr ⟨_, by rw [HP1.out, HNL.out]; exact List.take_prefix _ _, hJx3⟩⟩
    ·have hkL : k = 1 := by omega
     subst hkL
     gi_wp2
     go_end0
     exact ⟨⟨_, rfl⟩, .inl ⟨_, by rw [HPR.out, HNL.out, HLL.out, List.take_length], HJK.out⟩⟩
  ·obtain ⟨NL, HLL⟩ : ∃ NL, Hid (NL = EL.length) := ⟨_, Lib.hid rfl⟩
   have HNL : Hid (nmL t = EL) := Lib.hid (by rw [HNM.out]; simp)
   have HJ3 : Hid (J [] w3) := Lib.hid (abides_below hJ HJ0.out HB3.out)
   have HROW : Hid (TmsK (fun b => w.heap.size ≤ b) w3 A1 EL) := Lib.hid (HN1.out.keep (fun b hb => HK3.out.block b hb.2) (fun b hb => Nat.le_trans HWS.out hb.1))
   clear HIA HIN HNM HAR HJ0 HN1
   rw [← HLL.out]
   generalize EL = LL at *
   generalize A1 = AL at *
   gi_wp2
   gi_loopw [23] (fun i wr => ∃ k : Nat, ∃ pre : List TR, k ≤ NL ∧ i = .int .i64 k ∧ Hid (J pre wr) ∧ Hid (pre.map (·.1) = LL.take k) ∧ Hid (TmsK (fun b => w.heap.size ≤ b) wr AL LL)) (fun i _ => NL - (intOf i).toNat)
   case atStart => exact ⟨0, [], Nat.zero_le _, rfl, HJ3, Lib.hid (by simp), HROW⟩
   case round =>
    obtain ⟨k, pre, hk, rfl, HJK, HPR, HRK⟩ := hrel
    by_cases hlt : k < NL
    ·have hkl : k < LL.length := by have := HLL.out; omega
     obtain ⟨b, off, A', cap', hA', hb, q0, q1, q2, q3, hs⟩ := HRK.out.get k hkl
     cases hA'
     have hbl := lt_of_cell q0
     dsimp only at hbl
     try simp only [Nat.zero_add] at q0 q1 q2 q3
     obtain ⟨a, HAE⟩ : ∃ a, Hid (a = LL[k]) := ⟨_, Lib.hid rfl⟩
     rw [← HAE.out] at q0 q1 q2 q3 hs
     have hP1 : (pre ++ [((a, A', cap') : TR)]).map (fun x : TR => x.1) = LL.take (k + 1) := by rw [List.map_append, HPR.out, HAE.out, List.take_succ_eq_append_getElem hkl]; rfl
     obtain ⟨fn, tmps, assign, body, hy, hR⟩ := hY pre (a, A', cap') (wr.alloc (.cells #[.int .i64 a.kind, .int .i64 a.num, .string a.name, .slice A' a.args.length cap'] 26)) (abides_below hJ HJK.out ((Below.refl _ _).alloc (Nat.le_refl _) _)) ((hs.at'.keep ((Below.refl _ _).alloc (Nat.le_refl _) _)).mono (by simp)) (by rw [hP1, HNL.out]; exact List.take_prefix _ _)
     have HP1 := Lib.hid hP1
     have HRK2 := Lib.hid (HRK.out.kp (B := w.heap.size) (fun _ h => h) (KpC.below ((Below.refl wr.heap.size wr).alloc (Nat.le_refl _) (.cells #[.int .i64 a.kind, .int .i64 a.num, .string a.name, .slice A' a.args.length cap'] 26))))
     have hk0 : (0 : Int) ≤ (k : Int) := by omega
     have hk1 : (k : Int) < (NL : Nat) := by omega
     have hm : NL ≤ 9223372036854775807 := by have h1 := HRK.out.len; have h2 := HLL.out; unfold maxLen at h1; omega
     clear hs hP1 HRK HJK
     unfold tmV at hy
     dsimp only at hy
     gi_wp2
     refine ⟨fun h => (by cases h), hR.mono ?_⟩
     rintro e W3 (⟨rfl, hJ3, hk3⟩ | ⟨rfl, hJx3⟩)
     ·have HRK3 := Lib.hid (HRK2.out.kp (B := w.heap.size) (fun _ h => h) hk3)
      have HJK3 := Lib.hid hJ3
      clear hk3 hJ3 hR hy q0 q1 q2 q3
      gi_wp2
      go_roundw
      case rel => exact ⟨k + 1, _, by omega, by go_num, HJK3, HP1, HRK3⟩
      case measure => simp [intOf] <;> omega
     ·gi_wp2
      refine bodyPost_ret (results_none rfl _ _ _) rfl ?_
      exact ⟨⟨_, rfl⟩, .inr ⟨_, by rw [HP1.out, HNL.out]; exact List.take_prefix _ _, hJx3⟩⟩
    ·have hkL : k = NL := by omega
     subst hkL
     gi_wp2
     go_end0
     exact ⟨⟨_, rfl⟩, .inl ⟨_, by rw [HPR.out, HNL.out, HLL.out, List.take_length], HJK.out⟩⟩
end Go.Proofs.YtfkhcpeahdkafaaGreat
namespace Hb
open Go Go.RowKit
structure RD (w0 W0 X : World) : Prop where
 bel : Below (w0.heap.size + 1 + 1) W0 X
 ex : ∃ s t : List Value, s.length = 6 ∧ t.length = 4 ∧ Bks X [(w0.heap.size + 1 + 1 + 1, t), (w0.heap.size + 1 + 1, s)]
theorem RD.e4 {w0 W0 X : World} (h : RD w0 W0 X) (i : Nat) (hi : i < 6) : ∃ v, X.cell? ⟨w0.heap.size + 1 + 1, i, none⟩ = some v := by
 obtain ⟨s, t, hs, ht, hb⟩ := h.ex
 exact ⟨s[i], hb.cell 1 i rfl (List.getElem?_eq_getElem (by omega))⟩
theorem RD.e6 {w0 W0 X : World} (h : RD w0 W0 X) (i : Nat) (hi : i < 4) : ∃ v, X.cell? ⟨w0.heap.size + 1 + 1 + 1, i, none⟩ = some v := by
 obtain ⟨s, t, hs, ht, hb⟩ := h.ex
 exact ⟨t[i], hb.cell 0 i rfl (List.getElem?_eq_getElem (by omega))⟩
theorem RD.f4 {w0 W0 X : World} (h : RD w0 W0 X) (i : Nat) : X.frozen? ⟨w0.heap.size + 1 + 1, i, none⟩ = false := by
 obtain ⟨s, t, hs, ht, hb⟩ := h.ex
 exact hb.fz 1 i rfl
theorem RD.f6 {w0 W0 X : World} (h : RD w0 W0 X) (i : Nat) : X.frozen? ⟨w0.heap.size + 1 + 1 + 1, i, none⟩ = false := by
 obtain ⟨s, t, hs, ht, hb⟩ := h.ex
 exact hb.fz 0 i rfl
theorem RD.l6 {w0 W0 X : World} (h : RD w0 W0 X) : w0.heap.size + 1 + 1 + 1 < X.heap.size := by
 obtain ⟨s, t, hs, ht, hb⟩ := h.ex
 exact hb.lt 0 rfl
theorem RD.l4 {w0 W0 X : World} (h : RD w0 W0 X) : w0.heap.size + 1 + 1 < X.heap.size := Nat.lt_of_succ_lt h.l6
theorem RD.call {w0 W0 X X' : World} (h : RD w0 W0 X) (hB : Below X.heap.size X X') : RD w0 W0 X' := by
 obtain ⟨s, t, hs, ht, hb⟩ := h.ex
 exact ⟨h.bel.trans (hB.mono (Nat.le_of_lt h.l4)), s, t, hs, ht, hb.call hB⟩
theorem RD.al {w0 W0 X : World} (h : RD w0 W0 X) (o : Obj) : RD w0 W0 (X.alloc o) := h.call ((Below.refl _ _).alloc (Nat.le_refl _) o)
theorem RD.dr {w0 W0 X : World} (h : RD w0 W0 X) : RD w0 W0 X.drew := h.call (Below.refl _ _).drew
theorem RD.s4 {w0 W0 X : World} (h : RD w0 W0 X) (i : Nat) (v : Value) : RD w0 W0 (X.setCell ⟨w0.heap.size + 1 + 1, i, none⟩ v) := by
 obtain ⟨s, t, hs, ht, hb⟩ := h.ex
 exact ⟨h.bel.setCell (p := ⟨_, _, none⟩) (Nat.le_refl _) _, s.set i v, t, by simpa using hs, ht, hb.set 1 i rfl v⟩
theorem RD.s6 {w0 W0 X : World} (h : RD w0 W0 X) (i : Nat) (v : Value) : RD w0 W0 (X.setCell ⟨w0.heap.size + 1 + 1 + 1, i, none⟩ v) := by
 obtain ⟨s, t, hs, ht, hb⟩ := h.ex
 exact ⟨h.bel.setCell (p := ⟨_, _, none⟩) (Nat.le_succ _) _, s, t.set i v, hs, by simpa using ht, hb.set 0 i rfl v⟩
theorem RD.fin {w0 W0 X : World} (h : RD w0 W0 X) (v0 v1 v2 v3 v4 v5 u0 u1 u2 u3 : Value) : Bks (((((((((((X.setCell ⟨w0.heap.size + 1 + 1, 0, none⟩ v0).setCell ⟨w0.heap.size + 1 + 1, 1, none⟩ v1).setCell ⟨w0.heap.size + 1 + 1, 2, none⟩ v2).setCell ⟨w0.heap.size + 1 + 1, 3, none⟩ v3).setCell ⟨w0.heap.size + 1 + 1, 4, none⟩ v4).setCell ⟨w0.heap.size + 1 + 1, 5, none⟩ v5).setCell ⟨w0.heap.size + 1 + 1 + 1, 0, none⟩ u0).setCell ⟨w0.heap.size + 1 + 1 + 1, 1, none⟩ u1).setCell ⟨w0.heap.size + 1 + 1 + 1, 2, none⟩ u2).setCell ⟨w0.heap.size + 1 + 1 + 1, 3, none⟩ u3)) [(w0.heap.size + 1 + 1 + 1, [u0, u1, u2, u3]), (w0.heap.size + 1 + 1, [v0, v1, v2, v3, v4, v5])] := by
 obtain ⟨s, t, hs, ht, hb⟩ := h.ex
 rcases s with _ | ⟨a0, _ | ⟨a1, _ | ⟨a2, _ | ⟨a3, _ | ⟨a4, _ | ⟨a5, _ | ⟨a6, s⟩⟩⟩⟩⟩⟩⟩ <;> simp at hs
 rcases t with _ | ⟨b0, _ | ⟨b1, _ | ⟨b2, _ | ⟨b3, _ | ⟨b4, t⟩⟩⟩⟩⟩ <;> simp at ht
 exact (((((((((hb.set 1 0 rfl v0).set 1 1 rfl v1).set 1 2 rfl v2).set 1 3 rfl v3).set 1 4 rfl v4).set 1 5 rfl v5).set 0 0 rfl u0).set 0 1 rfl u1).set 0 2 rfl u2).set 0 3 rfl u3
theorem RD.keep {w0 X : World} (v0 v1 v2 v3 v4 v5 u0 u1 u2 u3 : Value) (k : Nat) (h1 : k ≠ w0.heap.size + 1 + 1) (h2 : k ≠ w0.heap.size + 1 + 1 + 1) : (((((((((((X.setCell ⟨w0.heap.size + 1 + 1, 0, none⟩ v0).setCell ⟨w0.heap.size + 1 + 1, 1, none⟩ v1).setCell ⟨w0.heap.size + 1 + 1, 2, none⟩ v2).setCell ⟨w0.heap.size + 1 + 1, 3, none⟩ v3).setCell ⟨w0.heap.size + 1 + 1, 4, none⟩ v4).setCell ⟨w0.heap.size + 1 + 1, 5, none⟩ v5).setCell ⟨w0.heap.size + 1 + 1 + 1, 0, none⟩ u0).setCell ⟨w0.heap.size + 1 + 1 + 1, 1, none⟩ u1).setCell ⟨w0.heap.size + 1 + 1 + 1, 2, none⟩ u2).setCell ⟨w0.heap.size + 1 + 1 + 1, 3, none⟩ u3)).heap[k]? = X.heap[k]? := by
 rw [heap_setCell_other _ _ _ _ h2, heap_setCell_other _ _ _ _ h2, heap_setCell_other _ _ _ _ h2, heap_setCell_other _ _ _ _ h2, heap_setCell_other _ _ _ _ h1, heap_setCell_other _ _ _ _ h1, heap_setCell_other _ _ _ _ h1, heap_setCell_other _ _ _ _ h1, heap_setCell_other _ _ _ _ h1, heap_setCell_other _ _ _ _ h1]
theorem RD.bels {w0 W0 X : World} (h : RD w0 W0 X) (v0 v1 v2 v3 v4 v5 u0 u1 u2 u3 : Value) : RD w0 W0 (((((((((((X.setCell ⟨w0.heap.size + 1 + 1, 0, none⟩ v0).setCell ⟨w0.heap.size + 1 + 1, 1, none⟩ v1).setCell ⟨w0.heap.size + 1 + 1, 2, none⟩ v2).setCell ⟨w0.heap.size + 1 + 1, 3, none⟩ v3).setCell ⟨w0.heap.size + 1 + 1, 4, none⟩ v4).setCell ⟨w0.heap.size + 1 + 1, 5, none⟩ v5).setCell ⟨w0.heap.size + 1 + 1 + 1, 0, none⟩ u0).setCell ⟨w0.heap.size + 1 + 1 + 1, 1, none⟩ u1).setCell ⟨w0.heap.size + 1 + 1 + 1, 2, none⟩ u2).setCell ⟨w0.heap.size + 1 + 1 + 1, 3, none⟩ u3)) := (RD.s6 (RD.s6 (RD.s6 (RD.s6 (RD.s4 (RD.s4 (RD.s4 (RD.s4 (RD.s4 (RD.s4 h _ _) _ _) _ _) _ _) _ _) _ _) _ _) _ _) _ _) _ _)
end Hb
namespace Go.Proofs.YtfkhcpeahdkafaaGreat
open Go.RowKit Hb
set_option maxRecDepth 100000
set_option maxHeartbeats 3200000 in
theorem f_done (OA : Option Addr) (on oc : Nat) (q u : Int) (c d : Bool) (CA : Option Addr) (cn cc : Nat) (t : Tm) (A : Option Addr) (cap : Nat) (w : World) (hT : TmsAt w.heap.size w A t.args) (hv : validT t = true) :
  Calls Tryz.prog 151 #[.agg #[.slice OA on oc, .int .i64 q, .int .i64 u, .bool c, .bool d, .slice CA cn cc], tmV t A cap] w fun e w' => ∃ b, e = .returned (.tuple #[.agg #[.slice OA on oc, .int .i64 q, .int .i64 u, .bool c, .bool d, .slice CA cn cc], .slice (some ⟨b, 0, none⟩) 1 1, .agg #[.int .i64 0, .int .i64 0, .string ⟨#[]⟩, .slice none 0 0], .int .i64 0]) ∧ Below w.heap.size w w' ∧ TmsK (fun b => w.heap.size ≤ b ∧ b < w'.heap.size) w' (some ⟨b, 0, none⟩) [cloneT t] := by
 have HT := Lib.hid hT
 have HCV : Hid (cloneT t = t) := Lib.hid (by unfold cloneT; rw [if_pos hv])
 have hCL : ∀ W, Below w.heap.size w W → Calls Tryz.prog 137 #[tmV t A cap] W fun e w' => ∃ A' cap', e = .returned (tmV (cloneT t) A' cap') ∧ Below W.heap.size W w' ∧ NewT W w' A' (cloneT t).args := fun W hW => t_clone t A cap W ((HT.out.keep hW).mono hW.size)
 rw [HCV.out] at hCL ⊢
 clear hT hv
 obtain ⟨LN, HLN⟩ : ∃ LN, Hid (LN = t.args.length) := ⟨_, Lib.hid rfl⟩
 unfold tmV at hCL ⊢
 rw [← HLN.out] at hCL ⊢
 have HCL := Lib.hid hCL
 clear hCL
 go_enter Tryz.func151, Tryz.ntmps151
 go_wp2_with fail
 have hB0 : Below w.heap.size w ((((w.alloc (.cells #[.slice OA on oc, .int .i64 q, .int .i64 u, .bool c, .bool d, .slice CA cn cc] 43)).alloc (.cells #[.int .i64 t.kind, .int .i64 t.num, .string t.name, .slice A LN cap] 26)).alloc (.cells #[.slice none 0 0, .int .i64 0, .int .i64 0, .bool false, .bool false, .slice none 0 0] 43)).alloc (.cells #[.int .i64 0, .int .i64 0, .string ⟨#[]⟩, .slice none 0 0] 26)) := ((((Below.refl _ w).alloc (Nat.le_refl _) _).alloc (by simp) _).alloc (by simp; omega) _).alloc (by simp; omega) _
 have hK0 : Bks ((((w.alloc (.cells #[.slice OA on oc, .int .i64 q, .int .i64 u, .bool c, .bool d, .slice CA cn cc] 43)).alloc (.cells #[.int .i64 t.kind, .int .i64 t.num, .string t.name, .slice A LN cap] 26)).alloc (.cells #[.slice none 0 0, .int .i64 0, .int .i64 0, .bool false, .bool false, .slice none 0 0] 43)).alloc (.cells #[.int .i64 0, .int .i64 0, .string ⟨#[]⟩, .slice none 0 0] 26)) [(w.heap.size + 1 + 1 + 1, [.int .i64 0, .int .i64 0, .string ⟨#[]⟩, .slice none 0 0]), (w.heap.size + 1 + 1, [.slice none 0 0, .int .i64 0, .int .i64 0, .bool false, .bool false, .slice none 0 0]), (w.heap.size + 1, [.int .i64 t.kind, .int .i64 t.num, .string t.name, .slice A LN cap]), (w.heap.size, [.slice OA on oc, .int .i64 q, .int .i64 u, .bool c, .bool d, .slice CA cn cc])] := ((((Bks.nil w).new [.slice OA on oc, .int .i64 q, .int .i64 u, .bool c, .bool d, .slice CA cn cc] 43 rfl).new [.int .i64 t.kind, .int .i64 t.num, .string t.name, .slice A LN cap] 26 (by simp)).new [.slice none 0 0, .int .i64 0, .int .i64 0, .bool false, .bool false, .slice none 0 0] 43 (by simp)).new [.int .i64 0, .int .i64 0, .string ⟨#[]⟩, .slice none 0 0] 26 (by simp)
 obtain ⟨W0, HW0⟩ : ∃ W0, Hid (W0 = (((w.alloc (.cells #[.slice OA on oc, .int .i64 q, .int .i64 u, .bool c, .bool d, .slice CA cn cc] 43)).alloc (.cells #[.int .i64 t.kind, .int .i64 t.num, .string t.name, .slice A LN cap] 26)).alloc (.cells #[.slice none 0 0, .int .i64 0, .int .i64 0, .bool false, .bool false, .slice none 0 0] 43)).alloc (.cells #[.int .i64 0, .int .i64 0, .string ⟨#[]⟩, .slice none 0 0] 26)) := ⟨_, Lib.hid rfl⟩
 rw [← HW0.out] at hB0 hK0 ⊢
 have HS : Hid (∀ X, RD w W0 X → (X.cell? ⟨w.heap.size, 0, none⟩ = some (.slice OA on oc) ∧ X.cell? ⟨w.heap.size, 1, none⟩ = some (.int .i64 q) ∧ X.cell? ⟨w.heap.size, 2, none⟩ = some (.int .i64 u) ∧ X.cell? ⟨w.heap.size, 3, none⟩ = some (.bool c) ∧ X.cell? ⟨w.heap.size, 4, none⟩ = some (.bool d) ∧ X.cell? ⟨w.heap.size, 5, none⟩ = some (.slice CA cn cc) ∧ X.cell? ⟨w.heap.size + 1, 0, none⟩ = some (.int .i64 t.kind) ∧ X.cell? ⟨w.heap.size + 1, 1, none⟩ = some (.int .i64 t.num) ∧ X.cell? ⟨w.heap.size + 1, 2, none⟩ = some (.string t.name) ∧ X.cell? ⟨w.heap.size + 1, 3, none⟩ = some (.slice A LN cap) ∧ RD w W0 X)) := Lib.hid fun X hX => ⟨(hX.bel.cell (p := ⟨w.heap.size, 0, none⟩) (show w.heap.size < w.heap.size + 1 + 1 by omega)).trans (hK0.cell 3 0 rfl rfl), (hX.bel.cell (p := ⟨w.heap.size, 1, none⟩) (show w.heap.size < w.heap.size + 1 + 1 by omega)).trans (hK0.cell 3 1 rfl rfl), (hX.bel.cell (p := ⟨w.heap.size, 2, none⟩) (show w.heap.size < w.heap.size + 1 + 1 by omega)).trans (hK0.cell 3 2 rfl rfl), (hX.bel.cell (p := ⟨w.heap.size, 3, none⟩) (show w.heap.size < w.heap.size + 1 + 1 by omega)).trans (hK0.cell 3 3 rfl rfl), (hX.bel.cell (p := ⟨w.heap.size, 4, none⟩) (show w.heap.size < w.heap.size + 1 + 1 by omega)).trans (hK0.cell 3 4 rfl rfl), (hX.bel.cell (p := ⟨w.heap.size, 5, none⟩) (show w.heap.size < w.heap.size + 1 + 1 by omega)).trans (hK0.cell 3 5 rfl rfl), (hX.bel.cell (p := ⟨w.heap.size + 1, 0, none⟩) (show w.heap.size + 1 < w.heap.size + 1 + 1 by omega)).trans (hK0.cell 2 0 rfl rfl), (hX.bel.cell (p := ⟨w.heap.size + 1, 1, none⟩) (show w.heap.size + 1 < w.heap.size + 1 + 1 by omega)).trans (hK0.cell 2 1 rfl rfl), (hX.bel.cell (p := ⟨w.heap.size + 1, 2, none⟩) (show w.heap.size + 1 < w.heap.size + 1 + 1 by omega)).trans (hK0.cell 2 2 rfl rfl), (hX.bel.cell (p := ⟨w.heap.size + 1, 3, none⟩) (show w.heap.size + 1 < w.heap.size + 1 + 1 by omega)).trans (hK0.cell 2 3 rfl rfl), hX⟩
 have HOF : Hid (∀ X, (X.cell? ⟨w.heap.size, 0, none⟩ = some (.slice OA on oc) ∧ X.cell? ⟨w.heap.size, 1, none⟩ = some (.int .i64 q) ∧ X.cell? ⟨w.heap.size, 2, none⟩ = some (.int .i64 u) ∧ X.cell? ⟨w.heap.size, 3, none⟩ = some (.bool c) ∧ X.cell? ⟨w.heap.size, 4, none⟩ = some (.bool d) ∧ X.cell? ⟨w.heap.size, 5, none⟩ = some (.slice CA cn cc) ∧ X.cell? ⟨w.heap.size + 1, 0, none⟩ = some (.int .i64 t.kind) ∧ X.cell? ⟨w.heap.size + 1, 1, none⟩ = some (.int .i64 t.num) ∧ X.cell? ⟨w.heap.size + 1, 2, none⟩ = some (.string t.name) ∧ X.cell? ⟨w.heap.size + 1, 3, none⟩ = some (.slice A LN cap) ∧ RD w W0 X) → RD w W0 X) := Lib.hid fun X h => h.2.2.2.2.2.2.2.2.2.2
 have HBL0 := Lib.hid hB0
 have hRf : Hid (RD w W0 W0.drew) := Lib.hid (RD.dr ⟨Below.refl _ _, [.slice none 0 0, .int .i64 0, .int .i64 0, .bool false, .bool false, .slice none 0 0], [.int .i64 0, .int .i64 0, .string ⟨#[]⟩, .slice none 0 0], rfl, rfl, hK0.tk 2⟩)
 have HBR : Hid (∀ X, RD w W0 X → Below w.heap.size w X) := Lib.hid fun X hX => HBL0.out.trans (hX.bel.mono (by omega))
 clear hB0 hK0 HW0
 go_region_held3 (fun X => (X.cell? ⟨w.heap.size, 0, none⟩ = some (.slice OA on oc) ∧ X.cell? ⟨w.heap.size, 1, none⟩ = some (.int .i64 q) ∧ X.cell? ⟨w.heap.size, 2, none⟩ = some (.int .i64 u) ∧ X.cell? ⟨w.heap.size, 3, none⟩ = some (.bool c) ∧ X.cell? ⟨w.heap.size, 4, none⟩ = some (.bool d) ∧ X.cell? ⟨w.heap.size, 5, none⟩ = some (.slice CA cn cc) ∧ X.cell? ⟨w.heap.size + 1, 0, none⟩ = some (.int .i64 t.kind) ∧ X.cell? ⟨w.heap.size + 1, 1, none⟩ = some (.int .i64 t.num) ∧ X.cell? ⟨w.heap.size + 1, 2, none⟩ = some (.string t.name) ∧ X.cell? ⟨w.heap.size + 1, 3, none⟩ = some (.slice A LN cap) ∧ RD w W0 X))
   (first
    | (with_reducible refine HS.out _ ?_; (repeat (with_reducible first | exact hX4 | exact hRf.out | refine RD.al ?_ _ | refine RD.s4 ?_ _ _ | refine RD.s6 ?_ _ _)); done)
    | fail)
   (first
    | (go_at_call 137; (with_reducible refine (HCL.out _ (HBR.out _ (HOF.out _ (by with_reducible assumption)))).mono ?_); rintro e w4 ⟨A4, c4, rfl, hB4, hN4⟩; have hN5 := hN4.keep (w' := w4) (K' := fun b => w.heap.size + 1 + 1 + 1 < b ∧ b < w4.heap.size) (fun _ _ => rfl) (fun b hb => ⟨Nat.lt_of_lt_of_le (RD.l6 (HOF.out _ (by with_reducible assumption))) hb.1, hb.2⟩); have hX4 := RD.call (HOF.out _ (by with_reducible assumption)) hB4; obtain ⟨u0, r0⟩ := hX4.e4 0 (by decide); obtain ⟨u1, r1⟩ := hX4.e4 1 (by decide); obtain ⟨u2, r2⟩ := hX4.e4 2 (by decide); obtain ⟨u3, r3⟩ := hX4.e4 3 (by decide); obtain ⟨u4, r4⟩ := hX4.e4 4 (by decide); obtain ⟨u5, r5⟩ := hX4.e4 5 (by decide); obtain ⟨v0, s0⟩ := hX4.e6 0 (by decide); obtain ⟨v1, s1⟩ := hX4.e6 1 (by decide); obtain ⟨v2, s2⟩ := hX4.e6 2 (by decide); obtain ⟨v3, s3⟩ := hX4.e6 3 (by decide); have f0 := hX4.f4 0; have f1 := hX4.f4 1; have f2 := hX4.f4 2; have f3 := hX4.f4 3; have f4 := hX4.f4 4; have f5 := hX4.f4 5; have z0 := hX4.f6 0; have z1 := hX4.f6 1; have z2 := hX4.f6 2; have z3 := hX4.f6 3; have l4 := hX4.l4; have l6 := hX4.l6)
    | fail)
 all_goals
  have HF := Lib.hid ((hX4.fin (.slice OA on oc) (.int .i64 q) (.int .i64 u) (.bool c) (.bool d) (.slice CA cn cc) (.int .i64 0) (.int .i64 0) (.string ⟨#[]⟩) (.slice none 0 0)).al (.cells #[.int .i64 t.kind, .int .i64 t.num, .string t.name, .slice A4 LN c4] 26))
  have HBF := Lib.hid (HBR.out _ ((hX4.bels (.slice OA on oc) (.int .i64 q) (.int .i64 u) (.bool c) (.bool d) (.slice CA cn cc) (.int .i64 0) (.int .i64 0) (.string ⟨#[]⟩) (.slice none 0 0)).al (.cells #[.int .i64 t.kind, .int .i64 t.num, .string t.name, .slice A4 LN c4] 26)))
  have HNF := Lib.hid hN5
  have HSF := Lib.hid (hX4.l6)
  have HKF := Lib.hid (RD.keep (w0 := w) (X := w4) (.slice OA on oc) (.int .i64 q) (.int .i64 u) (.bool c) (.bool d) (.slice CA cn cc) (.int .i64 0) (.int .i64 0) (.string ⟨#[]⟩) (.slice none 0 0))
  clear hX4 hN4 hN5 hB4 r0 u0 f0 r1 u1 f1 r2 u2 f2 r3 u3 f3 r4 u4 f4 r5 u5 f5 s0 v0 z0 s1 v1 z1 s2 v2 z2 s3 v3 z3 l4 l6
  go_wp2_with fail
  obtain ⟨wx, hwx⟩ : ∃ wx, wx = ((((((((((w4.setCell ⟨w.heap.size + 1 + 1, 0, none⟩ (.slice OA on oc)).setCell ⟨w.heap.size + 1 + 1, 1, none⟩ (.int .i64 q)).setCell ⟨w.heap.size + 1 + 1, 2, none⟩ (.int .i64 u)).setCell ⟨w.heap.size + 1 + 1, 3, none⟩ (.bool c)).setCell ⟨w.heap.size + 1 + 1, 4, none⟩ (.bool d)).setCell ⟨w.heap.size + 1 + 1, 5, none⟩ (.slice CA cn cc)).setCell ⟨w.heap.size + 1 + 1 + 1, 0, none⟩ (.int .i64 0)).setCell ⟨w.heap.size + 1 + 1 + 1, 1, none⟩ (.int .i64 0)).setCell ⟨w.heap.size + 1 + 1 + 1, 2, none⟩ (.string ⟨#[]⟩)).setCell ⟨w.heap.size + 1 + 1 + 1, 3, none⟩ (.slice none 0 0)) := ⟨_, rfl⟩
  have hsz : wx.heap.size = w4.heap.size := by rw [hwx]; simp
  have hkf : ∀ k, k ≠ w.heap.size + 1 + 1 → k ≠ w.heap.size + 1 + 1 + 1 → wx.heap[k]? = w4.heap[k]? := by rw [hwx]; exact HKF.out
  have hf := HF.out
  have hbf := HBF.out
  rw [← hwx] at hf hbf
  have hrow : TmsK (fun b => w.heap.size ≤ b ∧ b < (wx.alloc (.cells #[.int .i64 t.kind, .int .i64 t.num, .string t.name, .slice A4 LN c4] 26)).heap.size) (wx.alloc (.cells #[.int .i64 t.kind, .int .i64 t.num, .string t.name, .slice A4 LN c4] 26)) (some ⟨w4.heap.size, 0, none⟩) [t] := by
   have h1 := HSF.out
   have := TmsK.one (K := fun b => w.heap.size ≤ b ∧ b < w4.heap.size + 1) wx t A4 c4 26 (by rw [hsz]; omega) (HNF.out.keep (fun b hb => (Below.heap_alloc _ _ _ (by rw [hsz]; exact hb.2)).trans (hkf b (by omega) (by omega))) (fun b hb => by omega))
   rw [hsz, ← HLN.out] at this
   exact this.keep (fun _ _ => rfl) (fun b hb => ⟨hb.1, by rw [World.size_alloc, hsz]; exact hb.2⟩)
  rw [← hwx]
  have a0 := hf.cell 1 0 (g := w.heap.size + 1 + 1) (v := .slice OA on oc) rfl rfl
  have a1 := hf.cell 1 1 (g := w.heap.size + 1 + 1) (v := .int .i64 q) rfl rfl
  have a2 := hf.cell 1 2 (g := w.heap.size + 1 + 1) (v := .int .i64 u) rfl rfl
  have a3 := hf.cell 1 3 (g := w.heap.size + 1 + 1) (v := .bool c) rfl rfl
  have a4 := hf.cell 1 4 (g := w.heap.size + 1 + 1) (v := .bool d) rfl rfl
  have a5 := hf.cell 1 5 (g := w.heap.size + 1 + 1) (v := .slice CA cn cc) rfl rfl
  have b0 := hf.cell 0 0 (g := w.heap.size + 1 + 1 + 1) (v := .int .i64 0) rfl rfl
  have b1 := hf.cell 0 1 (g := w.heap.size + 1 + 1 + 1) (v := .int .i64 0) rfl rfl
  have b2 := hf.cell 0 2 (g := w.heap.size + 1 + 1 + 1) (v := .string ⟨#[]⟩) rfl rfl
  have b3 := hf.cell 0 3 (g := w.heap.size + 1 + 1 + 1) (v := .slice none 0 0) rfl rfl
  exact bodyPost_ret (v := .tuple #[.agg #[.slice OA on oc, .int .i64 q, .int .i64 u, .bool c, .bool d, .slice CA cn cc], .slice (some ⟨w4.heap.size, 0, none⟩) 1 1, .agg #[.int .i64 0, .int .i64 0, .string ⟨#[]⟩, .slice none 0 0], .int .i64 0]) (by simp [results, Tryz.results151, go_sem, a0, a1, a2, a3, a4, a5, b0, b1, b2, b3]) rfl ⟨_, rfl, hbf, hrow⟩
end Go.Proofs.YtfkhcpeahdkafaaGreat
