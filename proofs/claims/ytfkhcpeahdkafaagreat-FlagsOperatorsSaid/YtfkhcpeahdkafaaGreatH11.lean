/- Flags: plain words; Default, Valid, the closures. Contracts of layer 1: classes, digits, escapes; the reference's too. Contracts of layer 1: conversion tables. Flags: Atom, Int; the closures; table. Flags: table. Flags: find. -/
import Derived.Test.YtfkhcpeahdkafaaGreatH04
import Derived.Test.YtfkhcpeahdkafaaGreatProg
import Derived.Test.YtfkhcpeahdkafaaGreatH01
import Derived.Lib.Bytealg
namespace Hb
open Go Go.RowKit
structure FlR where
 q : Int
 u : Int
 c : Bool
 d : Bool
def flV (f : FlR) : Value := .agg #[.int .i64 f.q, .int .i64 f.u, .bool f.c, .bool f.d]
def flOk (f : FlR) : Bool := decide (1 ≤ f.q) && (decide (f.q ≤ 3) && (f.u == 1 || f.u == 2))
def flDef : FlR := ⟨1, 1, false, false⟩
def fl0 : FlR := ⟨0, 0, false, false⟩
def fNmL : List ByteArray := [⟨#[98, 111, 117, 110, 100, 101, 100]⟩, ⟨#[99, 104, 97, 114, 95, 99, 111, 110, 118, 101, 114, 115, 105, 111, 110]⟩, ⟨#[100, 101, 98, 117, 103]⟩, ⟨#[100, 111, 117, 98, 108, 101, 95, 113, 117, 111, 116, 101, 115]⟩, ⟨#[105, 110, 116, 101, 103, 101, 114, 95, 114, 111, 117, 110, 100, 105, 110, 103, 95, 102, 117, 110, 99, 116, 105, 111, 110]⟩, ⟨#[109, 97, 120, 95, 97, 114, 105, 116, 121]⟩, ⟨#[109, 97, 120, 95, 105, 110, 116, 101, 103, 101, 114]⟩, ⟨#[109, 105, 110, 95, 105, 110, 116, 101, 103, 101, 114]⟩, ⟨#[117, 110, 107, 110, 111, 119, 110]⟩]
def fN (k : Nat) : ByteArray := fNmL.getD k ⟨#[]⟩
def sOffOn : List ByteArray := [⟨#[111, 102, 102]⟩, ⟨#[111, 110]⟩]
def sQuo : List ByteArray := [⟨#[99, 111, 100, 101, 115]⟩, ⟨#[99, 104, 97, 114, 115]⟩, ⟨#[97, 116, 111, 109]⟩]
def sUnk : List ByteArray := [⟨#[101, 114, 114, 111, 114]⟩, ⟨#[102, 97, 105, 108]⟩]
def fVL (k : Nat) : List ByteArray := [[], sOffOn, sOffOn, sQuo, [], [], [], [], sUnk].getD k []
def atomT (s : ByteArray) : Tm := .mk 2 0 s []
def intT (n : Int) : Tm := .mk 1 n ⟨#[]⟩ []
def fFx (k : Nat) : Tm := [atomT ⟨#[116, 114, 117, 101]⟩, tm0, tm0, tm0, atomT ⟨#[116, 111, 119, 97, 114, 100, 95, 122, 101, 114, 111]⟩, intT 8, intT 9223372036854775807, intT (-9223372036854775808), tm0].getD k tm0
def fGet (f : FlR) (k : Nat) : Int := [0, (if f.c = true then 1 else 0), (if f.d = true then 1 else 0), f.q - 1, 0, 0, 0, 0, f.u - 1].getD k 0
def fSet (f : FlR) (k : Nat) (i : Int) : FlR := if k = 1 then { f with c := i == 1 } else if k = 2 then { f with d := i == 1 } else if k = 3 then { f with q := i + 1 } else if k = 8 then { f with u := i + 1 } else f
end Hb
namespace Go.Proofs.YtfkhcpeahdkafaaGreat
open Go.RowKit Hb
set_option maxRecDepth 100000
theorem f_default (w : World) : Calls Tryz.prog 10 #[] w fun e w' => e = .returned (flV flDef) ∧ Below w.heap.size w w' := by
 have hB := (Below.refl w.heap.size w).alloc (Nat.le_refl _) (.cells #[.int .i64 1, .int .i64 1, .bool false, .bool false] 23)
 go_enter Tryz.func10, Tryz.ntmps10
 go_wp2_with fail
 exact bodyPost_ret (v := flV flDef) (by simp [results, Tryz.results10, go_sem, flV, flDef]) rfl ⟨rfl, hB⟩
theorem f_valid (f : FlR) (w : World) : Calls Tryz.prog 12 #[flV f] w fun e w' => e = .returned (.bool (flOk f)) ∧ Below w.heap.size w w' := by
 have hB := (Below.refl w.heap.size w).alloc (Nat.le_refl _) (.cells #[.int .i64 f.q, .int .i64 f.u, .bool f.c, .bool f.d] 23)
 have HF : Hid (flOk f = (decide (1 ≤ f.q) && (decide (f.q ≤ 3) && (f.u == 1 || f.u == 2)))) := Lib.hid rfl
 unfold flV
 generalize flOk f = r at *
 generalize f.q = q at *
 generalize f.u = u at *
 have dq : (q < 1) ∨ (3 < q) ∨ (1 ≤ q ∧ q ≤ 3) := by omega
 have du : u = 1 ∨ u = 2 ∨ (¬ u = 1 ∧ ¬ u = 2) := by omega
 rcases dq with dq | dq | ⟨dq, dq'⟩ <;> rcases du with rfl | rfl | ⟨du, du'⟩
 all_goals
  go_enter Tryz.func12, Tryz.ntmps12
  go_wp2_with fail
  go_ret
  refine ⟨ret_bool ?_, hB⟩
  rw [HF.out]
  simp [*] <;> omega
theorem f_bit (b : Bool) (w : World) : Calls Tryz.prog 87 #[.bool b] w fun e w' => e = .returned (.int .i64 (if b = true then 1 else 0)) ∧ w = w' := by
 cases b
 all_goals
  go_enter Tryz.func87, Tryz.ntmps87
  go_wp2_with fail
  go_ret
  exact ⟨rfl, rfl⟩
end Go.Proofs.YtfkhcpeahdkafaaGreat
namespace Go.Proofs.YtfkhcpeahdkafaaGreat
open Go.RowKit Hb
set_option maxHeartbeats 400000 in
theorem chars_is (c : Int) (w : World) :
  Calls Tryz.prog 103 #[.int .i64 c] w fun e w' => e = .returned (.bool (isCh c)) ∧ w = w' := by
 by_cases h1 : 0 ≤ c
 ·go_enter Tryz.func103, Tryz.ntmps103
  go_wp2
  go_ret
  exact ⟨by simp [isCh, h1], rfl⟩
 ·go_enter Tryz.func103, Tryz.ntmps103
  go_wp2
  go_ret
  exact ⟨by simp [isCh]; omega, rfl⟩
end Go.Proofs.YtfkhcpeahdkafaaGreat
namespace Go.Proofs.YtfkhcpeahdkafaaGreat
open Go.RowKit Hb
set_option maxRecDepth 100000
theorem chars_is_of (c : Int) (b : Bool) (h : isCh c = b) (w : World) :
  Calls Tryz.prog 103 #[.int .i64 c] w fun e w' => e = .returned (.bool b) ∧ w = w' := by subst h; exact chars_is c w
set_option maxHeartbeats 2000000 in
theorem chars_valid (A : Option Addr) (n cap : Nat) (l : List (Int × Int)) (w : World) (hn : n = l.length) (hm : n ≤ maxLen) (hp : Pairs w A l) :
  Calls Tryz.prog 57 #[.slice A n cap] w fun e w' => e = .returned (.bool (pvalid l)) ∧ Below w.heap.size w w' := by
 unfold maxLen at hm
 have HN := Lib.hid hn
 clear hn
 have HP := Lib.hid hp
 clear hp
 go_enter Tryz.func57, Tryz.ntmps57
 go_wp2
 go_loopw [7] (fun i wr => ∃ k : Nat, k ≤ n ∧ i = .int .i64 k ∧ Below w.heap.size w wr ∧ Hid (∀ j, j < k → okAt l j = true)) (fun i _ => n - (intOf i).toNat)
 case atStart => exact ⟨0, Nat.zero_le _, rfl, Below.refl _ _, fun j hj => absurd hj (by omega)⟩
 case round =>
  obtain ⟨k, hk, rfl, hB, HA⟩ := hrel
  by_cases hlt : k < n
  ·have hs := hB.size
   have hkl : k < l.length := by have := HN.out; omega
   obtain ⟨b, off, rfl, hb, c1, c2⟩ := (HP.out.below hB) k hkl
   rw [prF_get _ _ hkl] at c1
   rw [prT_get _ _ hkl] at c2
   have Hno := Lib.hid (pvalid_no l k hkl)
   cases q1 : isCh (prF l k)
   ·have Q1 := Lib.hid q1
    have Hf := Lib.hid (okAt_1 l k q1)
    clear q1
    go_wp2
    go_quiet ((go_at_call 103; first | with_reducible exact quiet0 (chars_is_of _ _ Q1.out _) | with_reducible exact quiet0 (chars_is_of _ _ Q2.out _)))
    go_wp2
    go_ret
    exact ⟨ret_bool (Hno.out Hf.out).symm, bl_drewN (hB.alloc (by omega) _) _⟩
   have Q1 := Lib.hid q1
   clear q1
   cases q2 : isCh (prT l k)
   ·have Q2 := Lib.hid q2
    have Hf := Lib.hid (okAt_2 l k Q1.out q2)
    clear q2
    go_wp2
    go_quiet ((go_at_call 103; first | with_reducible exact quiet0 (chars_is_of _ _ Q1.out _) | with_reducible exact quiet0 (chars_is_of _ _ Q2.out _)))
    go_wp2
    go_ret
    exact ⟨ret_bool (Hno.out Hf.out).symm, bl_drewN (hB.alloc (by omega) _) _⟩
   have Q2 := Lib.hid q2
   clear q2
   cases q3 : (prF l k == prT l k)
   ·by_cases h0 : 0 < k
    ·obtain ⟨b', off', e', _, c3, _⟩ := (HP.out.below hB) (k - 1) (by omega)
     injection e' with e'
     injection e' with e1 e2
     subst e1 e2
     rw [prF_get _ _ (by omega)] at c3
     by_cases q4 : prF l (k - 1) < prF l k
     ·have Hf := Lib.hid (okAt_5 l k Q1.out Q2.out q3 q4)
      go_wp2
      go_quiet ((go_at_call 103; first | with_reducible exact quiet0 (chars_is_of _ _ Q1.out _) | with_reducible exact quiet0 (chars_is_of _ _ Q2.out _)))
      go_wp2
      go_roundw
      case rel => exact ⟨k + 1, by omega, by go_num, bl_drewN (hB.alloc (by omega) _) _, fun j hj => by
       rcases Nat.lt_or_ge j k with h | h
       ·exact HA.out j h
       ·have : j = k := by omega
        subst this; exact Hf.out⟩
      case measure => simp [intOf]; omega
     ·have Hf := Lib.hid (okAt_6 l k Q1.out Q2.out q3 h0 q4)
      go_wp2
      go_quiet ((go_at_call 103; first | with_reducible exact quiet0 (chars_is_of _ _ Q1.out _) | with_reducible exact quiet0 (chars_is_of _ _ Q2.out _)))
      go_wp2
      go_ret
      exact ⟨ret_bool (Hno.out Hf.out).symm, bl_drewN (hB.alloc (by omega) _) _⟩
    ·have Hf := Lib.hid (okAt_4 l k (by omega) Q1.out Q2.out q3)
     have hd : decide ((0 : Int) < (k : Int)) = false := by simp; omega
     go_wp2
     go_quiet ((go_at_call 103; first | with_reducible exact quiet0 (chars_is_of _ _ Q1.out _) | with_reducible exact quiet0 (chars_is_of _ _ Q2.out _)))
     go_wp2
     go_roundw
     case rel => exact ⟨k + 1, by omega, by go_num, bl_drewN (hB.alloc (by omega) _) _, fun j hj => by
      rcases Nat.lt_or_ge j k with h | h
      ·exact HA.out j h
      ·have : j = k := by omega
       subst this; exact Hf.out⟩
     case measure => simp [intOf]; omega
   ·have Hf := Lib.hid (okAt_3 l k Q1.out Q2.out q3)
    go_wp2
    go_quiet ((go_at_call 103; first | with_reducible exact quiet0 (chars_is_of _ _ Q1.out _) | with_reducible exact quiet0 (chars_is_of _ _ Q2.out _)))
    go_wp2
    go_ret
    exact ⟨ret_bool (Hno.out Hf.out).symm, bl_drewN (hB.alloc (by omega) _) _⟩
  ·have HE := Lib.hid (pvalid_all l (fun j hj => HA.out j (by have := HN.out; omega)))
   go_wp2
   go_ret
   exact ⟨ret_bool HE.out.symm, hB⟩
end Go.Proofs.YtfkhcpeahdkafaaGreat
namespace Hb
open Go Go.RowKit
theorem atomT_ok {s : ByteArray} (h : s.size ≤ 100) : validT (atomT s) = true := (validT_iff _).2 ⟨by rw [Tm.nodes_eq]; simp [atomT, Tm.args], by
 rw [Tm.allOk_eq]
 unfold nodeOk atomT Tm.kind Tm.num Tm.name Tm.args
 simp [h]⟩
theorem cloneT_yes {t : Tm} (h : validT t = true) : cloneT t = t := by unfold cloneT; rw [if_pos h]
end Hb
namespace Go.Proofs.YtfkhcpeahdkafaaGreat
open Go.RowKit Hb
set_option maxRecDepth 100000
set_option maxHeartbeats 1600000 in
theorem t_atom (s : ByteArray) (h : s.size ≤ 100) (w : World) :
  Calls Tryz.prog 85 #[.string s] w fun e w' => ∃ A' cap', e = .returned (tmV (atomT s) A' cap') ∧ Below w.heap.size w w' := by
 have hX0 := R4.start (w0 := w) (w := w) (Below.refl _ _) (.int .i64 0) (.int .i64 0) (.string ⟨#[]⟩) (.slice none 0 0) 26
 have HX := Lib.hid hX0
 have HC := Lib.hid (fun (W : World) => t_clone (atomT s) none 0 W TmsK.nil)
 rw [cloneT_yes (atomT_ok h)] at HC
 have HE : Hid (∀ (A' : Option Addr) (c' : Nat), tmV (atomT s) A' c' = .agg #[.int .i64 2, .int .i64 0, .string s, .slice A' 0 c']) := Lib.hid (fun _ _ => rfl)
 clear hX0
 go_enter Tryz.func85, Tryz.ntmps85
 go_wp2_with fail
 refine (HC.out _).mono ?_; rintro e w2 ⟨A2, n2, rfl, hB2, hN⟩
 rw [HE.out]
 have hX2 := HX.out.call hB2
 obtain ⟨v0, r0⟩ := hX2.r0
 obtain ⟨v1, r1⟩ := hX2.r1
 obtain ⟨v2, r2⟩ := hX2.r2
 obtain ⟨v3, r3⟩ := hX2.r3
 have f0 := hX2.fr 0
 have f1 := hX2.fr 1
 have f2 := hX2.fr 2
 have f3 := hX2.fr 3
 have HP := Lib.hid (hX2.put (.int .i64 2) (.int .i64 0) (.string s) (.slice A2 0 n2))
 clear hN
 go_wp2_with fail
 exact bodyPost_ret (v := .agg #[.int .i64 2, .int .i64 0, .string s, .slice A2 0 n2]) (by simp [results, Tryz.results85, go_sem, r0, r1, r2, r3]) rfl ⟨A2, n2, rfl, HP.out⟩
theorem t_int (n : Int) (w : World) : Calls Tryz.prog 93 #[.int .i64 n] w fun e w' => e = .returned (.agg #[.int .i64 1, .int .i64 n, .string ⟨#[]⟩, .slice none 0 0]) ∧ Below w.heap.size w w' := by
 have hB := (Below.refl w.heap.size w).alloc (Nat.le_refl _) (.cells #[.int .i64 1, .int .i64 n, .string ⟨#[]⟩, .slice none 0 0] 26)
 go_enter Tryz.func93, Tryz.ntmps93
 go_wp2_with fail
 exact bodyPost_ret (v := .agg #[.int .i64 1, .int .i64 n, .string ⟨#[]⟩, .slice none 0 0]) (by simp [results, Tryz.results93, go_sem]) rfl ⟨rfl, hB⟩
def fGF (k : Nat) : Value := [.nilFunc, .func (.func 86) #[] #[], .func (.func 89) #[] #[], .func (.func 91) #[] #[], .nilFunc, .nilFunc, .nilFunc, .nilFunc, .func (.func 94) #[] #[]].getD k .nilFunc
def fSF (k : Nat) : Value := [.nilFunc, .func (.func 88) #[] #[], .func (.func 90) #[] #[], .func (.func 92) #[] #[], .nilFunc, .nilFunc, .nilFunc, .nilFunc, .func (.func 95) #[] #[]].getD k .nilFunc
theorem get_1 (f : FlR) (w : World) : Calls Tryz.prog 86 #[flV f] w fun e w' => e = .returned (.int .i64 (fGet f 1)) ∧ Below w.heap.size w w' := by
 have hB := (Below.refl w.heap.size w).alloc (Nat.le_refl _) (.cells #[.int .i64 f.q, .int .i64 f.u, .bool f.c, .bool f.d] 23)
 unfold flV
 have HR : Hid (fGet f 1 = (if f.c = true then 1 else 0)) := Lib.hid rfl
 go_enter Tryz.func86, Tryz.ntmps86
 go_wp2_with fail
 refine (f_bit f.c _).mono ?_; rintro e w1 ⟨rfl, rfl⟩
 rw [← HR.out]
 go_wp2_with fail
 go_ret
 exact ⟨rfl, hB⟩
theorem get_2 (f : FlR) (w : World) : Calls Tryz.prog 89 #[flV f] w fun e w' => e = .returned (.int .i64 (fGet f 2)) ∧ Below w.heap.size w w' := by
 have hB := (Below.refl w.heap.size w).alloc (Nat.le_refl _) (.cells #[.int .i64 f.q, .int .i64 f.u, .bool f.c, .bool f.d] 23)
 unfold flV
 have HR : Hid (fGet f 2 = (if f.d = true then 1 else 0)) := Lib.hid rfl
 go_enter Tryz.func89, Tryz.ntmps89
 go_wp2_with fail
 refine (f_bit f.d _).mono ?_; rintro e w1 ⟨rfl, rfl⟩
 rw [← HR.out]
 go_wp2_with fail
 go_ret
 exact ⟨rfl, hB⟩
theorem get_3 (f : FlR) (h : flOk f = true) (w : World) : Calls Tryz.prog 91 #[flV f] w fun e w' => e = .returned (.int .i64 (fGet f 3)) ∧ Below w.heap.size w w' := by
 have hB := (Below.refl w.heap.size w).alloc (Nat.le_refl _) (.cells #[.int .i64 f.q, .int .i64 f.u, .bool f.c, .bool f.d] 23)
 have hq : 1 ≤ f.q ∧ f.q ≤ 3 := by unfold flOk at h; simp at h; exact ⟨h.1, h.2.1⟩
 unfold flV
 have HR : Hid (fGet f 3 = f.q - 1) := Lib.hid rfl
 go_enter Tryz.func91, Tryz.ntmps91
 go_wp2_with fail
 go_ret
 exact ⟨ret_int (by rw [HR.out]), hB⟩
theorem get_8 (f : FlR) (h : flOk f = true) (w : World) : Calls Tryz.prog 94 #[flV f] w fun e w' => e = .returned (.int .i64 (fGet f 8)) ∧ Below w.heap.size w w' := by
 have hB := (Below.refl w.heap.size w).alloc (Nat.le_refl _) (.cells #[.int .i64 f.q, .int .i64 f.u, .bool f.c, .bool f.d] 23)
 have hq : 1 ≤ f.u ∧ f.u ≤ 2 := by unfold flOk at h; simp at h; omega
 unfold flV
 have HR : Hid (fGet f 8 = f.u - 1) := Lib.hid rfl
 go_enter Tryz.func94, Tryz.ntmps94
 go_wp2_with fail
 go_ret
 exact ⟨ret_int (by rw [HR.out]), hB⟩
end Go.Proofs.YtfkhcpeahdkafaaGreat
namespace Hb
open Go Go.RowKit
def RowS (w : World) (b : Nat) (l : List ByteArray) : Prop := b < w.heap.size ∧ ∀ (j : Nat) (hj : j < l.length), w.cell? ⟨b, j, none⟩ = some (.string l[j])
theorem RowS.below {w w' : World} {b : Nat} {l : List ByteArray} (h : RowS w b l) (hB : Below w.heap.size w w') : RowS w' b l :=
 ⟨Nat.lt_of_lt_of_le h.1 hB.size, fun j hj => (hB.cell (p := ⟨b, j, none⟩) h.1).trans (h.2 j hj)⟩
theorem RowS.new (w : World) (l : List ByteArray) (e : TypeId) : RowS (w.alloc (.cells (l.map Value.string).toArray e)) w.heap.size l :=
 ⟨by simp, fun j hj => by rw [World.cell?_alloc_new]; simp [hj]⟩
def VRow (lo : Nat) (w : World) (k : Nat) (v : Value) : Prop := (fVL k = [] ∧ v = .slice none 0 0) ∨ ∃ b, lo ≤ b ∧ v = .slice (some ⟨b, 0, none⟩) (fVL k).length (fVL k).length ∧ 0 < (fVL k).length ∧ RowS w b (fVL k)
theorem VRow.below {lo : Nat} {w w' : World} {k : Nat} {v : Value} (h : VRow lo w k v) (hB : Below w.heap.size w w') : VRow lo w' k v := by
 rcases h with h | ⟨b, h0, h1, h2, h3⟩
 ·exact .inl h
 ·exact .inr ⟨b, h0, h1, h2, h3.below hB⟩
theorem VRow.at {lo : Nat} {w w' : World} {k : Nat} {v : Value} (h : VRow lo w k v) (hs : w.heap.size ≤ w'.heap.size) (hB : ∀ b, lo ≤ b → b < w.heap.size → w'.heap[b]? = w.heap[b]?) : VRow lo w' k v := by
 rcases h with h | ⟨b, h0, h1, h2, h3⟩
 ·exact .inl h
 ·exact .inr ⟨b, h0, h1, h2, Nat.lt_of_lt_of_le h3.1 hs, fun j hj => (World.cell?_of_block (a := ⟨b, j, none⟩) (hB b h0 h3.1)).trans (h3.2 j hj)⟩
theorem VRow.mono {lo lo' : Nat} {w : World} {k : Nat} {v : Value} (h : VRow lo w k v) (hl : lo' ≤ lo) : VRow lo' w k v := by
 rcases h with h | ⟨b, h0, h1, h2, h3⟩
 ·exact .inl h
 ·exact .inr ⟨b, Nat.le_trans hl h0, h1, h2, h3⟩
end Hb
namespace Go.Proofs.YtfkhcpeahdkafaaGreat
open Go.RowKit Hb
set_option maxRecDepth 100000
def fCells (k : Nat) (A : Option Addr) (c : Nat) (v : Value) : List Value := [.string (fN k), .int .i64 (fFx k).kind, .int .i64 (fFx k).num, .string (fFx k).name, .slice A 0 c, v, fGF k, fSF k]
structure FTab (lo : Nat) (w : World) (g : Nat) : Prop where
 lt : g < w.heap.size
 row : ∀ k, k < 9 → ∃ A c v, VRow lo w k v ∧ ∀ j u, (fCells k A c v)[j]? = some u → w.cell? ⟨g, k * 8 + j, none⟩ = some u
theorem FTab.below {lo : Nat} {w w' : World} {g : Nat} (h : FTab lo w g) (hB : Below w.heap.size w w') : FTab lo w' g :=
 ⟨Nat.lt_of_lt_of_le h.lt hB.size, fun k hk => by
  obtain ⟨A, c, v, hv, hc⟩ := h.row k hk
  exact ⟨A, c, v, hv.below hB, fun j u hu => (hB.cell (p := ⟨g, k * 8 + j, none⟩) h.lt).trans (hc j u hu)⟩⟩
theorem tab_at (k : Nat) (A : Option Addr) (c : Nat) (v : Value) (arr : Array Value) (h : ∀ j, j < 8 → arr[k * 8 + j]? = (fCells k A c v)[j]?) (j : Nat) (u : Value) (hu : (fCells k A c v)[j]? = some u) : arr[k * 8 + j]? = some u := by
 have hj : j < 8 := by
  rcases Nat.lt_or_ge j 8 with h8 | h8
  ·exact h8
  ·rw [List.getElem?_eq_none (by show 8 ≤ j; exact h8)] at hu; cases hu
 rw [h j hj]; exact hu
theorem FTab.of {lo : Nat} (W : World) (arr : Array Value) (e : TypeId) (h : ∀ k, k < 9 → ∃ A c v, VRow lo W k v ∧ ∀ j, j < 8 → arr[k * 8 + j]? = (fCells k A c v)[j]?) : FTab lo (W.alloc (.cells arr e)) W.heap.size := by
 have hB := (Below.refl W.heap.size W).alloc (Nat.le_refl _) (.cells arr e)
 refine ⟨by simp, fun k hk => ?_⟩
 obtain ⟨A, c, v, hv, hc⟩ := h k hk
 exact ⟨A, c, v, hv.below hB, fun j u hu => by rw [World.cell?_alloc_new]; exact tab_at k A c v arr hc j u hu⟩
set_option maxHeartbeats 3200000 in
theorem f_table (w : World) : Calls Tryz.prog 44 #[] w fun e w' => ∃ g, e = .returned (.slice (some ⟨g, 0, none⟩) 9 9) ∧ Below w.heap.size w w' ∧ FTab w.heap.size w' g := by
 have HA1 := Lib.hid (fun W => t_atom ⟨#[116, 114, 117, 101]⟩ (by decide) W)
 have HA2 := Lib.hid (fun W => t_atom ⟨#[116, 111, 119, 97, 114, 100, 95, 122, 101, 114, 111]⟩ (by decide) W)
 unfold tmV atomT Tm.kind Tm.num Tm.name Tm.args at HA1 HA2
 have hb0 := (Below.refl w.heap.size w).alloc (Nat.le_refl _) (.cells #[.string ⟨#[111, 102, 102]⟩, .string ⟨#[111, 110]⟩] 9)
 have HS0 : Hid (RowS (w.alloc (.cells #[.string ⟨#[111, 102, 102]⟩, .string ⟨#[111, 110]⟩] 9)) w.heap.size sOffOn) := Lib.hid (RowS.new w sOffOn 9)
 go_enter Tryz.func44, Tryz.ntmps44
 go_wp2_with fail
 refine (HA1.out _).mono ?_; rintro e w1 ⟨A1, k1, rfl, hB1⟩
 have hb1 := hb0.trans (hB1.mono hb0.size)
 have HS1 := Lib.hid (HS0.out.below hB1)
 have HL1 := Lib.hid hb1.size
 have hbq := hb1.alloc hb1.size (.cells #[.string ⟨#[99, 111, 100, 101, 115]⟩, .string ⟨#[99, 104, 97, 114, 115]⟩, .string ⟨#[97, 116, 111, 109]⟩] 9)
 have HQ0 : Hid (RowS (w1.alloc (.cells #[.string ⟨#[99, 111, 100, 101, 115]⟩, .string ⟨#[99, 104, 97, 114, 115]⟩, .string ⟨#[97, 116, 111, 109]⟩] 9)) w1.heap.size sQuo) := Lib.hid (RowS.new w1 sQuo 9)
 have HS2 := Lib.hid (HS1.out.below ((Below.refl _ _).alloc (Nat.le_refl _) (.cells #[.string ⟨#[99, 111, 100, 101, 115]⟩, .string ⟨#[99, 104, 97, 114, 115]⟩, .string ⟨#[97, 116, 111, 109]⟩] 9)))
 go_wp2_with fail
 refine (HA2.out _).mono ?_; rintro e w2 ⟨A2, k2, rfl, hB2⟩
 have hb2 := hbq.trans (hB2.mono hbq.size)
 have HS3 := Lib.hid (HS2.out.below hB2)
 have HQ1 := Lib.hid (HQ0.out.below hB2)
 clear hb0 hb1 hbq HS0 HS1 HS2 HQ0 HA1 HA2
 go_wp2_with fail
 refine (t_int 8 _).mono ?_; rintro e w3 ⟨rfl, hB3⟩
 have hb3 := hb2.trans (hB3.mono hb2.size)
 go_wp2_with fail
 refine (t_int 9223372036854775807 _).mono ?_; rintro e w4 ⟨rfl, hB4⟩
 have hb4 := hb3.trans (hB4.mono hb3.size)
 go_wp2_with fail
 refine (t_int (-9223372036854775808) _).mono ?_; rintro e w5 ⟨rfl, hB5⟩
 have hb5 := hb4.trans (hB5.mono hb4.size)
 have h35 := (hB3.trans (hB4.mono hB3.size)).trans (hB5.mono (Nat.le_trans hB3.size hB4.size))
 have HS5 := Lib.hid (HS3.out.below h35)
 have HL5 := Lib.hid hb5.size
 have HQ5 := Lib.hid (HQ1.out.below h35)
 clear hb2 hb3 hb4 HS3 HQ1 hB3 hB4 hB5 h35 hB2 hB1
 go_wp2_with fail
 go_ret
 have hb6 := hb5.alloc hb5.size (.cells #[.string ⟨#[101, 114, 114, 111, 114]⟩, .string ⟨#[102, 97, 105, 108]⟩] 9)
 have HU6 : Hid (RowS (w5.alloc (.cells #[.string ⟨#[101, 114, 114, 111, 114]⟩, .string ⟨#[102, 97, 105, 108]⟩] 9)) w5.heap.size sUnk) := Lib.hid (RowS.new w5 sUnk 9)
 have HS6 := Lib.hid (HS5.out.below ((Below.refl _ _).alloc (Nat.le_refl _) (.cells #[.string ⟨#[101, 114, 114, 111, 114]⟩, .string ⟨#[102, 97, 105, 108]⟩] 9)))
 have HQ6 := Lib.hid (HQ5.out.below ((Below.refl _ _).alloc (Nat.le_refl _) (.cells #[.string ⟨#[101, 114, 114, 111, 114]⟩, .string ⟨#[102, 97, 105, 108]⟩] 9)))
 have hg : (w5.alloc (.cells #[.string ⟨#[101, 114, 114, 111, 114]⟩, .string ⟨#[102, 97, 105, 108]⟩] 9)).heap.size = w5.heap.size + 1 := by simp
 generalize w5.alloc (.cells #[.string ⟨#[101, 114, 114, 111, 114]⟩, .string ⟨#[102, 97, 105, 108]⟩] 9) = W6 at *
 refine ⟨w5.heap.size + 1, rfl, hb6.alloc hb6.size _, ?_⟩
 rw [← hg]
 refine FTab.of W6 _ _ fun k hk => ?_
 rcases (show k = 0 ∨ k = 1 ∨ k = 2 ∨ k = 3 ∨ k = 4 ∨ k = 5 ∨ k = 6 ∨ k = 7 ∨ k = 8 by omega) with rfl | rfl | rfl | rfl | rfl | rfl | rfl | rfl | rfl
 ·exact ⟨A1, k1, .slice none 0 0, .inl ⟨rfl, rfl⟩, fun j hj => by rcases (show j = 0 ∨ j = 1 ∨ j = 2 ∨ j = 3 ∨ j = 4 ∨ j = 5 ∨ j = 6 ∨ j = 7 by omega) with rfl | rfl | rfl | rfl | rfl | rfl | rfl | rfl <;> rfl⟩
 ·exact ⟨none, 0, .slice (some ⟨w.heap.size, 0, none⟩) 2 2, .inr ⟨_, Nat.le_refl _, rfl, by decide, HS6.out⟩, fun j hj => by rcases (show j = 0 ∨ j = 1 ∨ j = 2 ∨ j = 3 ∨ j = 4 ∨ j = 5 ∨ j = 6 ∨ j = 7 by omega) with rfl | rfl | rfl | rfl | rfl | rfl | rfl | rfl <;> rfl⟩
 ·exact ⟨none, 0, .slice (some ⟨w.heap.size, 0, none⟩) 2 2, .inr ⟨_, Nat.le_refl _, rfl, by decide, HS6.out⟩, fun j hj => by rcases (show j = 0 ∨ j = 1 ∨ j = 2 ∨ j = 3 ∨ j = 4 ∨ j = 5 ∨ j = 6 ∨ j = 7 by omega) with rfl | rfl | rfl | rfl | rfl | rfl | rfl | rfl <;> rfl⟩
 ·exact ⟨none, 0, .slice (some ⟨w1.heap.size, 0, none⟩) 3 3, .inr ⟨_, HL1.out, rfl, by decide, HQ6.out⟩, fun j hj => by rcases (show j = 0 ∨ j = 1 ∨ j = 2 ∨ j = 3 ∨ j = 4 ∨ j = 5 ∨ j = 6 ∨ j = 7 by omega) with rfl | rfl | rfl | rfl | rfl | rfl | rfl | rfl <;> rfl⟩
 ·exact ⟨A2, k2, .slice none 0 0, .inl ⟨rfl, rfl⟩, fun j hj => by rcases (show j = 0 ∨ j = 1 ∨ j = 2 ∨ j = 3 ∨ j = 4 ∨ j = 5 ∨ j = 6 ∨ j = 7 by omega) with rfl | rfl | rfl | rfl | rfl | rfl | rfl | rfl <;> rfl⟩
 ·exact ⟨none, 0, .slice none 0 0, .inl ⟨rfl, rfl⟩, fun j hj => by rcases (show j = 0 ∨ j = 1 ∨ j = 2 ∨ j = 3 ∨ j = 4 ∨ j = 5 ∨ j = 6 ∨ j = 7 by omega) with rfl | rfl | rfl | rfl | rfl | rfl | rfl | rfl <;> rfl⟩
 ·exact ⟨none, 0, .slice none 0 0, .inl ⟨rfl, rfl⟩, fun j hj => by rcases (show j = 0 ∨ j = 1 ∨ j = 2 ∨ j = 3 ∨ j = 4 ∨ j = 5 ∨ j = 6 ∨ j = 7 by omega) with rfl | rfl | rfl | rfl | rfl | rfl | rfl | rfl <;> rfl⟩
 ·exact ⟨none, 0, .slice none 0 0, .inl ⟨rfl, rfl⟩, fun j hj => by rcases (show j = 0 ∨ j = 1 ∨ j = 2 ∨ j = 3 ∨ j = 4 ∨ j = 5 ∨ j = 6 ∨ j = 7 by omega) with rfl | rfl | rfl | rfl | rfl | rfl | rfl | rfl <;> rfl⟩
 ·exact ⟨none, 0, .slice (some ⟨w5.heap.size, 0, none⟩) 2 2, .inr ⟨_, HL5.out, rfl, by decide, HU6.out⟩, fun j hj => by rcases (show j = 0 ∨ j = 1 ∨ j = 2 ∨ j = 3 ∨ j = 4 ∨ j = 5 ∨ j = 6 ∨ j = 7 by omega) with rfl | rfl | rfl | rfl | rfl | rfl | rfl | rfl <;> rfl⟩
end Go.Proofs.YtfkhcpeahdkafaaGreat
namespace Hb
open Go Go.RowKit
def fIx (s : ByteArray) : Nat := if s.toList = (fN 0).toList then 0 else if s.toList = (fN 1).toList then 1 else if s.toList = (fN 2).toList then 2 else if s.toList = (fN 3).toList then 3 else if s.toList = (fN 4).toList then 4 else if s.toList = (fN 5).toList then 5 else if s.toList = (fN 6).toList then 6 else if s.toList = (fN 7).toList then 7 else if s.toList = (fN 8).toList then 8 else 9
theorem fIx_at {s : ByteArray} {k : Nat} (hk : k < 9) (h : ∀ j, j < k → ¬ (fN j).toList = s.toList) (he : (fN k).toList = s.toList) : fIx s = k := by
 have h' : ∀ j, j < k → ¬ s.toList = (fN j).toList := fun j hj e => h j hj e.symm
 have he' := he.symm
 unfold fIx
 rcases (show k = 0 ∨ k = 1 ∨ k = 2 ∨ k = 3 ∨ k = 4 ∨ k = 5 ∨ k = 6 ∨ k = 7 ∨ k = 8 by omega) with rfl | rfl | rfl | rfl | rfl | rfl | rfl | rfl | rfl
 ·rw [if_pos he']
 ·rw [if_neg (h' 0 (by decide)), if_pos he']
 ·rw [if_neg (h' 0 (by decide)), if_neg (h' 1 (by decide)), if_pos he']
 ·rw [if_neg (h' 0 (by decide)), if_neg (h' 1 (by decide)), if_neg (h' 2 (by decide)), if_pos he']
 ·rw [if_neg (h' 0 (by decide)), if_neg (h' 1 (by decide)), if_neg (h' 2 (by decide)), if_neg (h' 3 (by decide)), if_pos he']
 ·rw [if_neg (h' 0 (by decide)), if_neg (h' 1 (by decide)), if_neg (h' 2 (by decide)), if_neg (h' 3 (by decide)), if_neg (h' 4 (by decide)), if_pos he']
 ·rw [if_neg (h' 0 (by decide)), if_neg (h' 1 (by decide)), if_neg (h' 2 (by decide)), if_neg (h' 3 (by decide)), if_neg (h' 4 (by decide)), if_neg (h' 5 (by decide)), if_pos he']
 ·rw [if_neg (h' 0 (by decide)), if_neg (h' 1 (by decide)), if_neg (h' 2 (by decide)), if_neg (h' 3 (by decide)), if_neg (h' 4 (by decide)), if_neg (h' 5 (by decide)), if_neg (h' 6 (by decide)), if_pos he']
 ·rw [if_neg (h' 0 (by decide)), if_neg (h' 1 (by decide)), if_neg (h' 2 (by decide)), if_neg (h' 3 (by decide)), if_neg (h' 4 (by decide)), if_neg (h' 5 (by decide)), if_neg (h' 6 (by decide)), if_neg (h' 7 (by decide)), if_pos he']
theorem fIx_no {s : ByteArray} (h : ∀ j, j < 9 → ¬ (fN j).toList = s.toList) : fIx s = 9 := by
 have h' : ∀ j, j < 9 → ¬ s.toList = (fN j).toList := fun j hj e => h j hj e.symm
 unfold fIx
 rw [if_neg (h' 0 (by decide)), if_neg (h' 1 (by decide)), if_neg (h' 2 (by decide)), if_neg (h' 3 (by decide)), if_neg (h' 4 (by decide)), if_neg (h' 5 (by decide)), if_neg (h' 6 (by decide)), if_neg (h' 7 (by decide)), if_neg (h' 8 (by decide))]
end Hb
namespace Go.Proofs.YtfkhcpeahdkafaaGreat
open Go.RowKit Hb
set_option maxRecDepth 100000
def flagV (k : Nat) (A : Option Addr) (c : Nat) (v : Value) : Value := .agg #[.string (fN k), .int .i64 (fFx k).kind, .int .i64 (fFx k).num, .string (fFx k).name, .slice A 0 c, v, fGF k, fSF k]
def flagZ : Value := .agg #[.string ⟨#[]⟩, .int .i64 0, .int .i64 0, .string ⟨#[]⟩, .slice none 0 0, .slice none 0 0, .nilFunc, .nilFunc]
theorem FTab.get {lo : Nat} {w : World} {g : Nat} (h : FTab lo w g) (k : Nat) (hk : k < 9) : ∃ A c v, VRow lo w k v ∧ w.cell? ⟨g, k * 8, none⟩ = some (.string (fN k)) ∧ w.cell? ⟨g, k * 8 + 1, none⟩ = some (.int .i64 (fFx k).kind) ∧ w.cell? ⟨g, k * 8 + 2, none⟩ = some (.int .i64 (fFx k).num) ∧ w.cell? ⟨g, k * 8 + 3, none⟩ = some (.string (fFx k).name) ∧ w.cell? ⟨g, k * 8 + 4, none⟩ = some (.slice A 0 c) ∧ w.cell? ⟨g, k * 8 + 5, none⟩ = some v ∧ w.cell? ⟨g, k * 8 + 6, none⟩ = some (fGF k) ∧ w.cell? ⟨g, k * 8 + 7, none⟩ = some (fSF k) := by
 obtain ⟨A, c, v, hv, hc⟩ := h.row k hk
 exact ⟨A, c, v, hv, hc 0 _ rfl, hc 1 _ rfl, hc 2 _ rfl, hc 3 _ rfl, hc 4 _ rfl, hc 5 _ rfl, hc 6 _ rfl, hc 7 _ rfl⟩
structure R8 (w0 w : World) (g : Nat) : Prop where
 bel : Below w0.heap.size w0 w
 le : w0.heap.size ≤ g
 lt : g < w.heap.size
 r : ∀ j, j < 8 → ∃ v, w.cell? ⟨g, j, none⟩ = some v
 fr : ∀ o, w.frozen? ⟨g, o, none⟩ = false
theorem R8.call {w0 w w' : World} {g : Nat} (h : R8 w0 w g) (hB : Below w.heap.size w w') : R8 w0 w' g :=
 ⟨h.bel.trans (hB.mono h.bel.size), h.le, Nat.lt_of_lt_of_le h.lt hB.size, fun j hj => (h.r j hj).imp fun _ hh => (hB.cell (p := ⟨_, _, none⟩) h.lt).trans hh, fun o => (hB.frozen (p := ⟨_, o, none⟩) h.lt).trans (h.fr o)⟩
theorem R8.start {w0 w : World} (hB : Below w0.heap.size w0 w) (x0 x1 x2 x3 x4 x5 x6 x7 : Value) (e : TypeId) : R8 w0 (w.alloc (.cells #[x0, x1, x2, x3, x4, x5, x6, x7] e)) w.heap.size :=
 ⟨hB.trans ((Below.refl _ _).alloc hB.size _), hB.size, by simp, fun j hj => by
  rcases (show j = 0 ∨ j = 1 ∨ j = 2 ∨ j = 3 ∨ j = 4 ∨ j = 5 ∨ j = 6 ∨ j = 7 by omega) with rfl | rfl | rfl | rfl | rfl | rfl | rfl | rfl <;> exact ⟨_, World.cell?_alloc_new _ _ _ _⟩, fun o => World.frozen?_alloc_new _ _ _ _⟩
theorem R8.put {w0 w : World} {g : Nat} (h : R8 w0 w g) (x0 x1 x2 x3 x4 x5 x6 x7 : Value) : Below w0.heap.size w0 ((((((((w.setCell ⟨g, 0, none⟩ x0).setCell ⟨g, 1, none⟩ x1).setCell ⟨g, 2, none⟩ x2).setCell ⟨g, 3, none⟩ x3).setCell ⟨g, 4, none⟩ x4).setCell ⟨g, 5, none⟩ x5).setCell ⟨g, 6, none⟩ x6).setCell ⟨g, 7, none⟩ x7) :=
 (((((((h.bel.setCell (p := ⟨_, _, none⟩) h.le _).setCell (p := ⟨_, _, none⟩) h.le _).setCell (p := ⟨_, _, none⟩) h.le _).setCell (p := ⟨_, _, none⟩) h.le _).setCell (p := ⟨_, _, none⟩) h.le _).setCell (p := ⟨_, _, none⟩) h.le _).setCell (p := ⟨_, _, none⟩) h.le _).setCell (p := ⟨_, _, none⟩) h.le _
theorem put8_block (w : World) (g : Nat) (x0 x1 x2 x3 x4 x5 x6 x7 : Value) (b : Nat) (hb : b ≠ g) : ((((((((w.setCell ⟨g, 0, none⟩ x0).setCell ⟨g, 1, none⟩ x1).setCell ⟨g, 2, none⟩ x2).setCell ⟨g, 3, none⟩ x3).setCell ⟨g, 4, none⟩ x4).setCell ⟨g, 5, none⟩ x5).setCell ⟨g, 6, none⟩ x6).setCell ⟨g, 7, none⟩ x7).heap[b]? = w.heap[b]? := by
 rw [heap_setCell_other _ _ _ _ hb, heap_setCell_other _ _ _ _ hb, heap_setCell_other _ _ _ _ hb, heap_setCell_other _ _ _ _ hb, heap_setCell_other _ _ _ _ hb, heap_setCell_other _ _ _ _ hb, heap_setCell_other _ _ _ _ hb, heap_setCell_other _ _ _ _ hb]
theorem put8_size (w : World) (g : Nat) (x0 x1 x2 x3 x4 x5 x6 x7 : Value) : ((((((((w.setCell ⟨g, 0, none⟩ x0).setCell ⟨g, 1, none⟩ x1).setCell ⟨g, 2, none⟩ x2).setCell ⟨g, 3, none⟩ x3).setCell ⟨g, 4, none⟩ x4).setCell ⟨g, 5, none⟩ x5).setCell ⟨g, 6, none⟩ x6).setCell ⟨g, 7, none⟩ x7).heap.size = w.heap.size := by simp
theorem VRow_put8 {lo : Nat} {w : World} {g k : Nat} {u : Value} (h : VRow (g + 1) w k u) (hlo : lo ≤ g) (o : Obj) (x0 x1 x2 x3 x4 x5 x6 x7 : Value) : VRow lo (((((((((w.setCell ⟨g, 0, none⟩ x0).setCell ⟨g, 1, none⟩ x1).setCell ⟨g, 2, none⟩ x2).setCell ⟨g, 3, none⟩ x3).setCell ⟨g, 4, none⟩ x4).setCell ⟨g, 5, none⟩ x5).setCell ⟨g, 6, none⟩ x6).setCell ⟨g, 7, none⟩ x7).alloc o) k u :=
 (h.at (by rw [show ∀ (W : World) o, (W.alloc o).heap.size = W.heap.size + 1 from fun W o => by simp, put8_size]; omega) (fun b hb hlt => by
  rw [heap_alloc_old _ _ (by rw [put8_size]; exact hlt), put8_block _ _ _ _ _ _ _ _ _ _ b (by omega)])).mono (by omega)
theorem sc_ex8 (w : World) (g i j : Nat) (v : Value) (h : ∃ y, w.cell? ⟨g, j, none⟩ = some y) : ∃ y, (w.setCell ⟨g, i, none⟩ v).cell? ⟨g, j, none⟩ = some y := by
 obtain ⟨y, hy⟩ := h
 by_cases e : j = i
 ·subst e; exact ⟨_, World.cell?_setCell_same _ _ _ hy⟩
 ·exact ⟨y, (World.cell?_setCell_other _ _ _ _ (fun e2 => e (by injection e2 with _ h2 _; exact h2.symm))).trans hy⟩
theorem sc_ne8 (w : World) (g i j : Nat) (v : Value) (h : j ≠ i) : (w.setCell ⟨g, i, none⟩ v).cell? ⟨g, j, none⟩ = w.cell? ⟨g, j, none⟩ := World.cell?_setCell_other _ _ _ _ (fun e2 => h (by injection e2 with _ h2 _; exact h2.symm))
theorem put8_cells (w : World) (g : Nat) (x0 x1 x2 x3 x4 x5 x6 x7 : Value) (hg : g < w.heap.size) (h : ∀ j, j < 8 → ∃ y, w.cell? ⟨g, j, none⟩ = some y) (o : Obj) : (((((((((w.setCell ⟨g, 0, none⟩ x0).setCell ⟨g, 1, none⟩ x1).setCell ⟨g, 2, none⟩ x2).setCell ⟨g, 3, none⟩ x3).setCell ⟨g, 4, none⟩ x4).setCell ⟨g, 5, none⟩ x5).setCell ⟨g, 6, none⟩ x6).setCell ⟨g, 7, none⟩ x7).alloc o).cell? ⟨g, 0, none⟩ = some x0 ∧ (((((((((w.setCell ⟨g, 0, none⟩ x0).setCell ⟨g, 1, none⟩ x1).setCell ⟨g, 2, none⟩ x2).setCell ⟨g, 3, none⟩ x3).setCell ⟨g, 4, none⟩ x4).setCell ⟨g, 5, none⟩ x5).setCell ⟨g, 6, none⟩ x6).setCell ⟨g, 7, none⟩ x7).alloc o).cell? ⟨g, 1, none⟩ = some x1 ∧ (((((((((w.setCell ⟨g, 0, none⟩ x0).setCell ⟨g, 1, none⟩ x1).setCell ⟨g, 2, none⟩ x2).setCell ⟨g, 3, none⟩ x3).setCell ⟨g, 4, none⟩ x4).setCell ⟨g, 5, none⟩ x5).setCell ⟨g, 6, none⟩ x6).setCell ⟨g, 7, none⟩ x7).alloc o).cell? ⟨g, 2, none⟩ = some x2 ∧ (((((((((w.setCell ⟨g, 0, none⟩ x0).setCell ⟨g, 1, none⟩ x1).setCell ⟨g, 2, none⟩ x2).setCell ⟨g, 3, none⟩ x3).setCell ⟨g, 4, none⟩ x4).setCell ⟨g, 5, none⟩ x5).setCell ⟨g, 6, none⟩ x6).setCell ⟨g, 7, none⟩ x7).alloc o).cell? ⟨g, 3, none⟩ = some x3 ∧ (((((((((w.setCell ⟨g, 0, none⟩ x0).setCell ⟨g, 1, none⟩ x1).setCell ⟨g, 2, none⟩ x2).setCell ⟨g, 3, none⟩ x3).setCell ⟨g, 4, none⟩ x4).setCell ⟨g, 5, none⟩ x5).setCell ⟨g, 6, none⟩ x6).setCell ⟨g, 7, none⟩ x7).alloc o).cell? ⟨g, 4, none⟩ = some x4 ∧ (((((((((w.setCell ⟨g, 0, none⟩ x0).setCell ⟨g, 1, none⟩ x1).setCell ⟨g, 2, none⟩ x2).setCell ⟨g, 3, none⟩ x3).setCell ⟨g, 4, none⟩ x4).setCell ⟨g, 5, none⟩ x5).setCell ⟨g, 6, none⟩ x6).setCell ⟨g, 7, none⟩ x7).alloc o).cell? ⟨g, 5, none⟩ = some x5 ∧ (((((((((w.setCell ⟨g, 0, none⟩ x0).setCell ⟨g, 1, none⟩ x1).setCell ⟨g, 2, none⟩ x2).setCell ⟨g, 3, none⟩ x3).setCell ⟨g, 4, none⟩ x4).setCell ⟨g, 5, none⟩ x5).setCell ⟨g, 6, none⟩ x6).setCell ⟨g, 7, none⟩ x7).alloc o).cell? ⟨g, 6, none⟩ = some x6 ∧ (((((((((w.setCell ⟨g, 0, none⟩ x0).setCell ⟨g, 1, none⟩ x1).setCell ⟨g, 2, none⟩ x2).setCell ⟨g, 3, none⟩ x3).setCell ⟨g, 4, none⟩ x4).setCell ⟨g, 5, none⟩ x5).setCell ⟨g, 6, none⟩ x6).setCell ⟨g, 7, none⟩ x7).alloc o).cell? ⟨g, 7, none⟩ = some x7 := by
 have hp : ∀ j, (((((((((w.setCell ⟨g, 0, none⟩ x0).setCell ⟨g, 1, none⟩ x1).setCell ⟨g, 2, none⟩ x2).setCell ⟨g, 3, none⟩ x3).setCell ⟨g, 4, none⟩ x4).setCell ⟨g, 5, none⟩ x5).setCell ⟨g, 6, none⟩ x6).setCell ⟨g, 7, none⟩ x7).alloc o).cell? ⟨g, j, none⟩ = ((((((((w.setCell ⟨g, 0, none⟩ x0).setCell ⟨g, 1, none⟩ x1).setCell ⟨g, 2, none⟩ x2).setCell ⟨g, 3, none⟩ x3).setCell ⟨g, 4, none⟩ x4).setCell ⟨g, 5, none⟩ x5).setCell ⟨g, 6, none⟩ x6).setCell ⟨g, 7, none⟩ x7).cell? ⟨g, j, none⟩ := fun j => World.cell?_alloc_past o g j (by rw [put8_size]; exact hg)
 have hq : ∀ j, j < 8 → ((((((((w.setCell ⟨g, 0, none⟩ x0).setCell ⟨g, 1, none⟩ x1).setCell ⟨g, 2, none⟩ x2).setCell ⟨g, 3, none⟩ x3).setCell ⟨g, 4, none⟩ x4).setCell ⟨g, 5, none⟩ x5).setCell ⟨g, 6, none⟩ x6).setCell ⟨g, 7, none⟩ x7).cell? ⟨g, j, none⟩ = some ([x0, x1, x2, x3, x4, x5, x6, x7].getD j x0) := by
  intro j hj
  rcases (show j = 0 ∨ j = 1 ∨ j = 2 ∨ j = 3 ∨ j = 4 ∨ j = 5 ∨ j = 6 ∨ j = 7 by omega) with rfl | rfl | rfl | rfl | rfl | rfl | rfl | rfl
  ·obtain ⟨y, hy⟩ := h 0 (by decide)
   exact (sc_ne8 _ _ 7 0 _ (by decide)).trans ((sc_ne8 _ _ 6 0 _ (by decide)).trans ((sc_ne8 _ _ 5 0 _ (by decide)).trans ((sc_ne8 _ _ 4 0 _ (by decide)).trans ((sc_ne8 _ _ 3 0 _ (by decide)).trans ((sc_ne8 _ _ 2 0 _ (by decide)).trans ((sc_ne8 _ _ 1 0 _ (by decide)).trans (World.cell?_setCell_same _ _ _ hy)))))))
  ·obtain ⟨y, hy⟩ := sc_ex8 _ _ 0 1 _ (h 1 (by decide))
   exact (sc_ne8 _ _ 7 1 _ (by decide)).trans ((sc_ne8 _ _ 6 1 _ (by decide)).trans ((sc_ne8 _ _ 5 1 _ (by decide)).trans ((sc_ne8 _ _ 4 1 _ (by decide)).trans ((sc_ne8 _ _ 3 1 _ (by decide)).trans ((sc_ne8 _ _ 2 1 _ (by decide)).trans (World.cell?_setCell_same _ _ _ hy))))))
  ·obtain ⟨y, hy⟩ := sc_ex8 _ _ 1 2 _ (sc_ex8 _ _ 0 2 _ (h 2 (by decide)))
   exact (sc_ne8 _ _ 7 2 _ (by decide)).trans ((sc_ne8 _ _ 6 2 _ (by decide)).trans ((sc_ne8 _ _ 5 2 _ (by decide)).trans ((sc_ne8 _ _ 4 2 _ (by decide)).trans ((sc_ne8 _ _ 3 2 _ (by decide)).trans (World.cell?_setCell_same _ _ _ hy)))))
  ·obtain ⟨y, hy⟩ := sc_ex8 _ _ 2 3 _ (sc_ex8 _ _ 1 3 _ (sc_ex8 _ _ 0 3 _ (h 3 (by decide))))
   exact (sc_ne8 _ _ 7 3 _ (by decide)).trans ((sc_ne8 _ _ 6 3 _ (by decide)).trans ((sc_ne8 _ _ 5 3 _ (by decide)).trans ((sc_ne8 _ _ 4 3 _ (by decide)).trans (World.cell?_setCell_same _ _ _ hy))))
  ·obtain ⟨y, hy⟩ := sc_ex8 _ _ 3 4 _ (sc_ex8 _ _ 2 4 _ (sc_ex8 _ _ 1 4 _ (sc_ex8 _ _ 0 4 _ (h 4 (by decide)))))
   exact (sc_ne8 _ _ 7 4 _ (by decide)).trans ((sc_ne8 _ _ 6 4 _ (by decide)).trans ((sc_ne8 _ _ 5 4 _ (by decide)).trans (World.cell?_setCell_same _ _ _ hy)))
  ·obtain ⟨y, hy⟩ := sc_ex8 _ _ 4 5 _ (sc_ex8 _ _ 3 5 _ (sc_ex8 _ _ 2 5 _ (sc_ex8 _ _ 1 5 _ (sc_ex8 _ _ 0 5 _ (h 5 (by decide))))))
   exact (sc_ne8 _ _ 7 5 _ (by decide)).trans ((sc_ne8 _ _ 6 5 _ (by decide)).trans (World.cell?_setCell_same _ _ _ hy))
  ·obtain ⟨y, hy⟩ := sc_ex8 _ _ 5 6 _ (sc_ex8 _ _ 4 6 _ (sc_ex8 _ _ 3 6 _ (sc_ex8 _ _ 2 6 _ (sc_ex8 _ _ 1 6 _ (sc_ex8 _ _ 0 6 _ (h 6 (by decide)))))))
   exact (sc_ne8 _ _ 7 6 _ (by decide)).trans (World.cell?_setCell_same _ _ _ hy)
  ·obtain ⟨y, hy⟩ := sc_ex8 _ _ 6 7 _ (sc_ex8 _ _ 5 7 _ (sc_ex8 _ _ 4 7 _ (sc_ex8 _ _ 3 7 _ (sc_ex8 _ _ 2 7 _ (sc_ex8 _ _ 1 7 _ (sc_ex8 _ _ 0 7 _ (h 7 (by decide))))))))
   exact World.cell?_setCell_same _ _ _ hy
 exact ⟨(hp 0).trans (hq 0 (by decide)), (hp 1).trans (hq 1 (by decide)), (hp 2).trans (hq 2 (by decide)), (hp 3).trans (hq 3 (by decide)), (hp 4).trans (hq 4 (by decide)), (hp 5).trans (hq 5 (by decide)), (hp 6).trans (hq 6 (by decide)), (hp 7).trans (hq 7 (by decide))⟩
theorem RowS.at {w w' : World} {b : Nat} {l : List ByteArray} (h : RowS w b l) (hs : w'.heap.size = w.heap.size) (hb : w'.heap[b]? = w.heap[b]?) : RowS w' b l := ⟨by rw [hs]; exact h.1, fun j hj => (World.cell?_of_block (a := ⟨b, j, none⟩) hb).trans (h.2 j hj)⟩
theorem fF_cases (k : Nat) (hk : k < 9) : (fGF k = .nilFunc ∧ fSF k = .nilFunc) ∨ ∃ a b, fGF k = .func a #[] #[] ∧ fSF k = .func b #[] #[] := by
 rcases (show k = 0 ∨ k = 1 ∨ k = 2 ∨ k = 3 ∨ k = 4 ∨ k = 5 ∨ k = 6 ∨ k = 7 ∨ k = 8 by omega) with rfl | rfl | rfl | rfl | rfl | rfl | rfl | rfl | rfl <;> first | exact .inl ⟨rfl, rfl⟩ | exact .inr ⟨_, _, rfl, rfl⟩
theorem VRow_slice {lo : Nat} {w : World} {k : Nat} {u : Value} (h : VRow lo w k u) : ∃ B n c, u = .slice B n c := by
 rcases h with ⟨_, rfl⟩ | ⟨b, _, rfl, _⟩ <;> exact ⟨_, _, _, rfl⟩
set_option maxHeartbeats 6400000 in
theorem f_find (s : ByteArray) (w : World) : Calls Tryz.prog 45 #[.string s] w fun e w' => (∃ v, e = .returned (.tuple #[v, .bool (decide (fIx s < 9))]) ∧ (fIx s < 9 → ∃ A c u, v = flagV (fIx s) A c u ∧ VRow w.heap.size w' (fIx s) u) ∧ (¬ fIx s < 9 → v = flagZ)) ∧ Below w.heap.size w w' := by
 have HX := Lib.hid (R8.start (w0 := w) (w := w) (Below.refl _ _) (.string ⟨#[]⟩) (.int .i64 0) (.int .i64 0) (.string ⟨#[]⟩) (.slice none 0 0) (.slice none 0 0) .nilFunc .nilFunc 72)
 go_enter Tryz.func45, Tryz.ntmps45
 go_wp2_with fail
 refine (f_table _).mono ?_; rintro e w1 ⟨g, rfl, hB1, hT1⟩
 have HX1 := Lib.hid (HX.out.call hB1)
 have HT1 : Hid (FTab (w.heap.size + 1) w1 g) := Lib.hid (by simpa using hT1)
 clear HX hB1 hT1
 go_wp2_with fail
 go_loopw [5, 8] (fun _ i wr => ∃ k : Nat, k ≤ 9 ∧ i = .int .i64 k ∧ Hid (R8 w wr w.heap.size) ∧ Hid (FTab (w.heap.size + 1) wr g) ∧ Hid (∀ j, j < k → ¬ (fN j).toList = s.toList)) (fun _ i _ => 9 - (intOf i).toNat)
 case atStart => exact ⟨0, by decide, rfl, HX1, HT1, Lib.hid fun j hj => absurd hj (by omega)⟩
 case round =>
  obtain ⟨k, hk, rfl, HX, HT, HN⟩ := hrel
  by_cases hlt : k < 9
  ·obtain ⟨A, c, u, hv, c0, c1, c2, c3, c4, c5, c6, c7⟩ := HT.out.get k hlt
   have hgs := fF_cases k hlt
   obtain ⟨B, bn, bc, rfl⟩ := VRow_slice hv
   have HV := Lib.hid hv
   have HPUT := Lib.hid (HX.out.put (.string (fN k)) (.int .i64 (fFx k).kind) (.int .i64 (fFx k).num) (.string (fFx k).name) (.slice A 0 c) (.slice B bn bc) (fGF k) (fSF k))
   obtain ⟨y0, r0⟩ := HX.out.r 0 (by decide)
   obtain ⟨y1, r1⟩ := HX.out.r 1 (by decide)
   obtain ⟨y2, r2⟩ := HX.out.r 2 (by decide)
   obtain ⟨y3, r3⟩ := HX.out.r 3 (by decide)
   obtain ⟨y4, r4⟩ := HX.out.r 4 (by decide)
   obtain ⟨y5, r5⟩ := HX.out.r 5 (by decide)
   obtain ⟨y6, r6⟩ := HX.out.r 6 (by decide)
   obtain ⟨y7, r7⟩ := HX.out.r 7 (by decide)
   have f0 := HX.out.fr 0
   have f1 := HX.out.fr 1
   have f2 := HX.out.fr 2
   have f3 := HX.out.fr 3
   have f4 := HX.out.fr 4
   have f5 := HX.out.fr 5
   have f6 := HX.out.fr 6
   have f7 := HX.out.fr 7
   have hltb := HX.out.lt
   have hk0 : (0 : Int) ≤ (k : Int) := by omega
   have hk1 : (k : Int) < 9 := by omega
   have HFV : Hid (∀ A c u, flagV k A c u = .agg #[.string (fN k), .int .i64 (fFx k).kind, .int .i64 (fFx k).num, .string (fFx k).name, .slice A 0 c, u, fGF k, fSF k]) := Lib.hid fun _ _ _ => rfl
   have HAT := Lib.hid (fIx_at (s := s) hlt HN.out)
   have HNX : Hid (¬ (fN k).toList = s.toList → ∀ j, j < k + 1 → ¬ (fN j).toList = s.toList) := Lib.hid (fun hne j hj => by
    by_cases e : j = k
    ·subst e; exact hne
    ·exact HN.out j (by omega))
   generalize hnm : fN k = nm at *
   have HNM := Lib.hid hnm
   clear hnm
   generalize fFx k = fx at *
   generalize fGF k = gf at *
   generalize fSF k = sf at *
   clear hv
   rcases hgs with ⟨rfl, rfl⟩ | ⟨fa, fb, rfl, rfl⟩
   ·by_cases he : nm.toList = s.toList
    ·have he2 : (nm.toList == s.toList) = true := by simpa using he
     have HI := Lib.hid (HAT.out he)
     have HVR := Lib.hid (VRow_put8 HV.out (Nat.le_refl _) (.cells #[.string nm, .int .i64 fx.kind, .int .i64 fx.num, .string fx.name, .slice A 0 c, .slice B bn bc, .nilFunc, .nilFunc] 72) (.string nm) (.int .i64 fx.kind) (.int .i64 fx.num) (.string fx.name) (.slice A 0 c) (.slice B bn bc) (.nilFunc) (.nilFunc))
     obtain ⟨q0, q1, q2, q3, q4, q5, q6, q7⟩ := put8_cells wr w.heap.size (.string nm) (.int .i64 fx.kind) (.int .i64 fx.num) (.string fx.name) (.slice A 0 c) (.slice B bn bc) (.nilFunc) (.nilFunc) HX.out.lt HX.out.r (.cells #[.string nm, .int .i64 fx.kind, .int .i64 fx.num, .string fx.name, .slice A 0 c, .slice B bn bc, .nilFunc, .nilFunc] 72)
     have HBW := Lib.hid (HPUT.out.alloc HPUT.out.size (.cells #[.string nm, .int .i64 fx.kind, .int .i64 fx.num, .string fx.name, .slice A 0 c, .slice B bn bc, .nilFunc, .nilFunc] 72))
     clear HPUT HX HT HN HAT HNX HV
     go_wp2_with fail
     exact bodyPost_ret (v := .tuple #[.agg #[.string nm, .int .i64 fx.kind, .int .i64 fx.num, .string fx.name, .slice A 0 c, .slice B bn bc, .nilFunc, .nilFunc], .bool true]) (by simp [results, Tryz.results45, go_sem, q0, q1, q2, q3, q4, q5, q6, q7]) rfl ⟨⟨_, by rw [HI.out]; rw [decide_eq_true hlt], fun _ => ⟨A, c, .slice B bn bc, by rw [HI.out, HFV.out], by rw [HI.out]; exact HVR.out⟩, fun h => absurd (by rw [HI.out]; exact hlt) h⟩, HBW.out⟩
    ·have he2 : (nm.toList == s.toList) = false := by simpa using he
     have hB2 := (Below.refl wr.heap.size wr).alloc (Nat.le_refl _) (.cells #[.string nm, .int .i64 fx.kind, .int .i64 fx.num, .string fx.name, .slice A 0 c, .slice B bn bc, .nilFunc, .nilFunc] 72)
     have HX2 := Lib.hid (HX.out.call hB2)
     have HT2 := Lib.hid (HT.out.below hB2)
     go_wp2_with fail
     go_roundw
     case rel => exact ⟨k + 1, by omega, by go_num, HX2, HT2, Lib.hid (HNX.out he)⟩
     case measure => simp [intOf] <;> omega
   ·by_cases he : nm.toList = s.toList
    ·have he2 : (nm.toList == s.toList) = true := by simpa using he
     have HI := Lib.hid (HAT.out he)
     have HVR := Lib.hid (VRow_put8 HV.out (Nat.le_refl _) (.cells #[.string nm, .int .i64 fx.kind, .int .i64 fx.num, .string fx.name, .slice A 0 c, .slice B bn bc, .func fa #[] #[], .func fb #[] #[]] 72) (.string nm) (.int .i64 fx.kind) (.int .i64 fx.num) (.string fx.name) (.slice A 0 c) (.slice B bn bc) (.func fa #[] #[]) (.func fb #[] #[]))
     obtain ⟨q0, q1, q2, q3, q4, q5, q6, q7⟩ := put8_cells wr w.heap.size (.string nm) (.int .i64 fx.kind) (.int .i64 fx.num) (.string fx.name) (.slice A 0 c) (.slice B bn bc) (.func fa #[] #[]) (.func fb #[] #[]) HX.out.lt HX.out.r (.cells #[.string nm, .int .i64 fx.kind, .int .i64 fx.num, .string fx.name, .slice A 0 c, .slice B bn bc, .func fa #[] #[], .func fb #[] #[]] 72)
     have HBW := Lib.hid (HPUT.out.alloc HPUT.out.size (.cells #[.string nm, .int .i64 fx.kind, .int .i64 fx.num, .string fx.name, .slice A 0 c, .slice B bn bc, .func fa #[] #[], .func fb #[] #[]] 72))
     clear HPUT HX HT HN HAT HNX HV
     go_wp2_with fail
     exact bodyPost_ret (v := .tuple #[.agg #[.string nm, .int .i64 fx.kind, .int .i64 fx.num, .string fx.name, .slice A 0 c, .slice B bn bc, .func fa #[] #[], .func fb #[] #[]], .bool true]) (by simp [results, Tryz.results45, go_sem, q0, q1, q2, q3, q4, q5, q6, q7]) rfl ⟨⟨_, by rw [HI.out]; rw [decide_eq_true hlt], fun _ => ⟨A, c, .slice B bn bc, by rw [HI.out, HFV.out], by rw [HI.out]; exact HVR.out⟩, fun h => absurd (by rw [HI.out]; exact hlt) h⟩, HBW.out⟩
    ·have he2 : (nm.toList == s.toList) = false := by simpa using he
     have hB2 := (Below.refl wr.heap.size wr).alloc (Nat.le_refl _) (.cells #[.string nm, .int .i64 fx.kind, .int .i64 fx.num, .string fx.name, .slice A 0 c, .slice B bn bc, .func fa #[] #[], .func fb #[] #[]] 72)
     have HX2 := Lib.hid (HX.out.call hB2)
     have HT2 := Lib.hid (HT.out.below hB2)
     go_wp2_with fail
     go_roundw
     case rel => exact ⟨k + 1, by omega, by go_num, HX2, HT2, Lib.hid (HNX.out he)⟩
     case measure => simp [intOf] <;> omega
  ·have hk9 : k = 9 := by omega
   subst hk9
   have HI := Lib.hid (fIx_no (s := s) HN.out)
   obtain ⟨y0, r0⟩ := HX.out.r 0 (by decide)
   obtain ⟨y1, r1⟩ := HX.out.r 1 (by decide)
   obtain ⟨y2, r2⟩ := HX.out.r 2 (by decide)
   obtain ⟨y3, r3⟩ := HX.out.r 3 (by decide)
   obtain ⟨y4, r4⟩ := HX.out.r 4 (by decide)
   obtain ⟨y5, r5⟩ := HX.out.r 5 (by decide)
   obtain ⟨y6, r6⟩ := HX.out.r 6 (by decide)
   obtain ⟨y7, r7⟩ := HX.out.r 7 (by decide)
   have f0 := HX.out.fr 0
   have f1 := HX.out.fr 1
   have f2 := HX.out.fr 2
   have f3 := HX.out.fr 3
   have f4 := HX.out.fr 4
   have f5 := HX.out.fr 5
   have f6 := HX.out.fr 6
   have f7 := HX.out.fr 7
   have HPUT := Lib.hid (HX.out.put (.string ⟨#[]⟩) (.int .i64 0) (.int .i64 0) (.string ⟨#[]⟩) (.slice none 0 0) (.slice none 0 0) .nilFunc .nilFunc)
   clear HX HT HN
   go_wp2_with fail
   exact bodyPost_ret (v := .tuple #[flagZ, .bool false]) (by simp [results, Tryz.results45, go_sem, flagZ, r0, r1, r2, r3, r4, r5, r6, r7]) rfl ⟨⟨_, by rw [HI.out]; rfl, fun h => absurd h (by rw [HI.out]; decide), fun _ => rfl⟩, HPUT.out⟩
end Go.Proofs.YtfkhcpeahdkafaaGreat
