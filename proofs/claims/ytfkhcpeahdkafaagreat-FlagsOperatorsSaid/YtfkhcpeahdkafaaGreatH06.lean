/- Flags: the table of predicates: its keys. Flags: a map literal in whatever order; plain. Flags: the table of predicates: the walk. Operators: names of types. Operators: types of names. Flags: what a term is; unbound. Flags: unbound, raise. Flags: a range over a function whose elements lie in memory: the caller's law. Boxes of a call, whole blocks: what they hold. A region that draws its order, by an invariant over what is done. -/
import Derived.Test.YtfkhcpeahdkafaaGreatH05
import Derived.DeepKeys4
import Derived.Maps.OwnSet
import Derived.RegionTactic
import Derived.OwnWalk
import Derived.Carry
import Derived.Test.YtfkhcpeahdkafaaGreatH03
import Derived.RangeFuncNested
import Derived.RangeFuncBound
import Derived.RangeFuncCalls
import Derived.RangeFuncLeaves
namespace Go.Proofs.YtfkhcpeahdkafaaGreat
open Go.RowKit Hb
set_option maxRecDepth 100000
theorem key_row : (97 : TypeId) < Tryz.prog.types.size := of_decide_eq_true (by kernel_rfl)
theorem key_laid : laidOutB Tryz.prog = true := by kernel_rfl
theorem key_wide : (match Tryz.prog.underlying 97 with | some (.array _ _) | some (.struct _) => true | _ => false) = true := by rw [Tryz.underlying97]
theorem key_law : Maps.Keyed Tryz.prog 97 := Maps.Keyed.of_law (deep_law_laid key_laid (m := 2) (by omega) key_row (by kernel_rfl) key_wide)
theorem key_type : Tryz.prog.keyType 97 = true := by kernel_rfl
theorem key_cells : Tryz.prog.cellsOf 97 = 2 := by kernel_rfl
theorem cells_str : Tryz.prog.cellsOf 9 = 1 := by kernel_rfl
theorem cells_int : Tryz.prog.cellsOf 3 = 1 := by kernel_rfl
def keyV (s : ByteArray) (n : Int) : Value := .agg #[.string s, .int .i64 n]
theorem key_formed (s : ByteArray) (n : Int) : (keyV s n).formed Tryz.prog 97 = true := by simp [keyV, Value.formed, Tryz.underlying97, key_cells]
theorem key_lits (N : Nat) (s : ByteArray) (n : Int) (hs : s.size ≤ maxLen) (hn : (Lit.int .i64 n).wf = true) : Tryz.prog.keyLits (N + 2) 97 [.string s, .int .i64 n] = some [.string s.data.toList, .int .i64 n] := by
 have h1 : Tryz.prog.keyLits (N + 1) 9 [.string s] = some [.string s.data.toList] := by
  unfold Program.keyLits; rw [Tryz.underlying9]; simp [hs]
 have h2 : Tryz.prog.keyLits (N + 1) 3 [.int .i64 n] = some [.int .i64 n] := by
  unfold Program.keyLits; rw [Tryz.underlying3]; simp [hn]
 unfold Program.keyLits
 rw [Tryz.underlying97]
 simp only [key_cells]
 simp [cells_str, cells_int, h1, h2]
theorem key_is (s : ByteArray) (n : Int) (hs : s.size ≤ maxLen) (hn : (Lit.int .i64 n).wf = true) : ∃ l, keyOf Tryz.prog 97 (keyV s n) = some l := by
 obtain ⟨N, hN⟩ : ∃ N, Tryz.prog.types.size + 1 = N + 2 := ⟨Tryz.prog.types.size - 1, by have h : (97 : Nat) < Tryz.prog.types.size := key_row; omega⟩
 have hl := key_lits N s n hs hn
 unfold keyOf
 rw [Tryz.underlying97, key_type, key_formed, hN]
 show ∃ l, (if (true && true) = true then (Tryz.prog.keyLits (N + 2) 97 [.string s, .int .i64 n]).map fun ls => Lit.string (keyBytes ls) else none) = some l
 rw [hl]
 exact ⟨_, rfl⟩
end Go.Proofs.YtfkhcpeahdkafaaGreat
namespace Hb
open Go Go.RowKit
def cntF : Nat → (Nat → Bool) → Nat
 | 0, _ => 0
 | n + 1, S => cntF n S + (if S n = true then 0 else 1)
def updF (S : Nat → Bool) (j : Nat) : Nat → Bool := fun i => if i = j then true else S i
theorem updF_same (S : Nat → Bool) (j : Nat) : updF S j j = true := if_pos rfl
theorem updF_other (S : Nat → Bool) {j i : Nat} (h : i ≠ j) : updF S j i = S i := if_neg h
theorem cntF_ext : ∀ (n : Nat) (S T : Nat → Bool), (∀ i, i < n → S i = T i) → cntF n S = cntF n T
 | 0, _, _, _ => rfl
 | n + 1, S, T, h => by
  unfold cntF
  rw [cntF_ext n S T (fun i hi => h i (by omega)), h n (by omega)]
theorem cntF_upd : ∀ (n : Nat) (S : Nat → Bool) (j : Nat), j < n → S j = false → cntF n (updF S j) + 1 = cntF n S
 | 0, _, _, h, _ => absurd h (by omega)
 | n + 1, S, j, hj, h => by
  unfold cntF
  by_cases e : n = j
  ·subst e
   rw [cntF_ext n (updF S n) S (fun i hi => updF_other S (by omega)), updF_same, h]
   simp
  ·rw [updF_other S e]
   have := cntF_upd n S j (by omega) h
   omega
theorem cntF_zero : ∀ (n : Nat) (S : Nat → Bool), cntF n S = 0 → ∀ j, j < n → S j = true
 | 0, _, _, _, h => absurd h (by omega)
 | n + 1, S, h, j, hj => by
  unfold cntF at h
  by_cases e : j = n
  ·subst e
   by_cases c : S j = true
   ·exact c
   ·rw [if_neg c] at h; omega
  ·exact cntF_zero n S (by omega) j (by omega)
theorem cntF_pos : ∀ (n : Nat) (S : Nat → Bool), 0 < cntF n S → ∃ j, j < n ∧ S j = false
 | 0, _, h => absurd h (by unfold cntF; omega)
 | n + 1, S, h => by
  unfold cntF at h
  by_cases c : S n = true
  ·rw [if_pos c] at h
   obtain ⟨j, hj, e⟩ := cntF_pos n S (by omega)
   exact ⟨j, by omega, e⟩
  ·exact ⟨n, by omega, by simpa using c⟩
structure FillIs {H : Type} (P : Program) (k : TypeId) (R : Value → Option (DataW H × List MemPlace)) (b N : Nat) (kl : Nat → Lit) (d : Nat → DataW H) (S : Nat → Bool) (w0 w : World) (n : Nat) (D : DataW H) : Prop where
 own : w.ownsMap P k R b n D
 few : n + cntF N S ≤ N
 has : ∀ l, Maps.has D l = true ↔ ∃ j, j < N ∧ S j = true ∧ l = kl j
 at_ : ∀ j z, j < N → S j = true → D.atKey (kl j) z = d j
 gro : w0.grownBy w (some b)
theorem grown_trans {w0 w w' : World} {b : Nat} (h : w0.grownBy w (some b)) (k : w.grownBy w' (some b)) : w0.grownBy w' (some b) :=
 ⟨k.os.trans h.os, k.tape.trans h.tape, k.output.trans h.output, Nat.le_trans h.size k.size, fun i hi hne => (k.block i (Nat.lt_of_lt_of_le hi h.size) hne).trans (h.block i hi hne)⟩
theorem FillIs.put {H : Type} {P : Program} {k : TypeId} {R : Value → Option (DataW H × List MemPlace)} {b N : Nat} {kl : Nat → Lit} {d : Nat → DataW H} {S : Nat → Bool} {w0 w w' : World} {n : Nat} {D : DataW H} (h : FillIs P k R b N kl d S w0 w n D)
  {j : Nat} (hj : j < N) (hs : S j = false) (hk : WideAt.IsKeyLit (kl j)) (hi : ∀ i, i < N → kl i = kl j → i = j) (ho : w'.ownsMap P k R b (n + 1) (D.put (kl j) (d j))) (hg : w.grownBy w' (some b)) :
  FillIs P k R b N kl d (updF S j) w0 w' (n + 1) (D.put (kl j) (d j)) where
 own := ho
 few := by have := h.few; have := cntF_upd N S j hj hs; omega
 has := fun l => by
  by_cases c : l = kl j
  ·subst c
   rw [Maps.has_put_same h.own.isMap hk]
   exact ⟨fun _ => ⟨j, hj, updF_same S j, rfl⟩, fun _ => rfl⟩
  ·rw [Maps.has_put_other c, h.has]
   constructor
   ·rintro ⟨i, h1, h2, h3⟩
    refine ⟨i, h1, ?_, h3⟩
    by_cases e : i = j
    ·subst e; exact updF_same S i
    ·rw [updF_other S e]; exact h2
   ·rintro ⟨i, h1, h2, h3⟩
    have e : i ≠ j := fun e => c (by rw [h3, e])
    rw [updF_other S e] at h2
    exact ⟨i, h1, h2, h3⟩
 at_ := fun i z h1 h2 => by
  by_cases e : i = j
  ·subst e; rw [Maps.atKey_put_same h.own.isMap hk]
  ·rw [updF_other S e] at h2
   rw [Maps.atKey_put_other (fun c => e (hi i h1 c)), h.at_ i z h1 h2]
 gro := grown_trans h.gro hg
theorem wpAny_fill {H : Type} {P : Program} {ops : Array Oper} {Q : Exit → Act → World → Prop} {md : Region.Mode} {a : Act} {t k e : TypeId} (K : Maps.Keyed P k) (ht : P.underlying t = some (.map k e)) (R : Value → Option (DataW H × List MemPlace)) (b N f0 : Nat) (hN : N < maxLen)
  (Ls : (Nat → Bool) → Array Bool) (ix : Nat → Nat) (kv vv : Nat → Value) (kl : Nat → Lit) (d : Nat → DataW H) (ps : Nat → List MemPlace) (w0 : World)
  (hmem : ∀ S i, i ∈ Region.ready md ops (Ls S) → (∃ j, j < N ∧ i = ix j ∧ S j = false) ∨ ∀ j, j < N → S j = true)
  (hne : ∀ S j, j < N → S j = false → ix j ∈ Region.ready md ops (Ls S))
  (hset : ∀ S j, j < N → (Ls S).setIfInBounds (ix j) true = Ls (updF S j))
  (hop : ∀ j, j < N → ∃ o, ops[ix j]? = some o ∧ o.guard = none ∧ o.dst = none ∧ ∀ w w', (Instr.mapUpdate t (.map (some b)) (kv j) (vv j)).run P w = .ok () w' → (execOp a.eval o).run P w = .ok .skip w')
  (hkey : ∀ j, j < N → keyOf P k (kv j) = some (kl j)) (hval : ∀ j, j < N → R (vv j) = some (d j, ps j)) (hinj : ∀ i j, i < N → j < N → kl i = kl j → i = j)
  (hend : ∀ f S w n D, (∀ j, j < N → S j = true) → FillIs P k R b N kl d S w0 w n D → wpAny P md ops Q (f + f0) (Ls S) a w) :
  ∀ (m : Nat) (S : Nat → Bool) (w : World) (n : Nat) (D : DataW H), cntF N S ≤ m → FillIs P k R b N kl d S w0 w n D → wpAny P md ops Q (m + f0) (Ls S) a w
 | 0, S, w, n, D, hc, hI => by
  have h := hend 0 S w n D (cntF_zero N S (by omega)) hI
  exact h
 | m + 1, S, w, n, D, hc, hI => by
  by_cases hz : cntF N S = 0
  ·exact hend (m + 1) S w n D (cntF_zero N S hz) hI
  ·obtain ⟨j0, hj0, hs0⟩ := cntF_pos N S (by omega)
   rw [show m + 1 + f0 = (m + f0) + 1 by omega]
   refine ⟨fun h => ?_, fun i hi => ?_⟩
   ·have := hne S j0 hj0 hs0
    rw [h] at this; cases this
   ·rcases hmem S i hi with ⟨j, hj, rfl, hs⟩ | hall
    ·obtain ⟨o, ho, hg, hd, hrun⟩ := hop j hj
     have hf := hI.few
     have hcu := cntF_upd N S j hj hs
     obtain ⟨w', hr, ho', hg'⟩ := hI.own.update K ht (by omega) (hkey j hj) (hval j hj)
     unfold wpOp
     rw [ho]
     have hw : Region.wanted o (yielded ops a.tmps) = true := by unfold Region.wanted; rw [hg]
     simp only [hw, if_true]
     refine .inl ?_
     unfold Oper.wp
     rw [hrun w w' hr]
     show wpAny P md ops Q (m + f0) ((Ls S).setIfInBounds (ix j) true) (a.put o.dst undef) w'
     rw [hset S j hj, hd]
     exact wpAny_fill K ht R b N f0 hN Ls ix kv vv kl d ps w0 hmem hne hset hop hkey hval hinj hend m (updF S j) w' (n + 1) _ (by omega) (hI.put hj hs (K.key (hkey j hj)) (fun i hi e => hinj i j hi hj e) ho' hg')
    ·rw [hall j0 hj0] at hs0; cases hs0
end Hb
namespace Hb
open Go Go.RowKit
def pNm (j : Nat) : ByteArray := [⟨#[111, 112]⟩, ⟨#[99, 117, 114, 114, 101, 110, 116, 95, 111, 112]⟩, ⟨#[99, 104, 97, 114, 95, 99, 111, 110, 118, 101, 114, 115, 105, 111, 110]⟩, ⟨#[99, 117, 114, 114, 101, 110, 116, 95, 99, 104, 97, 114, 95, 99, 111, 110, 118, 101, 114, 115, 105, 111, 110]⟩, ⟨#[115, 101, 116, 95, 112, 114, 111, 108, 111, 103, 95, 102, 108, 97, 103]⟩, ⟨#[99, 117, 114, 114, 101, 110, 116, 95, 112, 114, 111, 108, 111, 103, 95, 102, 108, 97, 103]⟩].getD j ⟨#[]⟩
def pAr (j : Nat) : Int := [3, 3, 2, 2, 2, 2].getD j 0
def predR : Value → Option (DataW Unit × List MemPlace)
 | .agg cs => match cs.toList with
  | [.func (.func n) f c] => if f.toList = [] ∧ c.toList = [] then some (.lit (.int .i64 n), []) else none
  | [.nilFunc] => some (.lit (.int .i64 (-1)), [])
  | _ => none
 | _ => none
theorem predR_fn (n : Nat) : predR (.agg #[.func (.func n) #[] #[]]) = some (.lit (.int .i64 n), []) := rfl
theorem predR_nil : predR (.agg #[.nilFunc]) = some (.lit (.int .i64 (-1)), []) := rfl
theorem predR_inv {v : Value} {x : Int} {ps : List MemPlace} (h : predR v = some (.lit (.int .i64 x), ps)) : (x = -1 ∧ v = .agg #[.nilFunc]) ∨ ∃ n : Nat, x = n ∧ v = .agg #[.func (.func n) #[] #[]] := by
 unfold predR at h
 split at h
 ·rename_i cs
  split at h
  ·rename_i n f c hc
   split at h
   ·rename_i hfc
    injection h with h; injection h with h _; injection h with h; injection h with _ h
    refine .inr ⟨n, h.symm, ?_⟩
    have e1 : f = #[] := Array.ext' hfc.1
    have e2 : c = #[] := Array.ext' hfc.2
    subst e1 e2
    have : cs = #[.func (.func n) #[] #[]] := Array.ext' hc
    rw [this]
   ·cases h
  ·rename_i hc
   injection h with h; injection h with h _; injection h with h; injection h with _ h
   refine .inl ⟨h.symm, ?_⟩
   have : cs = #[.nilFunc] := Array.ext' hc
   rw [this]
  ·cases h
 ·cases h
end Hb
namespace Go.Proofs.YtfkhcpeahdkafaaGreat
open Go.RowKit Hb
set_option maxRecDepth 100000
def pFn (j : Nat) : Nat := [113, 114, 115, 116, 117, 118].getD j 0
noncomputable def klit (s : ByteArray) (n : Int) : Lit := (keyOf Tryz.prog 97 (keyV s n)).getD (.int .i64 0)
theorem klit_is (s : ByteArray) (n : Int) (hs : s.size ≤ maxLen) (hn : (Lit.int .i64 n).wf = true) : keyOf Tryz.prog 97 (keyV s n) = some (klit s n) := by
 obtain ⟨l, hl⟩ := key_is s n hs hn
 unfold klit
 rw [hl]; rfl
theorem p_small (j : Nat) : (pNm j).size ≤ maxLen := by
 rcases j with _ | _ | _ | _ | _ | _ | j <;> first | (unfold maxLen; decide) | (unfold maxLen; simp [pNm]; decide)
theorem p_wf (j : Nat) : (Lit.int .i64 (pAr j)).wf = true := by
 rcases j with _ | _ | _ | _ | _ | _ | j <;> first | decide | (simp [pAr]; decide)
theorem p_key (j : Nat) : keyOf Tryz.prog 97 (keyV (pNm j) (pAr j)) = some (klit (pNm j) (pAr j)) := klit_is _ _ (p_small j) (p_wf j)
theorem keyV_inj {s s' : ByteArray} {n n' : Int} (h : keyV s n = keyV s' n') : s = s' ∧ n = n' := by
 unfold keyV at h
 injection h with h
 have h := congrArg Array.toList h
 simp at h
 exact h
theorem p_inj (i j : Nat) (hi : i < 6) (hj : j < 6) (h : klit (pNm i) (pAr i) = klit (pNm j) (pAr j)) : i = j := by
 have h1 := p_key i
 rw [h] at h1
 obtain ⟨e, _⟩ := keyV_inj (key_law.inj h1 (p_key j))
 have e2 := congrArg ByteArray.toList e
 revert e2
 rcases (show i = 0 ∨ i = 1 ∨ i = 2 ∨ i = 3 ∨ i = 4 ∨ i = 5 by omega) with rfl | rfl | rfl | rfl | rfl | rfl <;> rcases (show j = 0 ∨ j = 1 ∨ j = 2 ∨ j = 3 ∨ j = 4 ∨ j = 5 by omega) with rfl | rfl | rfl | rfl | rfl | rfl <;> first | (intro _; rfl) | (rw [tl_data, tl_data]; intro e2; exact absurd e2 (by decide))
def PredIs (w : World) (b : Nat) : Prop := ∃ n D, w.ownsMap Tryz.prog 97 predR b n D ∧ (∀ l, Maps.has D l = true ↔ ∃ j, j < 6 ∧ l = klit (pNm j) (pAr j)) ∧ ∀ j z, j < 6 → D.atKey (klit (pNm j) (pAr j)) z = .lit (.int .i64 (pFn j))
def prL (S : Nat → Bool) : Array Bool := #[true, true, true, S 0, true, true, S 1, true, true, S 2, true, true, S 3, true, true, S 4, true, true, S 5, false, false]
set_option maxHeartbeats 3200000 in
theorem f_predicates (w : World) : Calls Tryz.prog 68 #[] w fun e w' => ∃ b, e = .returned (.map (some b)) ∧ w.heap.size ≤ b ∧ Below w.heap.size w w' ∧ PredIs w' b := by
 have hmk : ∀ (w : World), (Instr.makeMap 94 none).run Tryz.prog w = .ok (.map (some w.heap.size)) (w.alloc (.map #[] 0)) := fun w => run_makeMap _ w
 go_enter Tryz.func68, Tryz.ntmps68
 go_wp2_with fail
 rename_i K0 hK0
 refine wp_region_any (by kernel_rfl) ?_
 refine wpAny_take (i := 1) (v := .agg #[.string ⟨#[111, 112]⟩, .int .i64 3]) rfl (by kernel_rfl) (by kernel_rfl) (by kernel_rfl) (fun _ _ _ h => h) (.inl ⟨rfl, fun w => by kernel_rfl⟩) ?_
 refine wpAny_take (i := 2) (v := .agg #[.func (.func 113) #[] #[]]) rfl (by kernel_rfl) (by kernel_rfl) (by kernel_rfl) (fun _ _ _ h => h) (.inl ⟨rfl, fun w => by kernel_rfl⟩) ?_
 refine wpAny_take (i := 4) (v := .agg #[.string ⟨#[99, 117, 114, 114, 101, 110, 116, 95, 111, 112]⟩, .int .i64 3]) rfl (by kernel_rfl) (by kernel_rfl) (by kernel_rfl) (fun _ _ _ h => h) (.inl ⟨rfl, fun w => by kernel_rfl⟩) ?_
 refine wpAny_take (i := 5) (v := .agg #[.func (.func 114) #[] #[]]) rfl (by kernel_rfl) (by kernel_rfl) (by kernel_rfl) (fun _ _ _ h => h) (.inl ⟨rfl, fun w => by kernel_rfl⟩) ?_
 refine wpAny_take (i := 7) (v := .agg #[.string ⟨#[99, 104, 97, 114, 95, 99, 111, 110, 118, 101, 114, 115, 105, 111, 110]⟩, .int .i64 2]) rfl (by kernel_rfl) (by kernel_rfl) (by kernel_rfl) (fun _ _ _ h => h) (.inl ⟨rfl, fun w => by kernel_rfl⟩) ?_
 refine wpAny_take (i := 8) (v := .agg #[.func (.func 115) #[] #[]]) rfl (by kernel_rfl) (by kernel_rfl) (by kernel_rfl) (fun _ _ _ h => h) (.inl ⟨rfl, fun w => by kernel_rfl⟩) ?_
 refine wpAny_take (i := 10) (v := .agg #[.string ⟨#[99, 117, 114, 114, 101, 110, 116, 95, 99, 104, 97, 114, 95, 99, 111, 110, 118, 101, 114, 115, 105, 111, 110]⟩, .int .i64 2]) rfl (by kernel_rfl) (by kernel_rfl) (by kernel_rfl) (fun _ _ _ h => h) (.inl ⟨rfl, fun w => by kernel_rfl⟩) ?_
 refine wpAny_take (i := 11) (v := .agg #[.func (.func 116) #[] #[]]) rfl (by kernel_rfl) (by kernel_rfl) (by kernel_rfl) (fun _ _ _ h => h) (.inl ⟨rfl, fun w => by kernel_rfl⟩) ?_
 refine wpAny_take (i := 13) (v := .agg #[.string ⟨#[115, 101, 116, 95, 112, 114, 111, 108, 111, 103, 95, 102, 108, 97, 103]⟩, .int .i64 2]) rfl (by kernel_rfl) (by kernel_rfl) (by kernel_rfl) (fun _ _ _ h => h) (.inl ⟨rfl, fun w => by kernel_rfl⟩) ?_
 refine wpAny_take (i := 14) (v := .agg #[.func (.func 117) #[] #[]]) rfl (by kernel_rfl) (by kernel_rfl) (by kernel_rfl) (fun _ _ _ h => h) (.inl ⟨rfl, fun w => by kernel_rfl⟩) ?_
 refine wpAny_take (i := 16) (v := .agg #[.string ⟨#[99, 117, 114, 114, 101, 110, 116, 95, 112, 114, 111, 108, 111, 103, 95, 102, 108, 97, 103]⟩, .int .i64 2]) rfl (by kernel_rfl) (by kernel_rfl) (by kernel_rfl) (fun _ _ _ h => h) (.inl ⟨rfl, fun w => by kernel_rfl⟩) ?_
 refine wpAny_take (i := 17) (v := .agg #[.func (.func 118) #[] #[]]) rfl (by kernel_rfl) (by kernel_rfl) (by kernel_rfl) (fun _ _ _ h => h) (.inl ⟨rfl, fun w => by kernel_rfl⟩) ?_
 refine wpAny_ready (rs := [0]) (by kernel_rfl) (by simp) (AllReady.cons rfl (fun K' hK => ?_) AllReady.nil)
 split
 rotate_left
 ·rename_i h
  exact absurd rfl h
 refine hK (⟨#[.map none, .map (some w.heap.size), .agg #[.string ⟨#[111, 112]⟩, .int .i64 3], .agg #[.func (.func 113) #[] #[]], .agg #[.string ⟨#[99, 117, 114, 114, 101, 110, 116, 95, 111, 112]⟩, .int .i64 3], .agg #[.func (.func 114) #[] #[]], .agg #[.string ⟨#[99, 104, 97, 114, 95, 99, 111, 110, 118, 101, 114, 115, 105, 111, 110]⟩, .int .i64 2], .agg #[.func (.func 115) #[] #[]], .agg #[.string ⟨#[99, 117, 114, 114, 101, 110, 116, 95, 99, 104, 97, 114, 95, 99, 111, 110, 118, 101, 114, 115, 105, 111, 110]⟩, .int .i64 2], .agg #[.func (.func 116) #[] #[]], .agg #[.string ⟨#[115, 101, 116, 95, 112, 114, 111, 108, 111, 103, 95, 102, 108, 97, 103]⟩, .int .i64 2], .agg #[.func (.func 117) #[] #[]], .agg #[.string ⟨#[99, 117, 114, 114, 101, 110, 116, 95, 112, 114, 111, 108, 111, 103, 95, 102, 108, 97, 103]⟩, .int .i64 2], .agg #[.func (.func 118) #[] #[]], undef], []⟩ : Act) (w.drew.alloc (.map #[] 0)) ?_
 change wpAny _ _ _ _ (6 + 2) (prL fun _ => false) _ _
 have hG0 : w.grownBy (w.drew.alloc (.map #[] 0)) (some w.heap.size) := by
  have hg := World.grownBy_alloc w.drew (.map #[] 0) (some w.heap.size)
  exact ⟨hg.os, hg.tape, hg.output, hg.size, hg.block⟩
 refine wpAny_fill (H := Unit) key_law Tryz.underlying94 predR w.heap.size 6 2 (by unfold maxLen; omega) prL (fun j => 3 + 3 * j) (fun j => keyV (pNm j) (pAr j)) (fun j => .agg #[.func (.func (pFn j)) #[] #[]]) (fun j => klit (pNm j) (pAr j)) (fun j => .lit (.int .i64 (pFn j))) (fun _ => []) w ?_ ?_ ?_ ?_ (fun j _ => p_key j) (fun j _ => predR_fn _) (fun i j hi hj h => p_inj i j hi hj h) ?_ 6 (fun _ => false) (w.drew.alloc (.map #[] 0)) 0 (.map []) (by decide) ⟨World.ownsMap_made w.drew _ _ _, by decide, fun l => ⟨fun h => (by cases h), fun ⟨j, _, h, _⟩ => (by cases h)⟩, fun j z _ h => (by cases h), hG0⟩
 ·intro S i hi
  obtain ⟨h1, o, ho, hall⟩ := mem_ready.1 hi
  have hlt : i < 21 := (Array.getElem?_eq_some_iff.1 ho).1
  rcases (show i = 0 ∨ i = 1 ∨ i = 2 ∨ i = 3 ∨ i = 4 ∨ i = 5 ∨ i = 6 ∨ i = 7 ∨ i = 8 ∨ i = 9 ∨ i = 10 ∨ i = 11 ∨ i = 12 ∨ i = 13 ∨ i = 14 ∨ i = 15 ∨ i = 16 ∨ i = 17 ∨ i = 18 ∨ i = 19 ∨ i = 20 by omega) with rfl | rfl | rfl | rfl | rfl | rfl | rfl | rfl | rfl | rfl | rfl | rfl | rfl | rfl | rfl | rfl | rfl | rfl | rfl | rfl | rfl
  ·exact absurd (show true = false from h1) (by decide)
  ·exact absurd (show true = false from h1) (by decide)
  ·exact absurd (show true = false from h1) (by decide)
  ·exact .inl ⟨0, by decide, rfl, h1⟩
  ·exact absurd (show true = false from h1) (by decide)
  ·exact absurd (show true = false from h1) (by decide)
  ·exact .inl ⟨1, by decide, rfl, h1⟩
  ·exact absurd (show true = false from h1) (by decide)
  ·exact absurd (show true = false from h1) (by decide)
  ·exact .inl ⟨2, by decide, rfl, h1⟩
  ·exact absurd (show true = false from h1) (by decide)
  ·exact absurd (show true = false from h1) (by decide)
  ·exact .inl ⟨3, by decide, rfl, h1⟩
  ·exact absurd (show true = false from h1) (by decide)
  ·exact absurd (show true = false from h1) (by decide)
  ·exact .inl ⟨4, by decide, rfl, h1⟩
  ·exact absurd (show true = false from h1) (by decide)
  ·exact absurd (show true = false from h1) (by decide)
  ·exact .inl ⟨5, by decide, rfl, h1⟩
  ·cases ho
   refine .inr fun j hj => ?_
   rcases (show j = 0 ∨ j = 1 ∨ j = 2 ∨ j = 3 ∨ j = 4 ∨ j = 5 by omega) with rfl | rfl | rfl | rfl | rfl | rfl
   ·exact hall ⟨3, .data⟩ (by simp) rfl
   ·exact hall ⟨6, .data⟩ (by simp) rfl
   ·exact hall ⟨9, .data⟩ (by simp) rfl
   ·exact hall ⟨12, .data⟩ (by simp) rfl
   ·exact hall ⟨15, .data⟩ (by simp) rfl
   ·exact hall ⟨18, .data⟩ (by simp) rfl
  ·cases ho
   exact absurd (show false = true from hall ⟨19, .data⟩ (by simp) rfl) (by decide)
 ·intro S j hj hs
  rcases (show j = 0 ∨ j = 1 ∨ j = 2 ∨ j = 3 ∨ j = 4 ∨ j = 5 by omega) with rfl | rfl | rfl | rfl | rfl | rfl
  all_goals
   refine mem_ready.2 ⟨hs, _, rfl, fun e he _ => ?_⟩
   simp at he
   rcases he with rfl | rfl | rfl <;> rfl
 ·intro S j hj
  rcases (show j = 0 ∨ j = 1 ∨ j = 2 ∨ j = 3 ∨ j = 4 ∨ j = 5 by omega) with rfl | rfl | rfl | rfl | rfl | rfl <;> rfl
 ·intro j hj
  rcases (show j = 0 ∨ j = 1 ∨ j = 2 ∨ j = 3 ∨ j = 4 ∨ j = 5 by omega) with rfl | rfl | rfl | rfl | rfl | rfl
  all_goals
   refine ⟨_, rfl, rfl, rfl, fun W W' h => ?_⟩
   simp [execOp, go_sem]
   exact congrArg (fun r => r.andThen fun _ w' => Result.ok Next.skip w') h
 ·intro f S w' n D hall hI
  rw [show prL S = prL (fun _ => true) by unfold prL; rw [hall 0 (by decide), hall 1 (by decide), hall 2 (by decide), hall 3 (by decide), hall 4 (by decide), hall 5 (by decide)]]
  refine wpAny_take (i := 19) (v := .map (some w.heap.size)) rfl (by kernel_rfl) (by kernel_rfl) (by kernel_rfl) (fun _ _ _ h => h) (.inl ⟨rfl, fun w => by kernel_rfl⟩) ?_
  refine wpAny_take (i := 20) (v := .map (some w.heap.size)) rfl (by kernel_rfl) (by kernel_rfl) (by kernel_rfl) (fun _ _ _ h => h) (.inl ⟨rfl, fun w => by kernel_rfl⟩) ?_
  refine wpAny_done (by kernel_rfl) ?_ f
  have hgr := hI.gro
  have hP : PredIs w' w.heap.size := ⟨n, D, hI.own, fun l => (hI.has l).trans ⟨fun ⟨j, h1, _, h3⟩ => ⟨j, h1, h3⟩, fun ⟨j, h1, h3⟩ => ⟨j, h1, hall j h1, h3⟩⟩, fun j z hj => hI.at_ j z hj (hall j hj)⟩
  have hB : Below w.heap.size w w' := ⟨hgr.os, hgr.tape, hgr.output, hgr.size, fun k hk => hgr.block k hk (by intro e; injection e with e; omega)⟩
  clear hI hgr
  refine hK0 _ _ ?_
  go_wp2_with fail
  exact bodyPost_ret (v := .map (some w.heap.size)) (by simp [results, Tryz.results68, go_sem]) rfl ⟨w.heap.size, rfl, Nat.le_refl _, hB, hP⟩
end Go.Proofs.YtfkhcpeahdkafaaGreat
namespace Hb
open Go Go.RowKit
def tyNm (t : Int) : ByteArray := if t = 1 then ⟨#[120, 102, 120]⟩ else if t = 2 then ⟨#[120, 102, 121]⟩ else if t = 3 then ⟨#[121, 102, 120]⟩ else if t = 4 then ⟨#[102, 121]⟩ else if t = 5 then ⟨#[102, 120]⟩ else if t = 6 then ⟨#[120, 102]⟩ else if t = 7 then ⟨#[121, 102]⟩ else ⟨#[]⟩
def tyOk (t : Int) : Bool := decide (1 ≤ t) && decide (t ≤ 7)
theorem ty_at (t : Int) : (t < 1 ∧ tyNm t = ⟨#[]⟩ ∧ tyOk t = false) ∨ (8 ≤ t ∧ tyNm t = ⟨#[]⟩ ∧ tyOk t = false) ∨ t = 1 ∨ t = 2 ∨ t = 3 ∨ t = 4 ∨ t = 5 ∨ t = 6 ∨ t = 7 := by
 unfold tyNm tyOk
 grind
end Hb
namespace Go.Proofs.YtfkhcpeahdkafaaGreat
open Go.RowKit Hb
set_option maxRecDepth 100000
set_option maxHeartbeats 1600000 in
theorem ops_typeName (t : Int) (w : World) : Calls Tryz.prog 158 #[.int .i64 t] w fun e w' => e = .returned (.tuple #[.string (tyNm t), .bool (tyOk t)]) ∧ Below w.heap.size w w' := by
 rcases ty_at t with ⟨h, e1, e2⟩ | ⟨h, e1, e2⟩ | rfl | rfl | rfl | rfl | rfl | rfl | rfl
 ·rw [e1, e2]
  clear e1 e2
  go_enter Tryz.func158, Tryz.ntmps158
  go_wp2_with fail
  exact bodyPost_ret (v := .tuple #[.string ⟨#[]⟩, .bool false]) (by simp [results, Tryz.results158, go_sem]) rfl ⟨rfl, (Below.refl _ _).alloc (Nat.le_refl _) _⟩
 ·rw [e1, e2]
  clear e1 e2
  go_enter Tryz.func158, Tryz.ntmps158
  go_wp2_with fail
  exact bodyPost_ret (v := .tuple #[.string ⟨#[]⟩, .bool false]) (by simp [results, Tryz.results158, go_sem]) rfl ⟨rfl, (Below.refl _ _).alloc (Nat.le_refl _) _⟩
 all_goals
  go_enter Tryz.func158, Tryz.ntmps158
  go_wp2_with fail
  refine bodyPost_ret (v := .tuple #[.string (tyNm _), .bool true]) ?_ rfl ⟨rfl, (Below.refl _ _).alloc (Nat.le_refl _) _⟩
  simp [results, Tryz.results158, go_sem, tyNm]
end Go.Proofs.YtfkhcpeahdkafaaGreat
namespace Hb
open Go Go.RowKit
def tyFrom (s : ByteArray) : Nat → Nat → Int
 | _, 0 => 0
 | k, d + 1 => if ((tyNm k).toList == s.toList) = true then k else tyFrom s (k + 1) d
def tyOf (s : ByteArray) : Int := tyFrom s 1 7
theorem tyFrom_step (s : ByteArray) (k : Nat) (hk : k ≤ 7) : tyFrom s k (8 - k) = if ((tyNm k).toList == s.toList) = true then (k : Int) else tyFrom s (k + 1) (8 - (k + 1)) := by
 rw [show 8 - k = (8 - (k + 1)) + 1 by omega]; rfl
end Hb
namespace Go.Proofs.YtfkhcpeahdkafaaGreat
open Go.RowKit Hb
set_option maxRecDepth 100000
set_option maxHeartbeats 1600000 in
theorem ops_typeOf (s : ByteArray) (w : World) : Calls Tryz.prog 147 #[.string s] w fun e w' => e = .returned (.tuple #[.int .i64 (tyOf s), .bool (decide (0 < tyOf s))]) ∧ Below w.heap.size w w' := by
 go_enter Tryz.func147, Tryz.ntmps147
 go_wp2_with fail
 go_loopw [4] (fun i wr => ∃ k : Nat, 1 ≤ k ∧ k ≤ 8 ∧ i = .int .i64 k ∧ Below w.heap.size w wr ∧ Hid (tyOf s = tyFrom s k (8 - k))) (fun i _ => 8 - (intOf i).toNat)
 case atStart => exact ⟨1, by omega, by omega, rfl, Below.refl _ _, rfl⟩
 case round =>
  obtain ⟨k, hk1, hk, rfl, hB, HA⟩ := hrel
  by_cases hlt : k ≤ 7
  ·have HC := Lib.hid (carryO (w0 := w) hB (ops_typeName k wr))
   have HS := Lib.hid (HA.out.trans (tyFrom_step s k hlt))
   clear HA
   generalize tyNm (k : Int) = m at *
   generalize tyOk (k : Int) = ok at *
   cases hm : (m.toList == s.toList)
   ·have hm2 : ¬m.toList = s.toList := by simpa using hm
    rw [hm] at HS
    go_wp2_with fail
    refine HC.out.mono ?_; rintro e w1 ⟨rfl, hB1⟩
    go_wp2_with fail
    go_roundw
    case rel => exact ⟨k + 1, by omega, by omega, by go_num, hB1, HS.out⟩
    case measure => simp [intOf] <;> omega
   ·have hm2 : m.toList = s.toList := by simpa using hm
    rw [hm] at HS
    have h0 : decide (0 < tyOf s) = true := by rw [HS.out]; simp; omega
    have HV := Lib.hid (show tyOf s = (k : Int) from HS.out)
    have H0 := Lib.hid h0
    clear h0
    go_wp2_with fail
    refine HC.out.mono ?_; rintro e w1 ⟨rfl, hB1⟩
    go_wp2_with fail
    exact bodyPost_ret (v := .tuple #[.int .i64 k, .bool true]) (by simp [results, Tryz.results147, go_sem]) rfl ⟨by rw [H0.out, HV.out], hB1⟩
  ·have hk8 : k = 8 := by omega
   subst hk8
   have HV := Lib.hid (show tyOf s = 0 from HA.out)
   go_wp2_with fail
   exact bodyPost_ret (v := .tuple #[.int .i64 0, .bool false]) (by simp [results, Tryz.results147, go_sem]) rfl ⟨by rw [HV.out]; rfl, hB⟩
end Go.Proofs.YtfkhcpeahdkafaaGreat
namespace Hb
open Go Go.RowKit
def isAtomT (t : Tm) : Bool := t.kind == 2
def isNilT (t : Tm) : Bool := t.kind == 2 && t.name.toList == [91, 93]
def isPrioT (t : Tm) : Bool := t.kind == 1 && (decide (0 ≤ t.num) && decide (t.num ≤ 1200))
def isTypeT (t : Tm) : Bool := decide (0 < tyOf t.name) && t.kind == 2
def anyVar (l : List Tm) : Bool := l.any fun t => t.kind == 0
end Hb
namespace Go.Proofs.YtfkhcpeahdkafaaGreat
open Go.RowKit Hb
set_option maxRecDepth 100000
theorem f_isAtom (t : Tm) (A : Option Addr) (cap : Nat) (w : World) : Calls Tryz.prog 156 #[tmV t A cap] w fun e w' => e = .returned (.bool (isAtomT t)) ∧ Below w.heap.size w w' := by
 unfold tmV isAtomT
 generalize t.kind = a0 at *
 generalize t.num = a1 at *
 generalize t.name = a2 at *
 generalize t.args.length = a3 at *
 have hB := (Below.refl w.heap.size w).alloc (Nat.le_refl _) (.cells #[.int .i64 a0, .int .i64 a1, .string a2, .slice A a3 cap] 26)
 go_enter Tryz.func156, Tryz.ntmps156
 go_wp2_with fail
 go_ret
 exact ⟨rfl, hB⟩
theorem f_unbound1 (t : Tm) (A : Option Addr) (cap : Nat) (w : World) : Calls Tryz.prog 194 #[tmV t A cap] w fun e w' => e = .returned (.bool (t.kind == 0)) ∧ Below w.heap.size w w' := by
 unfold tmV
 generalize t.kind = a0 at *
 generalize t.num = a1 at *
 generalize t.name = a2 at *
 generalize t.args.length = a3 at *
 have hB := (Below.refl w.heap.size w).alloc (Nat.le_refl _) (.cells #[.int .i64 a0, .int .i64 a1, .string a2, .slice A a3 cap] 26)
 go_enter Tryz.func194, Tryz.ntmps194
 go_wp2_with fail
 go_ret
 exact ⟨rfl, hB⟩
theorem f_isNil (t : Tm) (A : Option Addr) (cap : Nat) (w : World) : Calls Tryz.prog 185 #[tmV t A cap] w fun e w' => e = .returned (.bool (isNilT t)) ∧ Below w.heap.size w w' := by
 have HA := Lib.hid (fun W => f_isAtom t A cap W)
 have HR : Hid (isNilT t = (isAtomT t && t.name.toList == [91, 93])) := Lib.hid rfl
 have hX := TBx.start w t A cap t.args.length 26 rfl
 have hB := (Below.refl w.heap.size w).alloc (Nat.le_refl _) (.cells #[.int .i64 t.kind, .int .i64 t.num, .string t.name, .slice A t.args.length cap] 26)
 unfold tmV at *
 have HX := Lib.hid hX
 clear hX
 go_enter Tryz.func185, Tryz.ntmps185
 go_wp2_with fail
 refine (HA.out _).mono ?_; rintro e w1 ⟨rfl, hB1⟩
 have hb := hB.trans (hB1.mono hB.size)
 have hX1 := HX.out.call hB1
 have c2 := hX1.c2
 generalize isAtomT t = b at *
 cases b
 ·go_wp2_with fail
  go_ret
  exact ⟨ret_bool (by rw [HR.out]; rfl), hb⟩
 ·by_cases hn : t.name.toList = [91, 93]
  ·have h2 : (t.name.toList == [91, 93]) = true := by simpa using hn
   generalize t.name = nm at *
   go_wp2_with fail
   go_ret
   exact ⟨ret_bool (by rw [HR.out, h2]; rfl), hb⟩
  ·have h2 : (t.name.toList == [91, 93]) = false := by simpa using hn
   generalize t.name = nm at *
   go_wp2_with fail
   go_ret
   exact ⟨ret_bool (by rw [HR.out, h2]; rfl), hb⟩
theorem f_isPriority (t : Tm) (A : Option Addr) (cap : Nat) (w : World) : Calls Tryz.prog 153 #[tmV t A cap] w fun e w' => e = .returned (.bool (isPrioT t)) ∧ Below w.heap.size w w' := by
 have HR : Hid (isPrioT t = (t.kind == 1 && (decide (0 ≤ t.num) && decide (t.num ≤ 1200)))) := Lib.hid rfl
 unfold tmV
 generalize isPrioT t = r at *
 generalize t.kind = a0 at *
 generalize t.num = a1 at *
 generalize t.name = a2 at *
 generalize t.args.length = a3 at *
 have hB := (Below.refl w.heap.size w).alloc (Nat.le_refl _) (.cells #[.int .i64 a0, .int .i64 a1, .string a2, .slice A a3 cap] 26)
 have d0 : a0 = 1 ∨ ¬ a0 = 1 := Decidable.em _
 have d1 : a1 < 0 ∨ 1200 < a1 ∨ (0 ≤ a1 ∧ a1 ≤ 1200) := by omega
 rcases d0 with rfl | d0 <;> rcases d1 with d1 | d1 | ⟨d1, d1'⟩
 all_goals
  go_enter Tryz.func153, Tryz.ntmps153
  go_wp2_with fail
  go_ret
  refine ⟨ret_bool ?_, hB⟩
  rw [HR.out]
  simp [*] <;> omega
theorem f_isType (t : Tm) (A : Option Addr) (cap : Nat) (w : World) : Calls Tryz.prog 155 #[tmV t A cap] w fun e w' => e = .returned (.bool (isTypeT t)) ∧ Below w.heap.size w w' := by
 have HA := Lib.hid (fun W => f_isAtom t A cap W)
 have HR : Hid (isTypeT t = (decide (0 < tyOf t.name) && isAtomT t)) := Lib.hid rfl
 have HX := Lib.hid (TBx.start w t A cap t.args.length 26 rfl)
 have hB := (Below.refl w.heap.size w).alloc (Nat.le_refl _) (.cells #[.int .i64 t.kind, .int .i64 t.num, .string t.name, .slice A t.args.length cap] 26)
 unfold tmV at *
 go_enter Tryz.func155, Tryz.ntmps155
 go_wp2_with fail
 refine (ops_typeOf t.name _).mono ?_; rintro e w1 ⟨rfl, hB1⟩
 have hb := hB.trans (hB1.mono hB.size)
 have hX1 := HX.out.call hB1
 have c0 := hX1.c0
 have c1 := hX1.c1
 have c2 := hX1.c2
 have c3 := hX1.c3
 by_cases ht : 0 < tyOf t.name
 ·rw [decide_eq_true ht] at HR ⊢
  go_wp2_with fail
  refine (HA.out _).mono ?_; rintro e w2 ⟨rfl, hB2⟩
  have hb2 := hb.trans (hB2.mono hb.size)
  go_wp2_with fail
  go_ret
  exact ⟨ret_bool (by rw [HR.out]; simp), hb2⟩
 ·rw [decide_eq_false ht] at HR ⊢
  go_wp2_with fail
  go_ret
  exact ⟨ret_bool (by rw [HR.out]; rfl), hb⟩
end Go.Proofs.YtfkhcpeahdkafaaGreat
namespace Hb
open Go Go.RowKit
theorem anyVar_no {l : List Tm} (h : ∀ j (hj : j < l.length), ¬ l[j].kind = 0) : anyVar l = false := by
 unfold anyVar
 rw [List.any_eq_false]
 intro t ht
 obtain ⟨j, hj, rfl⟩ := List.getElem_of_mem ht
 simpa using h j hj
theorem anyVar_yes {l : List Tm} (j : Nat) (hj : j < l.length) (h : l[j].kind = 0) : anyVar l = true := by
 unfold anyVar
 rw [List.any_eq_true]
 exact ⟨l[j], List.getElem_mem hj, by simpa using h⟩
end Hb
namespace Go.Proofs.YtfkhcpeahdkafaaGreat
open Go.RowKit Hb
set_option maxRecDepth 100000
set_option maxHeartbeats 1600000 in
theorem f_indexV (l : List Tm) (A : Option Addr) (cap : Nat) (w : World) (hT : TmsAt w.heap.size w A l) : Calls Tryz.prog 208 #[.slice A l.length cap, .func (.func 194) #[] #[]] w fun e w' => (∃ i : Int, e = .returned (.int .i64 i) ∧ -9223372036854775808 ≤ i ∧ i ≤ 9223372036854775807 ∧ decide (0 ≤ i) = anyVar l) ∧ Below w.heap.size w w' := by
 have HT := Lib.hid hT
 have hm := hT.len
 unfold maxLen at hm
 obtain ⟨L, HL⟩ : ∃ L, Hid (L = l.length) := ⟨_, Lib.hid rfl⟩
 rw [← HL.out] at hm ⊢
 clear hT
 go_enter Tryz.func208, Tryz.ntmps208
 go_wp2_with fail
 go_loopw [8] (fun i wr => ∃ k : Nat, k ≤ L ∧ i = .int .i64 k ∧ Hid (Below w.heap.size w wr) ∧ Hid (∀ j (hj : j < l.length), j < k → ¬ l[j].kind = 0)) (fun i _ => L - (intOf i).toNat)
 case atStart => exact ⟨0, Nat.zero_le _, rfl, Lib.hid (Below.refl _ _), Lib.hid fun j _ h => absurd h (by omega)⟩
 case round =>
  obtain ⟨k, hk, rfl, HB, HN⟩ := hrel
  by_cases hlt : k < L
  ·have hkl : k < l.length := by have := HL.out; omega
   obtain ⟨b, off, A', cap', rfl, hb, c0, c1, c2, c3, hs⟩ := (HT.out.keep HB.out).get k hkl
   have HC := Lib.hid (fun W => f_unbound1 l[k] A' cap' W)
   have HK1 : Hid (¬ l[k].kind = 0 → ∀ j (hj : j < l.length), j < k + 1 → ¬ l[j].kind = 0) := Lib.hid fun h j hj hjk => by
    by_cases e : j = k
    ·subst e; exact h
    ·exact HN.out j hj (by omega)
   have HK2 := Lib.hid (anyVar_yes k hkl)
   have hk0 : (0 : Int) ≤ (k : Int) := by omega
   have hk1 : (k : Int) < (L : Int) := by omega
   clear hs HN
   unfold tmV at HC
   generalize l[k].kind = a0 at *
   generalize l[k].num = a1 at *
   generalize l[k].name = a2 at *
   generalize l[k].args.length = a3 at *
   go_wp2_with fail
   refine (HC.out _).mono ?_; rintro e w1 ⟨rfl, hB1⟩
   have HB1 := Lib.hid (HB.out.trans (hB1.mono HB.out.size))
   by_cases h0 : a0 = 0
   ·have hb0 : (a0 == 0) = true := by simp [h0]
    have hr := HK2.out h0
    rw [hb0]
    go_wp2_with fail
    go_ret
    exact ⟨⟨k, rfl, by omega, by omega, by rw [hr]; simp⟩, HB1.out⟩
   ·have hb0 : (a0 == 0) = false := by simp [h0]
    rw [hb0]
    go_wp2_with fail
    go_roundw
    case rel => exact ⟨k + 1, by omega, by go_num, HB1, Lib.hid (HK1.out h0)⟩
    case measure => simp [intOf] <;> omega
  ·have hr := anyVar_no (l := l) (fun j hj => HN.out j hj (by have := HL.out; omega))
   go_wp2_with fail
   go_ret
   exact ⟨⟨-1, rfl, by omega, by omega, by rw [hr]; rfl⟩, HB.out⟩
theorem f_containsV (l : List Tm) (A : Option Addr) (cap : Nat) (w : World) (hT : TmsAt w.heap.size w A l) : Calls Tryz.prog 193 #[.slice A l.length cap, .func (.func 194) #[] #[]] w fun e w' => e = .returned (.bool (anyVar l)) ∧ Below w.heap.size w w' := by
 have HI := Lib.hid (f_indexV l A cap w hT)
 clear hT
 generalize l.length = n at *
 go_enter Tryz.func193, Tryz.ntmps193
 go_wp2_with fail
 refine HI.out.mono ?_; rintro e w1 ⟨⟨i, rfl, h0, h1, hd⟩, hB1⟩
 go_wp2_with fail
 go_ret
 exact ⟨by rw [← hd]; rfl, hB1⟩
theorem f_unbound (l : List Tm) (A : Option Addr) (cap : Nat) (w : World) (hT : TmsAt w.heap.size w A l) : Calls Tryz.prog 152 #[.slice A l.length cap] w fun e w' => e = .returned (.bool (anyVar l)) ∧ Below w.heap.size w w' := by
 have HI := Lib.hid (f_containsV l A cap w hT)
 clear hT
 generalize l.length = n at *
 go_enter Tryz.func152, Tryz.ntmps152
 go_wp2_with fail
 refine HI.out.mono ?_; rintro e w1 ⟨rfl, hB1⟩
 go_wp2_with fail
 go_ret
 exact ⟨rfl, hB1⟩
end Go.Proofs.YtfkhcpeahdkafaaGreat
namespace Hb
open Go Go.RowKit
variable {F : Fence} {n : Nat} {P : Program}
def SeqX {α : Type} (F : Fence) (n : Nat) (P : Program) (g : Nat) (lb : Array Value) (encs : α → Array Value) (X : α → World → Prop) (Kp : World → World → Prop) (S Sp : List α → Prop) (w : World) : Prop :=
 ∀ (l : Nat) (J Jx : List α → World → Prop) (W : World), Below w.heap.size w W → AbidesFrom W.heap.size J → AbidesFrom W.heap.size Jx →
  (∀ pre x W1, J pre W1 → X x W1 → Sp (pre ++ [x]) → YieldAt F (n - 1) P l (encs x) W1 fun e W' =>
   (e = .returned (.bool true) ∧ J (pre ++ [x]) W' ∧ Kp W1 W') ∨ (e = .returned (.bool false) ∧ Jx (pre ++ [x]) W')) →
  J [] W →
  CallsIn F n P g (#[.func (.yield l) #[] #[]] ++ lb) W fun e W' => (∃ v, e = .returned v) ∧ ((∃ xs, S xs ∧ J xs W') ∨ (∃ pre, Sp pre ∧ Jx pre W'))
theorem bx_put (W : World) (l : Nat) (o : Obj) : Bx l W.heap.size W (W.putObj l o) := ⟨rfl, rfl, rfl, by simp, fun _ _ hne => World.putObj_heap_other hne⟩
theorem keeps_below {W W' : World} (h : Below W.heap.size W W') : KeepsOthers W W' := ⟨h.size, fun k _ hk _ => (h.block k (Array.getElem?_eq_some_iff.1 hk).1).trans hk⟩
structure RecAt (l D : Nat) (r : Loop) (W : World) : Prop where
 rec_ : W.heap[l]? = some (.loop r)
 dfr : W.heap[D]? = some (.deferred (some []))
theorem RecAt.keep {l D : Nat} {r : Loop} {W W' : World} (h : RecAt l D r W) (k : KeepsOthers W W') : RecAt l D r W' := ⟨k.same _ _ h.rec_ rfl, k.same _ _ h.dfr rfl⟩
theorem RecAt.put {l D : Nat} {r : Loop} {W : World} (h : RecAt l D r W) (hne : D ≠ l) (r' : Loop) : RecAt l D r' (W.putObj l (.loop r')) :=
 ⟨World.putObj_heap_same (Array.getElem?_eq_some_iff.1 h.rec_).1, (World.putObj_heap_other hne).trans h.dfr⟩
theorem RecAt.walk {l D B : Nat} {r : Loop} : AbidesFrom B (fun (_ : Unit) W => RecAt l D r W) := fun _ _ _ _ hs hg hr =>
 ⟨(grownBy_keeps hg (fun q e => (hr q e).2) hs.rec_ rfl).trans hs.rec_, (grownBy_keeps hg (fun q e => (hr q e).2) hs.dfr rfl).trans hs.dfr⟩
theorem wpIn_rangeX {α : Type} {g : Operand} {ps : Array Tmp} {assign body : Code} {Q : Exit → Act → World → Prop} {a : Act} {w : World}
  (hro : F.round = none) (h1 : 1 ≤ n) {gf : Nat} {lb : Array Value} (hg : a.eval g = .func (.func gf) #[] lb) (hFg : F.fn gf) (eg : ∀ args w, (callFunc gf args).run P w = .ok (.enter gf args) w)
  {encs : α → Array Value} {X : α → World → Prop} {Kp : World → World → Prop} {S Sp : List α → Prop} (hseq : SeqX F (n - 1) P gf lb encs X Kp S Sp w)
  (hKt : ∀ {A B C : World}, Kp A B → Kp B C → Kp A C) (hKb : ∀ (W : World) (l : Nat) (o o' : Obj), w.heap.size ≤ l → W.heap[l]? = some o → o.isCells = false → Kp W (W.putObj l o')) (hps : ∀ x, (encs x).size = ps.size)
  (I : List α → World → Prop) (Ix : Code → List α → World → Prop) (hI : OwnFrom w.heap.size I) (hIx : ∀ c, OwnFrom w.heap.size (Ix c)) (h0 : I [] w)
  (hround : ∀ (l : Nat) (pre : List α) (x : α) (W : World), w.heap.size ≤ l → l < W.heap.size → (∃ o : Obj, W.heap[l]? = some o ∧ o.isCells = false) → I pre W → X x W → Sp (pre ++ [x]) →
   assign.wpIn (F.inRound l) (n - 1 - 1) P (Exit.then (fun a' W' => KeepsOthers W W' ∧ Kp W W' ∧ ∀ W2, Bx l W'.heap.size W' W2 → body.wpIn (F.inRound l) (n - 1 - 1) P (ownPostK Kp I Ix (pre ++ [x]) W2) a' W2) (fun _ _ _ => False)) { tmps := (ps.zip (encs x)).foldl (fun t (p, v) => t.setIfInBounds p v) a.tmps, defers := [] } W)
  (hdone : ∀ (D : Nat) (xs : List α) (W : World), w.heap.size ≤ D → S xs → I xs W → W.heap[D]? = some (.deferred (some [])) → Q .normal { a with defers := { target := .collected D, args := #[] } :: a.defers } W)
  (hstop : ∀ (D : Nat) (c : Code) (pre : List α) (W : World), w.heap.size ≤ D → Sp pre → Ix c pre W → W.heap[D]? = some (.deferred (some [])) → c.wpIn F n P Q { a with defers := { target := .collected D, args := #[] } :: a.defers } W) :
  (Code.rangeFunc g ps assign body).wpIn F n P Q a w := by
 refine wpIn_rangeFunc fun fn hfn => ?_
 rw [hro]
 obtain ⟨rc, hrc⟩ : ∃ rc : LoopState → Option Code → Loop, rc = fun st pe => { state := st, pending := pe, fn, tmps := a.tmps, params := ps, assign, body, defers := w.heap.size } := ⟨_, rfl⟩
 have hB1 : Below w.heap.size w ((w.alloc (.deferred (some []))).alloc (.loop (rc .ready none))) := ((Below.refl _ _).alloc (Nat.le_refl _) _).alloc (by simp) _
 have hR1 : RecAt (w.heap.size + 1) w.heap.size (rc .ready none) ((w.alloc (.deferred (some []))).alloc (.loop (rc .ready none))) :=
  ⟨by have := World.alloc_heap_new (w.alloc (.deferred (some []))) (.loop (rc .ready none)); rwa [World.size_alloc] at this, (Below.heap_alloc _ _ _ (by simp)).trans (World.alloc_heap_new w _)⟩
 have hI1 : I [] ((w.alloc (.deferred (some []))).alloc (.loop (rc .ready none))) := hI.alloc _ (hI.alloc _ h0)
 have hW1 : ((w.alloc (.deferred (some []))).alloc (.loop (rc .ready none))).heap.size = w.heap.size + 2 := by simp
 obtain ⟨W1, hE⟩ : ∃ W1, W1 = (w.alloc (.deferred (some []))).alloc (.loop (rc .ready none)) := ⟨_, rfl⟩
 rw [← hE] at hB1 hR1 hI1 hW1
 refine ⟨w.heap.size + 1, [{ target := .collected w.heap.size, args := #[] }], W1, { target := .fn (.func gf) lb, args := #[.func (.yield (w.heap.size + 1)) #[] #[]] }, W1, gf, #[.func (.yield (w.heap.size + 1)) #[] #[]] ++ lb, W1, ?_, ?_, ?_, ?_, fun _ => h1, ?_⟩
 ·rw [hE, hrc]; exact run_enterLoop_outer _ _ _ _ _
 ·simp only [resolve, hg]
  simp [go_sem]
 ·intro f' hf'; simp [Target.leads] at hf'; subst hf'; exact hFg
 ·simp [invoke, go_sem, eg]
 clear hE
 have hne : w.heap.size ≠ w.heap.size + 1 := by omega
 have far : ∀ {A B : World} {row : Option Nat}, (∀ r, row = some r → W1.heap.size ≤ r ∧ ∃ o : Obj, A.heap[r]? = some o ∧ o.isWalk = true) → (∀ r, row = some r → w.heap.size ≤ r ∧ ∃ o : Obj, A.heap[r]? = some o ∧ o.isCells = false) :=
  fun hr r e => by obtain ⟨hB, o, ho, hw⟩ := hr r e; exact ⟨by omega, o, ho, Obj.not_cells_of_walk hw⟩
 refine (hseq (w.heap.size + 1) (fun pre W => I pre W ∧ RecAt (w.heap.size + 1) w.heap.size (rc .ready none) W) (fun pre W => ∃ c, Ix c pre W ∧ RecAt (w.heap.size + 1) w.heap.size (rc .done (some c)) W) W1 hB1
  (fun s A B row hs hg' hr => ⟨hI s A B row hs.1 hg' (far (B := B) hr), RecAt.walk () A B row hs.2 hg' hr⟩) (fun s A B row ⟨c, hc, hk⟩ hg' hr => ⟨c, hIx c s A B row hc hg' (far (B := B) hr), RecAt.walk () A B row hk hg' hr⟩) ?_ ⟨hI1, hR1⟩).mono ?_
 ·rintro pre x W ⟨hi, hR⟩ hx hlen
  have hlt : w.heap.size + 1 < W.heap.size := (Array.getElem?_eq_some_iff.1 hR.rec_).1
  have hy := run_yield (P := P) (args := encs x) hR.rec_ (by rw [hrc]; exact hps x)
  rw [hrc] at hy
  refine ⟨fn, _, assign, body, hy, roundIn_of_wpIn hfn (wpIn_mono (hround _ pre x W (by omega) hlt ⟨_, hR.rec_, rfl⟩ hi hx hlen) fun e a' W' hp => ?_)⟩
  cases e with
  | normal =>
   obtain ⟨hk, hkp, hb⟩ := hp
   have hR' := hR.keep hk
   refine ⟨_, run_beginRound hR'.rec_ (by rw [hrc]), wpIn_mono (hb _ (bx_put _ _ _)) ?_⟩
   have hR2 := hR'.put hne { rc .ready none with state := .busy }
   have hkp2 := hKt hkp (hKb W' (w.heap.size + 1) _ (.loop { rc .ready none with state := .busy }) (by omega) hR'.rec_ rfl)
   have fin : ∀ (jump : Option Code) (W3 : World), KeepsOthers (W'.putObj (w.heap.size + 1) (.loop { rc .ready none with state := .busy })) W3 →
     (Instr.endRound (w.heap.size + 1) jump).run P W3 = .ok (.bool jump.isNone) (W3.putObj (w.heap.size + 1) (.loop (rc (if jump.isNone then .ready else .done) jump))) ∧
     W3.heap[w.heap.size + 1]? = some (.loop { rc .ready none with state := .busy }) ∧ RecAt (w.heap.size + 1) w.heap.size (rc (if jump.isNone then .ready else .done) jump) (W3.putObj (w.heap.size + 1) (.loop (rc (if jump.isNone then .ready else .done) jump))) := fun jump W3 hk3 => by
    have hR3 := hR2.keep hk3
    have := run_endRound (P := P) jump hR3.rec_
    rw [hrc] at this ⊢
    exact ⟨this, by have := hR3.rec_; rw [hrc] at this; exact this, hR3.put hne _⟩
   rintro e3 a3 W3 hp3
   have out : ∀ c : Code, KeepsOthers (W'.putObj (w.heap.size + 1) (.loop { rc .ready none with state := .busy })) W3 ∧ Ix c (pre ++ [x]) W3 → ∃ v W4, (Instr.endRound (w.heap.size + 1) (some c)).run P W3 = .ok v W4 ∧
     ((Ending.returned v = .returned (.bool true) ∧ (I (pre ++ [x]) W4 ∧ RecAt (w.heap.size + 1) w.heap.size (rc .ready none) W4) ∧ Kp W W4) ∨ (Ending.returned v = .returned (.bool false) ∧ ∃ c, Ix c (pre ++ [x]) W4 ∧ RecAt (w.heap.size + 1) w.heap.size (rc .done (some c)) W4)) := fun c ⟨hk3, hi3⟩ => by
    obtain ⟨hr, hl3, hR4⟩ := fin (some c) W3 hk3
    exact ⟨_, _, hr, .inr ⟨rfl, c, (hIx c).putObj _ hi3 (by omega) hl3 rfl, hR4⟩⟩
   cases e3 with
   | normal =>
    obtain ⟨hk3, hkp3, hi3⟩ := hp3
    obtain ⟨hr, hl3, hR4⟩ := fin none W3 hk3
    exact ⟨_, _, hr, .inl ⟨rfl, ⟨hI.putObj _ hi3 (by omega) hl3 rfl, hR4⟩, hKt (hKt hkp2 hkp3) (hKb _ _ _ _ (by omega) hl3 rfl)⟩⟩
   | ret => exact out .ret hp3
   | exit id => exact out (.exit id) hp3
   | goto t => exact out (.goto t) hp3
   | panic ch => exact hp3.elim
   | outgrown => exact hp3.elim
  | ret => exact hp.elim
  | exit id => exact hp.elim
  | goto t => exact hp.elim
  | panic ch => exact hp.elim
  | outgrown => exact hp.elim
 ·rintro e W2 ⟨⟨v, rfl⟩, (⟨xs, hS, hi, hR⟩ | ⟨pre, hSp, c, hi, hR⟩)⟩
  ·have := run_endLoop (P := P) hR.rec_ (by rw [hrc]; simp)
   rw [hrc] at this
   exact ⟨none, _, this, hdone _ xs _ (Nat.le_refl _) hS (hI.putObj _ hi (by omega) hR.rec_ rfl) ((World.putObj_heap_other hne).trans hR.dfr)⟩
  ·have := run_endLoop (P := P) hR.rec_ (by rw [hrc]; simp)
   rw [hrc] at this
   exact ⟨some c, _, this, hstop _ c pre _ (Nat.le_refl _) hSp ((hIx c).putObj _ hi (by omega) hR.rec_ rfl) ((World.putObj_heap_other hne).trans hR.dfr)⟩
end Hb
namespace Hb
open Go Go.RowKit
def Bk (X : World) (g : Nat) (vs : List Value) : Prop := ∃ e, X.heap[g]? = some (.cells vs.toArray e)
theorem Bk.lt {X : World} {g : Nat} {vs : List Value} (h : Bk X g vs) : g < X.heap.size := by
 obtain ⟨e, h⟩ := h
 exact (Array.getElem?_eq_some_iff.1 h).1
theorem Bk.c {X : World} {g : Nat} {vs : List Value} (h : Bk X g vs) (j : Nat) (v : Value) (hv : vs[j]? = some v) : X.cell? ⟨g, j, none⟩ = some v := by
 obtain ⟨e, h⟩ := h
 simp [World.cell?, h, hv]
theorem Bk.f {X : World} {g : Nat} {vs : List Value} (h : Bk X g vs) (o : Nat) : X.frozen? ⟨g, o, none⟩ = false := by
 obtain ⟨e, h⟩ := h
 unfold World.frozen?
 rw [h]
 simp
theorem Bk.call {X X' : World} {g : Nat} {vs : List Value} (h : Bk X g vs) (hB : Below X.heap.size X X') : Bk X' g vs := by
 have hl := h.lt
 obtain ⟨e, h⟩ := h
 exact ⟨e, (hB.block g hl).trans h⟩
theorem Bk.al {X : World} {g : Nat} {vs : List Value} (h : Bk X g vs) (o : Obj) : Bk (X.alloc o) g vs := h.call ((Below.refl _ _).alloc (Nat.le_refl _) o)
theorem Bk.dr {X : World} {g : Nat} {vs : List Value} (h : Bk X g vs) : Bk X.drew g vs := h.call (Below.refl _ _).drew
theorem Bk.new (X : World) (vs : List Value) (e : TypeId) : Bk (X.alloc (.cells vs.toArray e)) X.heap.size vs := ⟨e, World.alloc_heap_new X _⟩
theorem Bk.other {X : World} {g : Nat} {vs : List Value} (h : Bk X g vs) {g' : Nat} (hne : g ≠ g') (j : Nat) (v : Value) : Bk (X.setCell ⟨g', j, none⟩ v) g vs := by
 obtain ⟨e, h⟩ := h
 exact ⟨e, (heap_setCell_other X ⟨g', j, none⟩ g v hne).trans h⟩
theorem Bk.set {X : World} {g : Nat} {vs : List Value} (h : Bk X g vs) (j : Nat) (v : Value) : Bk (X.setCell ⟨g, j, none⟩ v) g (vs.set j v) := by
 obtain ⟨e, h⟩ := h
 refine ⟨e, ?_⟩
 have hl := (Array.getElem?_eq_some_iff.1 h).1
 simp only [World.setCell, Array.getElem?_modify, h]
 simp
theorem Bk.keeps {X X' : World} {g : Nat} {vs : List Value} (h : Bk X g vs) (hk : X'.heap[g]? = X.heap[g]?) : Bk X' g vs := by
 obtain ⟨e, h⟩ := h
 exact ⟨e, hk.trans h⟩
theorem Bk.grown {X Y : World} {g : Nat} {vs : List Value} {row : Option Nat} (h : Bk X g vs) (hg : X.grownBy Y row) (hr : ∀ r, row = some r → ∃ o : Obj, X.heap[r]? = some o ∧ o.isCells = false) : Bk Y g vs := by
 obtain ⟨e, he⟩ := h
 refine ⟨e, (hg.block g (Array.getElem?_eq_some_iff.1 he).1 (fun e' => ?_)).trans he⟩
 obtain ⟨o, ho, hc⟩ := hr g e'.symm
 rw [he] at ho; injection ho with ho; subst ho; cases hc
structure Bks (X : World) (l : List (Nat × List Value)) : Prop where
 bk : ∀ x ∈ l, Bk X x.1 x.2
 ord : (l.map (·.1)).Pairwise (· > ·)
theorem Bks.nil (X : World) : Bks X [] := ⟨fun x hx => (by cases hx), List.Pairwise.nil⟩
theorem Bks.at {X : World} {l : List (Nat × List Value)} (h : Bks X l) (j g : Nat) (vs : List Value) (hx : l[j]? = some (g, vs)) : Bk X g vs := h.bk (g, vs) (List.mem_of_getElem? hx)
theorem Bks.cell {X : World} {l : List (Nat × List Value)} (h : Bks X l) (j i : Nat) {g : Nat} {vs : List Value} {v : Value} (hx : l[j]? = some (g, vs)) (hv : vs[i]? = some v) : X.cell? ⟨g, i, none⟩ = some v := (h.at j g vs hx).c i v hv
theorem Bks.fz {X : World} {l : List (Nat × List Value)} (h : Bks X l) (j i : Nat) {g : Nat} {vs : List Value} (hx : l[j]? = some (g, vs)) : X.frozen? ⟨g, i, none⟩ = false := (h.at j g vs hx).f i
theorem Bks.lt {X : World} {l : List (Nat × List Value)} (h : Bks X l) (j : Nat) {g : Nat} {vs : List Value} (hx : l[j]? = some (g, vs)) : g < X.heap.size := (h.at j g vs hx).lt
theorem Bks.keep {X X' : World} {l : List (Nat × List Value)} (h : Bks X l) (hk : ∀ x ∈ l, X'.heap[x.1]? = X.heap[x.1]?) : Bks X' l := ⟨fun x hx => (h.bk x hx).keeps (hk x hx), h.ord⟩
theorem Bks.call {X X' : World} {l : List (Nat × List Value)} (h : Bks X l) (hB : Below X.heap.size X X') : Bks X' l := ⟨fun x hx => (h.bk x hx).call hB, h.ord⟩
theorem Bks.al {X : World} {l : List (Nat × List Value)} (h : Bks X l) (o : Obj) : Bks (X.alloc o) l := h.call ((Below.refl _ _).alloc (Nat.le_refl _) o)
theorem Bks.dr {X : World} {l : List (Nat × List Value)} (h : Bks X l) : Bks X.drew l := h.call (Below.refl _ _).drew
theorem Bks.new {X : World} {l : List (Nat × List Value)} (h : Bks X l) (vs : List Value) (e : TypeId) {g : Nat} (hg : X.heap.size = g) : Bks (X.alloc (.cells vs.toArray e)) ((g, vs) :: l) := by
 subst hg
 refine ⟨fun x hx => ?_, ?_⟩
 ·rcases List.mem_cons.1 hx with rfl | hx
  ·exact Bk.new X vs e
  ·exact (h.bk x hx).al _
 ·rw [List.map_cons, List.pairwise_cons]
  refine ⟨fun g hg => ?_, h.ord⟩
  obtain ⟨x, hx, rfl⟩ := List.mem_map.1 hg
  exact (h.bk x hx).lt
theorem Bks.set {X : World} {l : List (Nat × List Value)} (h : Bks X l) (j i : Nat) {g : Nat} {vs : List Value} (hx : l[j]? = some (g, vs)) (v : Value) : Bks (X.setCell ⟨g, i, none⟩ v) (l.set j (g, vs.set i v)) := by
 have hm : (l.set j (g, vs.set i v)).map (·.1) = l.map (·.1) := by
  rw [List.map_set]
  refine List.ext_getElem? fun k => ?_
  rw [List.getElem?_set]
  split
  ·rename_i e
   subst e
   split
   ·rw [List.getElem?_map, hx]; rfl
   ·rename_i hn
    rw [List.getElem?_eq_none (by simpa using hn)]
  ·rfl
 refine ⟨fun x hx2 => ?_, by rw [hm]; exact h.ord⟩
 obtain ⟨k, hk⟩ := List.mem_iff_getElem?.1 hx2
 rw [List.getElem?_set] at hk
 split at hk
 ·split at hk
  ·injection hk with hk; subst hk
   exact (h.at j g vs hx).set i v
  ·cases hk
 ·rename_i hne
  have hkx := h.bk x (List.mem_of_getElem? hk)
  refine hkx.other (fun e => ?_) i v
  have h1 : (l.map (·.1))[k]? = some x.1 := by rw [List.getElem?_map, hk]; rfl
  have h2 : (l.map (·.1))[j]? = some g := by rw [List.getElem?_map, hx]; rfl
  obtain ⟨k1, e1⟩ := List.getElem?_eq_some_iff.1 h1
  obtain ⟨k2, e2⟩ := List.getElem?_eq_some_iff.1 h2
  have hp := List.pairwise_iff_getElem.1 h.ord
  rcases Nat.lt_or_gt_of_ne (fun e => hne e : j ≠ k) with hlt | hlt
  ·have := hp j k k2 k1 hlt
   rw [e1, e2] at this; omega
  ·have := hp k j k1 k2 hlt
   rw [e1, e2] at this; omega
theorem Bks.set4 {X : World} {l : List (Nat × List Value)} (h : Bks X l) (j : Nat) {g : Nat} {u0 u1 u2 u3 : Value} (hx : l[j]? = some (g, [u0, u1, u2, u3])) (v0 v1 v2 v3 : Value) :
  Bks ((((X.setCell ⟨g, 0, none⟩ v0).setCell ⟨g, 1, none⟩ v1).setCell ⟨g, 2, none⟩ v2).setCell ⟨g, 3, none⟩ v3) (l.set j (g, [v0, v1, v2, v3])) := by
 have hj : j < l.length := (List.getElem?_eq_some_iff.1 hx).1
 have h1 := h.set j 0 hx v0
 have h2 := h1.set j 1 (g := g) (vs := [v0, u1, u2, u3]) (by rw [List.getElem?_set]; simp [hj]) v1
 have h3 := h2.set j 2 (g := g) (vs := [v0, v1, u2, u3]) (by rw [List.getElem?_set]; simp [hj]) v2
 have h4 := h3.set j 3 (g := g) (vs := [v0, v1, v2, u3]) (by rw [List.getElem?_set]; simp [hj]) v3
 simpa using h4
theorem Bks.bx {X X' : World} {l : List (Nat × List Value)} {q n : Nat} (h : Bks X l) (hb : Bx q n X X') (hq : ∀ x ∈ l, x.1 ≠ q) (hn : ∀ x ∈ l, x.1 < n) : Bks X' l := h.keep fun x hx => hb.block x.1 (hn x hx) (hq x hx)
theorem Bks.putObj {X : World} {l : List (Nat × List Value)} (h : Bks X l) {q : Nat} (o : Obj) (hq : ∀ x ∈ l, x.1 ≠ q) : Bks (X.putObj q o) l := h.keep fun x hx => World.putObj_heap_other (hq x hx)
theorem Bks.own {β : Type} (B : Nat) (l : β → List (Nat × List Value)) : OwnFrom B (fun s W => Bks W (l s)) := fun s X Y row hs hg hr => hs.keep fun x hx => by
 obtain ⟨e, he⟩ := hs.bk x hx
 exact hg.block x.1 (hs.bk x hx).lt (fun e' => by
  obtain ⟨_, o, ho, hc⟩ := hr x.1 e'.symm
  rw [he] at ho; injection ho with ho; subst ho; cases hc)
theorem Bks.tl {X : World} {x : Nat × List Value} {l : List (Nat × List Value)} (h : Bks X (x :: l)) : Bks X l := ⟨fun y hy => h.bk y (List.mem_cons_of_mem _ hy), by have := h.ord; rw [List.map_cons, List.pairwise_cons] at this; exact this.2⟩
theorem Bks.tk {X : World} {l : List (Nat × List Value)} (h : Bks X l) (n : Nat) : Bks X (l.take n) := ⟨fun y hy => h.bk y (List.mem_of_mem_take hy), by rw [List.map_take]; exact h.ord.sublist (List.take_sublist _ _)⟩
theorem Bx.under {l B : Nat} {X X' : World} (h : Bx l X.heap.size X X') (hB : B ≤ l) (hs : B ≤ X.heap.size) : Below B X X' := ⟨h.os, h.tape, h.output, h.size, fun k hk => h.block k (by omega) (by omega)⟩
theorem below_putO {B : Nat} {a X : World} (h : Below B a X) {D : Nat} (hD : B ≤ D) (o : Obj) : Below B a (X.putObj D o) := ⟨h.os, h.tape, h.output, by simpa using h.size, fun k hk => (World.putObj_heap_other (by omega)).trans (h.block k hk)⟩
theorem set_fst {l : List (Nat × List Value)} {j g : Nat} {vs : List Value} (vs' : List Value) (hx : l[j]? = some (g, vs)) : ∀ x ∈ l.set j (g, vs'), ∃ y ∈ l, y.1 = x.1 := fun x hx2 => by
 rcases List.mem_or_eq_of_mem_set hx2 with h | h
 ·exact ⟨x, h, rfl⟩
 ·exact ⟨_, List.mem_of_getElem? hx, by rw [h]⟩
theorem TmsK.rows {K : Nat → Prop} {w : World} {rs : List TR} {e : TypeId} (hK : K w.heap.size) (hlen : rs.length ≤ maxLen) (h : ∀ x ∈ rs, TmsK K (w.alloc (.cells (rowsC rs).toArray e)) x.2.1 x.1.args) :
  TmsK K (w.alloc (.cells (rowsC rs).toArray e)) (some ⟨w.heap.size, 0, none⟩) (rs.map (·.1)) := by
 have hget : ∀ (rs : List TR) (j : Nat) (hj : j < rs.length) (i : Nat), i < 4 → (rowsC rs)[j * 4 + i]? = (rowC rs[j])[i]? := by
  intro rs
  induction rs with
  | nil => intro j hj; cases hj
  | cons x rs ih =>
   intro j hj i hi
   have hx : rowsC (x :: rs) = rowC x ++ rowsC rs := rfl
   have hl : (rowC x).length = 4 := rfl
   rw [hx]
   cases j with
   | zero => rw [List.getElem?_append_left (by omega)]; simp
   | succ j =>
    rw [List.getElem?_append_right (by omega), hl, show (j + 1) * 4 + i - 4 = j * 4 + i by omega, ih j (by simpa using hj) i hi]
    rfl
 refine .mk _ _ (fun j => (rs[j]?.map (·.2.1)).getD none) (fun j => (rs[j]?.map (·.2.2)).getD 0) (by simpa using hlen) (fun j hj => ?_) (fun j hj => ?_)
 ·have hj' : j < rs.length := by simpa using hj
  have hc : ∀ i u, i < 4 → (rowC rs[j])[i]? = some u → (w.alloc (.cells (rowsC rs).toArray e)).cell? ⟨w.heap.size, 0 + j * 4 + i, none⟩ = some u := fun i u hi hu => by
   rw [World.cell?_alloc_new, Nat.zero_add]
   simp [hget rs j hj' i hi, hu]
  refine ⟨w.heap.size, 0, rfl, hK, ?_, ?_, ?_, ?_⟩
  ·have := hc 0 _ (by omega) rfl
   simpa using this
  ·have := hc 1 _ (by omega) rfl
   simpa using this
  ·have := hc 2 _ (by omega) rfl
   simpa using this
  ·have := hc 3 _ (by omega) rfl
   simpa [List.getElem?_eq_getElem hj'] using this
 ·have hj' : j < rs.length := by simpa using hj
  have := h rs[j] (List.getElem_mem hj')
  simpa [List.getElem?_eq_getElem hj'] using this
end Hb
namespace Hb
open Go Go.RowKit
def doneA (n : Nat) (S : Nat → Bool) : Array Bool := Array.ofFn fun i : Fin n => S i
theorem doneA_get (n : Nat) (S : Nat → Bool) (j : Nat) (d : Bool) (hj : j < n) : (doneA n S).getD j d = S j := by
 unfold doneA
 simp [Array.getD, hj]
theorem doneA_set (n : Nat) (S : Nat → Bool) (j : Nat) : (doneA n S).setIfInBounds j true = doneA n (updF S j) := by
 apply Array.ext
 ·simp [doneA]
 ·intro i h1 h2
  have hi : i < n := by simpa [doneA] using h2
  rw [Array.getElem_setIfInBounds (by simpa [doneA] using hi)]
  have h2' : (doneA n (updF S j))[i] = updF S j i := Array.getElem_ofFn ..
  have h1' : (doneA n S)[i]'(by simpa [doneA] using hi) = S i := Array.getElem_ofFn ..
  rw [h2', h1']
  split
  ·rename_i e; subst e; exact (updF_same S j).symm
  ·rename_i e; exact (updF_other S (fun h => e h.symm)).symm
theorem doneA_zero (n : Nat) : doneA n (fun _ => false) = Array.replicate n false := by
 apply Array.ext
 ·simp [doneA]
 ·intro i h1 h2; simp [doneA]
def ordOk (md : Region.Mode) (ops : Array Oper) : Bool := (List.range ops.size).all fun j => (ops[j]?).all fun o => o.after.all fun e => !Region.binds md e || decide (e.on < j)
theorem ordOk_at {md : Region.Mode} {ops : Array Oper} (h : ordOk md ops = true) {j : Nat} {o : Oper} (ho : ops[j]? = some o) {e : Edge} (he : e ∈ o.after) (hb : Region.binds md e = true) : e.on < j := by
 unfold ordOk at h
 rw [List.all_eq_true] at h
 have h1 := h j (List.mem_range.2 (Array.getElem?_eq_some_iff.1 ho).1)
 rw [ho] at h1
 simp only [Option.all_some] at h1
 have h2 := Array.all_eq_true_iff_forall_mem.1 h1 e he
 rw [hb] at h2
 simpa using h2
theorem wpAny_inv {P : Program} {ops : Array Oper} {Q : Exit → Act → World → Prop} {md : Region.Mode} (I : (Nat → Bool) → Act → World → Prop) (hord : ordOk md ops = true)
  (hstep : ∀ S j o a w, ops[j]? = some o → S j = false → (∀ e ∈ o.after, Region.binds md e = true → S e.on = true) → I S a w → if Region.wanted o (yielded ops a.tmps) then o.wp P a w (I (updF S j)) Q else I (updF S j) (a.put o.dst undef) w)
  (hend : ∀ S a w, (∀ j, j < ops.size → S j = true) → I S a w → Q .normal a w) : ∀ (m : Nat) (S : Nat → Bool) (a : Act) (w : World), cntF ops.size S ≤ m → I S a w → wpAny P md ops Q m (doneA ops.size S) a w := by
 have hnone : ∀ S, Region.ready md ops (doneA ops.size S) = [] → ∀ j, j < ops.size → S j = true := fun S hr j => by
  induction j using Nat.strongRecOn with
  | ind j ih =>
   intro hj
   cases hs : S j with
   | true => rfl
   | false =>
    have : j ∈ Region.ready md ops (doneA ops.size S) := mem_ready.2 ⟨by rw [doneA_get _ _ _ _ hj]; exact hs, _, Array.getElem?_eq_getElem hj, fun e he hb => by
     have hl := ordOk_at hord (Array.getElem?_eq_getElem hj) he hb
     rw [doneA_get _ _ _ _ (by omega)]
     exact ih e.on hl (by omega)⟩
    rw [hr] at this
    cases this
 intro m
 induction m with
 | zero =>
  intro S a w hc hI
  have hall := cntF_zero ops.size S (by omega)
  refine ⟨?_, hend S a w hall hI⟩
  refine List.eq_nil_iff_forall_not_mem.2 fun i hi => ?_
  obtain ⟨h1, o, ho, _⟩ := mem_ready.1 hi
  have hlt := (Array.getElem?_eq_some_iff.1 ho).1
  rw [doneA_get _ _ _ _ hlt, hall i hlt] at h1
  cases h1
 | succ m ih =>
  intro S a w hc hI
  refine ⟨fun hr => hend S a w (hnone S hr) hI, fun i hi => ?_⟩
  obtain ⟨h1, o, ho, hp⟩ := mem_ready.1 hi
  have hlt := (Array.getElem?_eq_some_iff.1 ho).1
  rw [doneA_get _ _ _ _ hlt] at h1
  have hstep' := hstep S i o a w ho h1 (fun e he hb => by
   have := hp e he hb
   have hl := ordOk_at hord ho he hb
   rw [doneA_get _ _ _ _ (by omega)] at this
   exact this) hI
  have hcu := cntF_upd ops.size S i hlt h1
  have next : ∀ a' w', I (updF S i) a' w' → wpAny P md ops Q m ((doneA ops.size S).setIfInBounds i true) a' w' := fun a' w' h => by
   rw [doneA_set]
   exact ih (updF S i) a' w' (by omega) h
  unfold wpOp
  rw [ho]
  dsimp only
  split
  ·rename_i hw
   rw [if_pos hw] at hstep'
   exact .inl (Oper.wp_mono next hstep')
  ·rename_i hw
   rw [if_neg hw] at hstep'
   exact next _ _ hstep'
end Hb
