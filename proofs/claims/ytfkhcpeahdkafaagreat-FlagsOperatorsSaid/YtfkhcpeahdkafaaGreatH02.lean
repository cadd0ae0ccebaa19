/- Terms: what they are, in plain words; a term in memory. Terms: the reference's Count, Size, node, nodes and Valid. Terms: Size, fits and Valid. Terms: fits and Valid. -/
import Derived.Test.YtfkhcpeahdkafaaGreatH01
import Derived.Test.YtfkhcpeahdkafaaGreatProg
import Derived.RegionTactic
import Derived.Deep.RegionWith
import Derived.Laws.EntriesVeiled
import Derived.Deep.CutBlock
namespace Hb
open Go Go.RowKit
inductive Tm where
 | mk (kind num : Int) (name : ByteArray) (args : List Tm)
def Tm.kind : Tm → Int | .mk k _ _ _ => k
def Tm.num : Tm → Int | .mk _ n _ _ => n
def Tm.name : Tm → ByteArray | .mk _ _ s _ => s
def Tm.args : Tm → List Tm | .mk _ _ _ l => l
theorem Tm.ind {P : Tm → Prop} (h : ∀ t : Tm, (∀ a ∈ t.args, P a) → P t) : ∀ t, P t :=
 Tm.rec (motive_1 := P) (motive_2 := fun l => ∀ a ∈ l, P a) (fun k n s l ih => h (.mk k n s l) ih) (fun a ha => by cases ha) (fun a l h1 h2 b hb => by
  rcases List.mem_cons.1 hb with rfl | hb
  ·exact h1
  ·exact h2 b hb)
inductive TmsK (K : Nat → Prop) (w : World) : Option Addr → List Tm → Prop
 | mk (A : Option Addr) (l : List Tm) (F : Nat → Option Addr) (C : Nat → Nat) (hl : l.length ≤ maxLen)
  (hc : ∀ j (hj : j < l.length), ∃ b off, A = some ⟨b, off, none⟩ ∧ K b ∧ w.cell? ⟨b, off + j * 4, none⟩ = some (.int .i64 l[j].kind) ∧ w.cell? ⟨b, off + j * 4 + 1, none⟩ = some (.int .i64 l[j].num) ∧ w.cell? ⟨b, off + j * 4 + 2, none⟩ = some (.string l[j].name) ∧ w.cell? ⟨b, off + j * 4 + 3, none⟩ = some (.slice (F j) l[j].args.length (C j)))
  (hs : ∀ j (hj : j < l.length), TmsK K w (F j) l[j].args) : TmsK K w A l
theorem TmsK.len {K : Nat → Prop} {w : World} {A : Option Addr} {l : List Tm} (h : TmsK K w A l) : l.length ≤ maxLen := by cases h; assumption
theorem TmsK.get {K : Nat → Prop} {w : World} {A : Option Addr} {l : List Tm} (h : TmsK K w A l) (j : Nat) (hj : j < l.length) :
  ∃ b off A' cap', A = some ⟨b, off, none⟩ ∧ K b ∧ w.cell? ⟨b, off + j * 4, none⟩ = some (.int .i64 l[j].kind) ∧ w.cell? ⟨b, off + j * 4 + 1, none⟩ = some (.int .i64 l[j].num) ∧ w.cell? ⟨b, off + j * 4 + 2, none⟩ = some (.string l[j].name) ∧ w.cell? ⟨b, off + j * 4 + 3, none⟩ = some (.slice A' l[j].args.length cap') ∧ TmsK K w A' l[j].args := by
 cases h with
 | mk A l F C hl hc hs =>
  obtain ⟨b, off, e, hb, c0, c1, c2, c3⟩ := hc j hj
  exact ⟨b, off, F j, C j, e, hb, c0, c1, c2, c3, hs j hj⟩
theorem TmsK.keep {K K' : Nat → Prop} {w w' : World} {A : Option Addr} {l : List Tm} (h : TmsK K w A l) (hB : ∀ b, K b → w'.heap[b]? = w.heap[b]?) (hK : ∀ b, K b → K' b) : TmsK K' w' A l := by
 induction h with
 | mk A l F C hl hc _ ih =>
  refine .mk A l F C hl (fun j hj => ?_) ih
  obtain ⟨b, off, e, hb, c0, c1, c2, c3⟩ := hc j hj
  have hw : ∀ o, w'.cell? ⟨b, o, none⟩ = w.cell? ⟨b, o, none⟩ := fun o => World.cell?_of_block (hB b hb)
  exact ⟨b, off, e, hK b hb, (hw _).trans c0, (hw _).trans c1, (hw _).trans c2, (hw _).trans c3⟩
theorem TmsK.nil {K : Nat → Prop} {w : World} {A : Option Addr} : TmsK K w A [] := .mk A [] (fun _ => .none) (fun _ => 0) (by decide) (fun j hj => absurd hj (by simp)) (fun j hj => absurd hj (by simp))
def TmsAt (B : Nat) (w : World) (A : Option Addr) (l : List Tm) : Prop := TmsK (fun b => b < B) w A l
theorem TmsAt.len {B : Nat} {w : World} {A : Option Addr} {l : List Tm} (h : TmsAt B w A l) : l.length ≤ maxLen := TmsK.len h
theorem TmsAt.get {B : Nat} {w : World} {A : Option Addr} {l : List Tm} (h : TmsAt B w A l) (j : Nat) (hj : j < l.length) :
  ∃ b off A' cap', A = some ⟨b, off, none⟩ ∧ b < B ∧ w.cell? ⟨b, off + j * 4, none⟩ = some (.int .i64 l[j].kind) ∧ w.cell? ⟨b, off + j * 4 + 1, none⟩ = some (.int .i64 l[j].num) ∧ w.cell? ⟨b, off + j * 4 + 2, none⟩ = some (.string l[j].name) ∧ w.cell? ⟨b, off + j * 4 + 3, none⟩ = some (.slice A' l[j].args.length cap') ∧ TmsAt B w A' l[j].args := TmsK.get h j hj
theorem TmsAt.keep {B : Nat} {w w' : World} {A : Option Addr} {l : List Tm} (h : TmsAt B w A l) (hB : Below B w w') : TmsAt B w' A l := TmsK.keep h (fun b hb => hB.block b hb) (fun _ h => h)
theorem TmsAt.mono {B B' : Nat} {w : World} {A : Option Addr} {l : List Tm} (h : TmsAt B w A l) (hB : B ≤ B') : TmsAt B' w A l := TmsK.keep h (fun _ _ => rfl) (fun _ h => Nat.lt_of_lt_of_le h hB)
theorem TmsK.at {K : Nat → Prop} {w : World} {A : Option Addr} {l : List Tm} (h : TmsK K w A l) (hK : ∀ b, K b → b < w.heap.size) : TmsAt w.heap.size w A l := TmsK.keep h (fun _ _ => rfl) hK
def tmV (t : Tm) (A : Option Addr) (cap : Nat) : Value := .agg #[.int .i64 t.kind, .int .i64 t.num, .string t.name, .slice A t.args.length cap]
def Tm.nodes : Tm → Nat
 | .mk _ _ _ l => 1 + (l.attach.map fun ⟨a, _⟩ => a.nodes).sum
theorem Tm.nodes_eq (t : Tm) : t.nodes = 1 + (t.args.map Tm.nodes).sum := by
 cases t with
 | mk k n s l => unfold Tm.nodes Tm.args; simp
theorem Tm.nodes_pos (t : Tm) : 1 ≤ t.nodes := by rw [Tm.nodes_eq]; omega
def nodeOk (t : Tm) : Bool :=
 if t.kind = 0 then decide (0 ≤ t.num) && decide (t.num ≤ 1099511627776) && t.name.toList == [] && t.args.length == 0
 else if t.kind = 1 then t.name.toList == [] && t.args.length == 0
 else if t.kind = 2 then t.num == 0 && decide (t.name.size ≤ 100) && t.args.length == 0
 else if t.kind = 3 then t.num == 0 && decide (t.name.size ≤ 100) && decide (0 < t.args.length) && decide (t.args.length ≤ 8)
 else false
def Tm.allOk : Tm → Bool
 | .mk k n s l => nodeOk (.mk k n s l) && l.attach.all fun ⟨a, _⟩ => a.allOk
theorem Tm.allOk_eq (t : Tm) : t.allOk = (nodeOk t && t.args.all Tm.allOk) := by
 cases t with
 | mk k n s l => 
  have h : l.attach.all (fun x => x.1.allOk) = (l.attach.map Subtype.val).all Tm.allOk := by rw [List.all_map]; rfl
  rw [List.attach_map_subtype_val] at h
  unfold Tm.allOk
  show (_ && l.attach.all fun x => x.1.allOk) = (nodeOk _ && l.all Tm.allOk)
  rw [h]
def validT (t : Tm) : Bool := decide (t.nodes ≤ 2000) && t.allOk
structure Only (g : Nat) (w w' : World) : Prop where
 os : w'.os = w.os
 tape : w'.tape = w.tape
 output : w'.output = w.output
 size : w.heap.size ≤ w'.heap.size
 block : ∀ k, k < w.heap.size → k ≠ g → w'.heap[k]? = w.heap[k]?
theorem Only.refl (g : Nat) (w : World) : Only g w w := ⟨rfl, rfl, rfl, Nat.le_refl _, fun _ _ _ => rfl⟩
theorem Only.trans {g : Nat} {a b c : World} (h : Only g a b) (k : Only g b c) : Only g a c :=
 ⟨k.os.trans h.os, k.tape.trans h.tape, k.output.trans h.output, Nat.le_trans h.size k.size, fun i hi hg => (k.block i (Nat.lt_of_lt_of_le hi h.size) hg).trans (h.block i hi hg)⟩
theorem Only.of {g : Nat} {a b : World} (h : Below a.heap.size a b) : Only g a b := ⟨h.os, h.tape, h.output, h.size, fun k hk _ => h.block k hk⟩
theorem Only.below {g B : Nat} {a b : World} (h : Only g a b) (hB : B ≤ g) (hs : B ≤ a.heap.size) : Below B a b := ⟨h.os, h.tape, h.output, h.size, fun k hk => h.block k (by omega) (by omega)⟩
theorem Only.cell {g : Nat} {a b : World} (h : Only g a b) {p : Addr} (hp : p.block < a.heap.size) (hg : p.block ≠ g) : b.cell? p = a.cell? p := World.cell?_of_block (h.block _ hp hg)
theorem Only.frozen {g : Nat} {a b : World} (h : Only g a b) {p : Addr} (hp : p.block < a.heap.size) (hg : p.block ≠ g) : b.frozen? p = a.frozen? p := World.frozen?_of_block (h.block _ hp hg)
theorem Only.set (g o : Nat) (w : World) (v : Value) : Only g w (w.setCell ⟨g, o, none⟩ v) := ⟨rfl, rfl, rfl, by simp, fun k _ hk => heap_setCell_other w ⟨g, o, none⟩ k v (fun e => hk (by simp [e]))⟩
theorem Only.alloc (g : Nat) (w : World) (o : Obj) : Only g w (w.alloc o) := .of ((Below.refl _ _).alloc (Nat.le_refl _) o)
end Hb
namespace Hb
open Go Go.RowKit
def sumN (l : List Tm) (k : Nat) : Nat := ((l.take k).map Tm.nodes).sum
theorem sumN_zero (l : List Tm) : sumN l 0 = 0 := rfl
theorem sumN_succ (l : List Tm) (k : Nat) (hk : k < l.length) : sumN l (k + 1) = sumN l k + l[k].nodes := by
 unfold sumN
 rw [List.take_succ_eq_append_getElem hk, List.map_append, List.sum_append]
 simp
theorem sumN_le (l : List Tm) : ∀ d k, sumN l k ≤ sumN l (k + d) := by
 intro d
 induction d with
 | zero => intro k; exact Nat.le_refl _
 | succ d ih =>
  intro k
  refine Nat.le_trans (ih k) ?_
  rcases Nat.lt_or_ge (k + d) l.length with h | h
  ·rw [show k + (d + 1) = (k + d) + 1 by omega, sumN_succ l (k + d) h]; omega
  ·unfold sumN
   rw [List.take_of_length_le h, List.take_of_length_le (by omega)]
   exact Nat.le_refl _
theorem sumN_all (t : Tm) : t.nodes = 1 + sumN t.args t.args.length := by
 rw [Tm.nodes_eq]; unfold sumN; rw [List.take_length]
structure TBoxT (w0 w : World) (t : Tm) (A : Option Addr) (cap : Nat) : Prop where
 bel : Below w0.heap.size w0 w
 lt : w0.heap.size < w.heap.size
 c0 : w.cell? ⟨w0.heap.size, 0, none⟩ = some (.int .i64 t.kind)
 c1 : w.cell? ⟨w0.heap.size, 1, none⟩ = some (.int .i64 t.num)
 c2 : w.cell? ⟨w0.heap.size, 2, none⟩ = some (.string t.name)
 c3 : w.cell? ⟨w0.heap.size, 3, none⟩ = some (.slice A t.args.length cap)
theorem TBoxT.call {w0 w w' : World} {t : Tm} {A : Option Addr} {cap : Nat} (h : TBoxT w0 w t A cap) (hB : Below w.heap.size w w') : TBoxT w0 w' t A cap where
 bel := h.bel.trans (hB.mono (Nat.le_of_lt h.lt))
 lt := Nat.lt_of_lt_of_le h.lt hB.size
 c0 := (hB.cell (p := ⟨_, _, none⟩) h.lt).trans h.c0
 c1 := (hB.cell (p := ⟨_, _, none⟩) h.lt).trans h.c1
 c2 := (hB.cell (p := ⟨_, _, none⟩) h.lt).trans h.c2
 c3 := (hB.cell (p := ⟨_, _, none⟩) h.lt).trans h.c3
theorem TBoxT.start (w : World) (t : Tm) (A : Option Addr) (cap : Nat) (e : TypeId) : TBoxT w (w.alloc (.cells #[.int .i64 t.kind, .int .i64 t.num, .string t.name, .slice A t.args.length cap] e)) t A cap where
 bel := (Below.refl _ _).alloc (Nat.le_refl _) _
 lt := by simp
 c0 := World.cell?_alloc_new _ _ _ 0
 c1 := World.cell?_alloc_new _ _ _ 1
 c2 := World.cell?_alloc_new _ _ _ 2
 c3 := World.cell?_alloc_new _ _ _ 3
end Hb
namespace Go.Proofs.YtfkhcpeahdkafaaGreat
open Go.RowKit Hb
set_option maxRecDepth 100000
set_option maxHeartbeats 3200000 in
theorem ref_count : ∀ (t : Tm) (A : Option Addr) (cap most : Nat) (w : World), TmsAt w.heap.size w A t.args → 1 ≤ most → most ≤ 2001 →
  Calls Tryz.prog 135 #[tmV t A cap, .int .i64 most] w fun e w' => e = .returned (.int .i64 (min t.nodes most : Nat)) ∧ Below w.heap.size w w' := by
 refine Tm.ind fun t ih => ?_
 intro A cap most w hT h1 h2
 have HX := Lib.hid (TBoxT.start w t A cap 26)
 have HT := Lib.hid hT
 have hm := hT.len
 unfold maxLen at hm
 have HALL := Lib.hid (sumN_all t)
 have HIH := Lib.hid ih
 clear hT ih
 obtain ⟨L, HL⟩ : ∃ L, Hid (L = t.args.length) := ⟨_, Lib.hid rfl⟩
 unfold tmV
 rw [← HL.out] at hm ⊢
 go_enter Tryz.func135, Tryz.ntmps135
 go_wp2_with fail
 go_loopw [5, 6] (fun c i wr => ∃ k n : Nat, k ≤ L ∧ c = .int .i64 n ∧ i = .int .i64 k ∧ n = min (1 + sumN t.args k) most ∧ Hid (TBoxT w wr t A cap)) (fun _ i _ => L - (intOf i).toNat)
 case atStart => exact ⟨0, 1, Nat.zero_le _, rfl, rfl, by rw [sumN_zero]; omega, by rw [HL.out]; exact HX⟩
 case round =>
  obtain ⟨k, n, hk, rfl, rfl, hn, HB⟩ := hrel
  have b3 := HB.out.c3
  rw [← HL.out] at b3
  by_cases hlt : k < L
  ·by_cases hnm : n < most
   ·have hkl : k < t.args.length := by have := HL.out; omega
    obtain ⟨b, off, A', cap', rfl, hb, c0, c1, c2, c3, hs⟩ := (HT.out.keep HB.out.bel).get k hkl
    have hss := hs.mono HB.out.bel.size
    have hC := Lib.hid (HIH.out t.args[k] (List.getElem_mem hkl) A' cap' (most - n) wr hss (by omega) (by omega))
    have hsum := sumN_succ t.args k hkl
    unfold tmV at hC
    have hmn : ((most : Int) - (n : Int)) = ((most - n : Nat) : Int) := by omega
    obtain ⟨q, hq⟩ : ∃ q, q = min t.args[k].nodes (most - n) := ⟨_, rfl⟩
    rw [← hq] at hC
    have hq2 : n + q = min (1 + sumN t.args (k + 1)) most := by rw [hsum]; omega
    clear hs hss hq hsum hn
    generalize t.args[k].kind = a0 at *
    generalize t.args[k].num = a1 at *
    generalize t.args[k].name = a2 at *
    generalize t.args[k].args.length = a3 at *
    have HQ := Lib.hid hq2
    clear hq2
    go_wp2_with fail
    refine hC.out.mono ?_; rintro e w1 ⟨rfl, hB1⟩
    have HB1 := Lib.hid (HB.out.call hB1)
    have hnq : n + q ≤ 2001 := by have := HQ.out; omega
    clear b3 c0 c1 c2 c3 hB1
    go_wp2_with fail
    go_roundw
    case rel => exact ⟨k + 1, n + q, by omega, by go_num, by go_num, HQ.out, HB1⟩
    case measure => simp [intOf] <;> omega
   ·have hend : n = min t.nodes most := by
     have h3 := sumN_le t.args (t.args.length - k) k
     have h4 := HL.out
     rw [show k + (t.args.length - k) = t.args.length by omega] at h3
     rw [HALL.out]; omega
    have HE := Lib.hid hend
    have hbel := HB.out.bel
    have hnm2 : ¬ (n : Int) < (most : Int) := by omega
    clear hend hn
    go_wp2_with fail
    go_ret
    exact ⟨ret_int (by rw [HE.out]), hbel⟩
  ·have hend : n = min t.nodes most := by
    have h4 := HL.out
    rw [HALL.out, ← h4, hn, show k = L by omega]
   have HE := Lib.hid hend
   have hbel := HB.out.bel
   clear hend hn
   go_wp2_with fail
   go_ret
   exact ⟨ret_int (by rw [HE.out]), hbel⟩
theorem ref_size (t : Tm) (A : Option Addr) (cap : Nat) (w : World) (hT : TmsAt w.heap.size w A t.args) : Calls Tryz.prog 82 #[tmV t A cap] w fun e w' => e = .returned (.int .i64 (min t.nodes 2001 : Nat)) ∧ Below w.heap.size w w' := by
 have HX := Lib.hid (TBoxT.start w t A cap 26)
 have HC := Lib.hid (fun (w1 : World) (h : TBoxT w w1 t A cap) => ref_count t A cap 2001 w1 ((hT.keep h.bel).mono h.bel.size) (by decide) (by decide))
 unfold tmV at *
 clear hT
 generalize min t.nodes 2001 = m at *
 generalize t.kind = a0 at *
 generalize t.num = a1 at *
 generalize t.name = a2 at *
 generalize t.args.length = a3 at *
 go_enter Tryz.func82, Tryz.ntmps82
 go_wp2_with fail
 refine (HC.out _ HX.out).mono ?_; rintro e w1 ⟨rfl, hB1⟩
 have hbel := (HX.out.call hB1).bel
 go_wp2_with fail
 go_ret
 exact ⟨rfl, hbel⟩
set_option maxHeartbeats 3200000 in
theorem ref_node (t : Tm) (A : Option Addr) (cap : Nat) (w : World) (_hm : t.args.length ≤ maxLen) : Calls Tryz.prog 136 #[tmV t A cap] w fun e w' => e = .returned (.bool (nodeOk t)) ∧ Below w.heap.size w w' := by
 unfold tmV
 go_enter Tryz.func136, Tryz.ntmps136
 go_wp2_with fail
 all_goals go_ret
 all_goals refine ⟨ret_bool ?_, (Below.refl _ _).alloc (Nat.le_refl _) _⟩
 all_goals unfold nodeOk
 all_goals grind
set_option maxHeartbeats 3200000 in
theorem ref_nodes : ∀ (t : Tm) (A : Option Addr) (cap : Nat) (w : World), TmsAt w.heap.size w A t.args →
  Calls Tryz.prog 83 #[tmV t A cap] w fun e w' => e = .returned (.bool t.allOk) ∧ Below w.heap.size w w' := by
 refine Tm.ind fun t ih => ?_
 intro A cap w hT
 have HX := Lib.hid (TBoxT.start w t A cap 26)
 have HT := Lib.hid hT
 have hm := hT.len
 have HND := Lib.hid (fun w1 (h : TBoxT w w1 t A cap) => (ref_node t A cap w1 hm).mono fun _ _ hh => (⟨hh.1, h.call hh.2⟩ : _ ∧ TBoxT w _ t A cap))
 unfold maxLen at hm
 have HIH := Lib.hid ih
 have HALL := Lib.hid (Tm.allOk_eq t)
 clear hT ih
 obtain ⟨L, HL⟩ : ∃ L, Hid (L = t.args.length) := ⟨_, Lib.hid rfl⟩
 unfold tmV at *
 rw [← HL.out] at hm HND ⊢
 cases hno : nodeOk t
 ·rw [hno] at HND HALL
  clear hno
  go_enter Tryz.func83, Tryz.ntmps83
  go_wp2_with fail
  rw [← HL.out] at HX
  refine (HND.out _ HX.out).mono ?_; rintro e w1 ⟨rfl, hX1⟩
  have hbel := hX1.bel
  go_wp2_with fail
  go_ret
  exact ⟨ret_bool (by rw [HALL.out]; rfl), hbel⟩
 ·rw [hno] at HND HALL
  clear hno
  rw [← HL.out] at HX
  go_enter Tryz.func83, Tryz.ntmps83
  go_wp2_with fail
  refine (HND.out _ HX.out).mono ?_; rintro e w1 ⟨rfl, hX1⟩
  have HX1 := Lib.hid hX1
  clear hX1
  go_wp2_with fail
  go_loopw [3] (fun i wr => ∃ k : Nat, k ≤ L ∧ i = .int .i64 k ∧ Hid (TBoxT w wr t A cap) ∧ Hid (∀ j (hj : j < t.args.length), j < k → t.args[j].allOk = true)) (fun i _ => L - (intOf i).toNat)
  case atStart => exact ⟨0, Nat.zero_le _, rfl, HX1, Lib.hid fun j _ hj => absurd hj (by omega)⟩
  case round =>
   obtain ⟨k, hk, rfl, HB, HA⟩ := hrel
   have b3 := HB.out.c3
   rw [← HL.out] at b3
   by_cases hlt : k < L
   ·have hkl : k < t.args.length := by have := HL.out; omega
    obtain ⟨b, off, A', cap', rfl, hb, c0, c1, c2, c3, hs⟩ := (HT.out.keep HB.out.bel).get k hkl
    have hC := Lib.hid (HIH.out t.args[k] (List.getElem_mem hkl) A' cap' wr (hs.mono HB.out.bel.size))
    have HNO : Hid (t.args[k].allOk = false → t.allOk = false) := Lib.hid fun h => by
     rw [HALL.out, Bool.true_and, List.all_eq_false]
     exact ⟨_, List.getElem_mem hkl, by rw [h]; simp⟩
    have HYES : Hid (t.args[k].allOk = true → ∀ j (hj : j < t.args.length), j < k + 1 → t.args[j].allOk = true) := Lib.hid fun h j hj hjk => by
     rcases Nat.lt_or_ge j k with h' | h'
     ·exact HA.out j hj h'
     ·have : j = k := by omega
      subst this; exact h
    clear hs
    generalize t.args[k].kind = a0 at *
    generalize t.args[k].num = a1 at *
    generalize t.args[k].name = a2 at *
    generalize t.args[k].args.length = a3 at *
    generalize t.args[k].allOk = q at *
    cases q
    ·go_wp2_with fail
     refine hC.out.mono ?_; rintro e w2 ⟨rfl, hB2⟩
     have hbel := (HB.out.call hB2).bel
     go_wp2_with fail
     go_ret
     exact ⟨ret_bool (HNO.out (by first | rfl | trivial)).symm, hbel⟩
    ·go_wp2_with fail
     refine hC.out.mono ?_; rintro e w2 ⟨rfl, hB2⟩
     have HB2 := Lib.hid (HB.out.call hB2)
     go_wp2_with fail
     go_roundw
     case rel => exact ⟨k + 1, by omega, by go_num, HB2, Lib.hid (HYES.out (by first | rfl | trivial))⟩
     case measure => simp [intOf] <;> omega
   ·have HE : Hid (t.allOk = true) := Lib.hid (by
     rw [HALL.out, Bool.true_and, List.all_eq_true]
     intro a ha
     obtain ⟨j, hj, rfl⟩ := List.getElem_of_mem ha
     exact HA.out j hj (by have := HL.out; omega))
    have hbel := HB.out.bel
    go_wp2_with fail
    go_ret
    exact ⟨ret_bool HE.out.symm, hbel⟩
theorem ref_tvalid (t : Tm) (A : Option Addr) (cap : Nat) (w : World) (hT : TmsAt w.heap.size w A t.args) : Calls Tryz.prog 33 #[tmV t A cap] w fun e w' => e = .returned (.bool (validT t)) ∧ Below w.heap.size w w' := by
 have HX := Lib.hid (TBoxT.start w t A cap 26)
 have HC := Lib.hid (fun (w1 : World) (h : TBoxT w w1 t A cap) => (ref_size t A cap w1 ((hT.keep h.bel).mono h.bel.size)).mono fun _ _ hh => (⟨hh.1, h.call hh.2⟩ : _ ∧ TBoxT w _ t A cap))
 have HN := Lib.hid (fun (w1 : World) (h : TBoxT w w1 t A cap) => (ref_nodes t A cap w1 ((hT.keep h.bel).mono h.bel.size)).mono fun _ _ hh => (⟨hh.1, h.call hh.2⟩ : _ ∧ TBoxT w _ t A cap))
 unfold tmV at *
 clear hT
 by_cases hsz : t.nodes ≤ 2000
 ·have HV : Hid (validT t = t.allOk) := Lib.hid (by unfold validT; simp [hsz])
  have hmn : min t.nodes 2001 = t.nodes := by omega
  rw [hmn] at HC
  have b1 : decide ((t.nodes : Int) ≤ 2000) = true := by simp; omega
  go_enter Tryz.func33, Tryz.ntmps33
  go_wp2_with fail
  refine (HC.out _ HX.out).mono ?_; rintro e w1 ⟨rfl, hX1⟩
  have c0 := hX1.c0
  have c1 := hX1.c1
  have c2 := hX1.c2
  have c3 := hX1.c3
  go_wp2_with fail
  refine (HN.out _ hX1).mono ?_; rintro e w2 ⟨rfl, hX2⟩
  have hbel := hX2.bel
  go_wp2_with fail
  go_ret
  exact ⟨ret_bool HV.out.symm, hbel⟩
 ·have HV : Hid (validT t = false) := Lib.hid (by unfold validT; simp [hsz])
  have hmn : min t.nodes 2001 = 2001 := by omega
  rw [hmn] at HC
  go_enter Tryz.func33, Tryz.ntmps33
  go_wp2_with fail
  refine (HC.out _ HX.out).mono ?_; rintro e w1 ⟨rfl, hX1⟩
  have hbel := hX1.bel
  go_wp2_with fail
  go_ret
  exact ⟨ret_bool HV.out.symm, hbel⟩
end Go.Proofs.YtfkhcpeahdkafaaGreat
namespace Hb
open Go Go.RowKit
structure WalkH (w0 w : World) (t : Tm) (A : Option Addr) (cap gl M : Nat) : Prop where
 only : Only gl w0 w
 lt : w0.heap.size < w.heap.size
 b3 : w.cell? ⟨w0.heap.size, 3, none⟩ = some (.slice A t.args.length cap)
 cell : w.cell? ⟨gl, 0, none⟩ = some (.int .i64 M)
 fr : ∀ o, w.frozen? ⟨gl, o, none⟩ = false
structure LeftN (w0 w : World) (gl : Nat) (M : Nat) : Prop where
 only : Only gl w0 w
 cell : w.cell? ⟨gl, 0, none⟩ = some (.int .i64 M)
 fr : ∀ o, w.frozen? ⟨gl, o, none⟩ = false
theorem WalkH.left {w0 w : World} {t : Tm} {A : Option Addr} {cap gl M : Nat} (h : WalkH w0 w t A cap gl M) : LeftN w0 w gl M := ⟨h.only, h.cell, h.fr⟩
theorem WalkH.call {w0 w w' : World} {t : Tm} {A : Option Addr} {cap gl M M' : Nat} (h : WalkH w0 w t A cap gl M) (hg : gl < w0.heap.size) (hl : LeftN w w' gl M') : WalkH w0 w' t A cap gl M' where
 only := h.only.trans hl.only
 lt := Nat.lt_of_lt_of_le h.lt hl.only.size
 b3 := (hl.only.cell (p := ⟨w0.heap.size, 3, none⟩) h.lt (by show w0.heap.size ≠ gl; omega)).trans h.b3
 cell := hl.cell
 fr := hl.fr
theorem WalkH.start (w : World) (t : Tm) (A : Option Addr) (cap gl M LN : Nat) (e : TypeId) (hL : LN = t.args.length) (hgl : gl < w.heap.size) {u : Value} (hc : w.cell? ⟨gl, 0, none⟩ = some u) (hf : ∀ o, w.frozen? ⟨gl, o, none⟩ = false) :
  WalkH w ((w.setCell ⟨gl, 0, none⟩ (.int .i64 M)).alloc (.cells #[.int .i64 t.kind, .int .i64 t.num, .string t.name, .slice A LN cap] e)) t A cap gl M where
 only := (Only.set gl 0 w _).trans (Only.alloc gl _ _)
 lt := by simp
 b3 := by
  have h := World.cell?_alloc_new (w.setCell ⟨gl, 0, none⟩ (.int .i64 M)) #[.int .i64 t.kind, .int .i64 t.num, .string t.name, .slice A LN cap] e 3
  have hs : (w.setCell ⟨gl, 0, none⟩ (.int .i64 M)).heap.size = w.heap.size := by simp
  rw [hs] at h
  rw [h, hL]; rfl
 cell := by
  have hB := (Below.refl (w.setCell ⟨gl, 0, none⟩ (.int .i64 M)).heap.size (w.setCell ⟨gl, 0, none⟩ (.int .i64 M))).alloc (Nat.le_refl _) (.cells #[.int .i64 t.kind, .int .i64 t.num, .string t.name, .slice A LN cap] e)
  rw [hB.cell (p := ⟨gl, 0, none⟩) (by simpa using hgl)]
  exact World.cell?_setCell_same _ _ _ hc
 fr := fun o => by
  have hB := (Below.refl (w.setCell ⟨gl, 0, none⟩ (.int .i64 M)).heap.size (w.setCell ⟨gl, 0, none⟩ (.int .i64 M))).alloc (Nat.le_refl _) (.cells #[.int .i64 t.kind, .int .i64 t.num, .string t.name, .slice A LN cap] e)
  rw [hB.frozen (p := ⟨gl, o, none⟩) (by simpa using hgl), World.frozen?_setCell]
  exact hf o
structure SizeH (w W : World) (F : Value) : Prop where
 bel : Below w.heap.size w W
 lt1 : w.heap.size + 1 < W.heap.size
 lt2 : w.heap.size + 1 + 1 < W.heap.size
 left : LeftN W W (w.heap.size + 1) 2001
 fn : W.cell? ⟨w.heap.size + 1 + 1, 0, none⟩ = some F
theorem size_start (w : World) (o : Obj) (t1 t2 : TypeId) (F : Value) : SizeH w (((w.alloc o).alloc (.cells #[.int .i64 2001] t1)).alloc (.cells #[F] t2)) F where
 bel := (((Below.refl _ _).alloc (Nat.le_refl _) _).alloc (by simp) _).alloc (by simp; omega) _
 lt1 := by simp
 lt2 := by simp
 left := by
  have h1 := World.cell?_alloc_new (w.alloc o) #[.int .i64 2001] t1 0
  have hs : (w.alloc o).heap.size = w.heap.size + 1 := by simp
  rw [hs] at h1
  have hB := (Below.refl ((w.alloc o).alloc (.cells #[.int .i64 2001] t1)).heap.size ((w.alloc o).alloc (.cells #[.int .i64 2001] t1))).alloc (Nat.le_refl _) (.cells #[F] t2)
  refine ⟨Only.refl _ _, (hB.cell (p := ⟨w.heap.size + 1, 0, none⟩) (by simp)).trans h1, fun k => ?_⟩
  rw [hB.frozen (p := ⟨w.heap.size + 1, k, none⟩) (by simp)]
  exact World.frozen?_alloc_at (w := w.alloc o) #[.int .i64 2001] t1 (w.heap.size + 1) k hs.symm
 fn := by
  have h1 := World.cell?_alloc_new ((w.alloc o).alloc (.cells #[.int .i64 2001] t1)) #[F] t2 0
  have hs : ((w.alloc o).alloc (.cells #[.int .i64 2001] t1)).heap.size = w.heap.size + 1 + 1 := by simp
  rw [hs] at h1
  exact h1
end Hb
namespace Go.Proofs.YtfkhcpeahdkafaaGreat
open Go.RowKit Hb
set_option maxRecDepth 100000
def walkF (gl gw : Nat) : Value := .func (.func 138) #[] #[.pointer (some ⟨gl, 0, none⟩), .pointer (some ⟨gw, 0, none⟩)]
set_option maxHeartbeats 3200000 in
theorem size_walk : ∀ (t : Tm) (A : Option Addr) (cap B gl gw L : Nat) (w : World), TmsAt B w A t.args → B ≤ gl → B ≤ gw → gl ≠ gw → gl < w.heap.size → gw < w.heap.size → 1 ≤ L → L ≤ 2001 → LeftN w w gl L → w.cell? ⟨gw, 0, none⟩ = some (walkF gl gw) →
  Calls Tryz.prog 138 #[tmV t A cap, .pointer (some ⟨gl, 0, none⟩), .pointer (some ⟨gw, 0, none⟩)] w fun e w' => e = .returned (.tuple #[]) ∧ LeftN w w' gl (L - t.nodes) := by
 refine Tm.ind fun t ih => ?_
 intro A cap B gl gw L w hT hBl hBw hne hgl hgw h1 h2 hL hgc
 have hm := hT.len
 unfold maxLen at hm
 have HT := Lib.hid hT
 have HALL := Lib.hid (sumN_all t)
 have HIH := Lib.hid ih
 have gl0 := hL.cell
 have glf := hL.fr
 have glf0 := glf 0
 have hl1 : (L : Int) - 1 = ((L - 1 : Nat) : Int) := by omega
 obtain ⟨LN, HL⟩ : ∃ LN, Hid (LN = t.args.length) := ⟨_, Lib.hid rfl⟩
 clear hT ih
 unfold tmV
 rw [← HL.out] at hm ⊢
 have HWS := Lib.hid (WalkH.start w t A cap gl (L - 1) LN 26 HL.out hgl gl0 glf)
 have HGW := Lib.hid hgc
 go_enter Tryz.func138, Tryz.ntmps138
 go_wp2_with fail
 clear hL hgc gl0 glf glf0 hl1
 go_loopw [4] (fun i wr => ∃ k M : Nat, k ≤ LN ∧ i = .int .i64 k ∧ M = L - (1 + sumN t.args k) ∧ Hid (WalkH w wr t A cap gl M)) (fun i _ => LN - (intOf i).toNat)
 case atStart => exact ⟨0, L - 1, Nat.zero_le _, rfl, by rw [sumN_zero], HWS⟩
 case round =>
  clear HWS
  obtain ⟨k, M, hk, rfl, hM, HB⟩ := hrel
  have b3 := HB.out.b3
  rw [← HL.out] at b3
  have gl0 := HB.out.cell
  by_cases hlt : k < LN
  ·by_cases hm0 : 0 < M
   ·have hkl : k < t.args.length := by have := HL.out; omega
    have hBw' : Below B w wr := HB.out.only.below hBl (by omega)
    obtain ⟨b, off, A', cap', rfl, hb, c0, c1, c2, c3, hs⟩ := (HT.out.keep hBw').get k hkl
    have gwc : wr.cell? ⟨gw, 0, none⟩ = some (walkF gl gw) := (HB.out.only.cell (p := ⟨gw, 0, none⟩) hgw (fun h => hne h.symm)).trans HGW.out
    have hsz := HB.out.only.size
    have HC := Lib.hid (HIH.out t.args[k] (List.getElem_mem hkl) A' cap' B gl gw M wr.drew (hs.keep (Below.refl B wr).drew) hBl hBw hne (by show gl < wr.heap.size; omega) (by show gw < wr.heap.size; omega) hm0 (by omega) ⟨Only.refl _ _, gl0, HB.out.fr⟩ gwc)
    have hsum := sumN_succ t.args k hkl
    have HQ : Hid (M - t.args[k].nodes = L - (1 + sumN t.args (k + 1))) := Lib.hid (by rw [hsum]; omega)
    unfold tmV at HC
    unfold walkF at gwc
    clear hs hsum hM
    have hk0 : (0 : Int) ≤ (k : Int) := by omega
    have hk1 : (k : Int) < (LN : Int) := by omega
    generalize t.args[k].kind = a0 at *
    generalize t.args[k].num = a1 at *
    generalize t.args[k].name = a2 at *
    generalize t.args[k].args.length = a3 at *
    generalize t.args[k].nodes = q at *
    go_wp2_with fail
    go_region_with (first | (go_at_call 138; (with_reducible refine HC.out.mono ?_); rintro e w2 ⟨rfl, hL2⟩))
    all_goals
     have HBn := Lib.hid (HB.out.call hgl (⟨(Only.of (Below.refl wr.heap.size wr).drew).trans hL2.only, hL2.cell, hL2.fr⟩ : LeftN wr w2 gl (M - q)))
     clear b3 gl0 c0 c1 c2 c3 gwc hL2
     go_wp2_with fail
     go_roundw
     case rel => exact ⟨k + 1, M - q, by omega, by go_num, HQ.out, HBn⟩
     case measure => simp [intOf] <;> omega
   ·have hM0 : M = 0 := by omega
    subst hM0
    have h3 := sumN_le t.args (t.args.length - k) k
    have h4 := HL.out
    rw [show k + (t.args.length - k) = t.args.length by omega] at h3
    have hend : L - t.nodes = 0 := by rw [HALL.out]; omega
    have HE := Lib.hid hend
    have hlf := HB.out.left
    clear hend h3 h4 hM
    go_wp2_with fail
    refine bodyPost_end (v := .tuple #[]) (by simp [results, Tryz.results138, go_sem]) rfl ⟨rfl, by rw [HE.out]; exact hlf⟩
  ·have hend : M = L - t.nodes := by
    have h4 := HL.out
    rw [HALL.out, ← h4, hM, show k = LN by omega]
   have HE := Lib.hid hend
   have hlf := HB.out.left
   clear hend hM
   go_wp2_with fail
   refine bodyPost_end (v := .tuple #[]) (by simp [results, Tryz.results138, go_sem]) rfl ⟨rfl, by rw [← HE.out]; exact hlf⟩
theorem size_left (t : Tm) (A : Option Addr) (cap : Nat) (w : World) (hT : TmsAt w.heap.size w A t.args) : Calls Tryz.prog 97 #[tmV t A cap] w fun e w' => e = .returned (.int .i64 (min t.nodes 2001 : Nat)) ∧ Below w.heap.size w w' := by
 have HS := Lib.hid (fun (o : Obj) => size_start w o 3 142 (walkF (w.heap.size + 1) (w.heap.size + 1 + 1)))
 have HW := Lib.hid (fun (o : Obj) => size_walk t A cap w.heap.size (w.heap.size + 1) (w.heap.size + 1 + 1) 2001 _ (hT.keep (HS.out o).bel) (by omega) (by omega) (by omega) (HS.out o).lt1 (HS.out o).lt2 (by decide) (by decide) (HS.out o).left (HS.out o).fn)
 clear hT
 have hmin : (2001 : Int) - ((2001 - t.nodes : Nat) : Int) = ((min t.nodes 2001 : Nat) : Int) := by omega
 have HMIN := Lib.hid hmin
 clear hmin
 unfold tmV walkF at *
 generalize t.kind = a0 at *
 generalize t.num = a1 at *
 generalize t.name = a2 at *
 generalize t.args.length = a3 at *
 go_enter Tryz.func97, Tryz.ntmps97
 go_wp2_with fail
 refine (HW.out _).mono ?_; rintro e w1 ⟨rfl, hL1⟩
 have c0 := hL1.cell
 have hbel := (HS.out (.cells #[.int .i64 a0, .int .i64 a1, .string a2, .slice A a3 cap] 26)).bel.trans (hL1.only.below (by omega) (HS.out (.cells #[.int .i64 a0, .int .i64 a1, .string a2, .slice A a3 cap] 26)).bel.size)
 have hr0 : (0 : Int) ≤ ((2001 - t.nodes : Nat) : Int) := by omega
 have hr1 : ((2001 - t.nodes : Nat) : Int) ≤ 2001 := by omega
 go_wp2_with fail
 go_ret
 exact ⟨ret_int (by rw [← HMIN.out]), hbel⟩
end Go.Proofs.YtfkhcpeahdkafaaGreat
namespace Hb
open Go Go.RowKit
def okTo (t : Tm) (k : Nat) : Bool := nodeOk t && (t.args.take k).all Tm.allOk
theorem okTo_zero (t : Tm) : okTo t 0 = nodeOk t := by unfold okTo; simp
theorem okTo_succ (t : Tm) (k : Nat) (h : k < t.args.length) : okTo t (k + 1) = (okTo t k && t.args[k].allOk) := by
 unfold okTo; rw [List.take_succ_eq_append_getElem h, List.all_append, Bool.and_assoc]; simp
theorem okTo_end (t : Tm) (k : Nat) (h : t.args.length ≤ k) : okTo t k = t.allOk := by
 rw [Tm.allOk_eq]; unfold okTo; rw [List.take_of_length_le h]
theorem okTo_no (t : Tm) (k : Nat) (h : okTo t k = false) : t.allOk = false := by
 rw [Tm.allOk_eq]
 unfold okTo at h
 cases h1 : nodeOk t
 ·rfl
 ·rw [h1, Bool.true_and] at h
  rw [Bool.true_and, List.all_eq_false] at *
  obtain ⟨x, hx, hx2⟩ := h
  exact ⟨x, List.mem_of_mem_take hx, hx2⟩
end Hb
namespace Go.Proofs.YtfkhcpeahdkafaaGreat
open Go.RowKit Hb
set_option maxRecDepth 100000
set_option maxHeartbeats 6400000 in
theorem fits_all : ∀ (t : Tm) (A : Option Addr) (cap : Nat) (w : World), TmsAt w.heap.size w A t.args →
  Calls Tryz.prog 98 #[tmV t A cap] w fun e w' => e = .returned (.bool t.allOk) ∧ Below w.heap.size w w' := by
 refine Tm.ind fun t ih => ?_
 intro A cap w hT
 have HX := Lib.hid (TBoxT.start w t A cap 26)
 have HT := Lib.hid hT
 have hm := hT.len
 unfold maxLen at hm
 have HIH := Lib.hid ih
 have H0 := Lib.hid (okTo_zero t)
 clear hT ih
 obtain ⟨L, HL⟩ : ∃ L, Hid (L = t.args.length) := ⟨_, Lib.hid rfl⟩
 unfold tmV at *
 rw [← HL.out] at hm ⊢ HX
 go_enter Tryz.func98, Tryz.ntmps98
 go_upto_block 0 with fail
 go_cut [0, 3] from 4 (fun p q wc => p = .agg #[.int .i64 t.kind, .int .i64 t.num, .string t.name, .slice A L cap] ∧ q = .bool (nodeOk t) ∧ wc = w.alloc (.cells #[.int .i64 t.kind, .int .i64 t.num, .string t.name, .slice A L cap] 26))
 case first =>
  go_wp2_with fail
  all_goals
   go_meet
   case rel =>
    refine ⟨?_, ?_, ?_⟩
    ·first | rfl | simp only [*]
    ·unfold nodeOk
     rw [← HL.out]
     congr 1
     grind
    ·first | rfl | simp only [*]
 case rest =>
  obtain ⟨rfl, rfl, rfl⟩ := hcut
  go_wp2_with fail
  go_loopw [3, 4] (fun b i wr => ∃ k : Nat, ∃ q : Bool, k ≤ L ∧ b = .bool q ∧ i = .int .i64 k ∧ Hid (TBoxT w wr t A cap) ∧ Hid (q = okTo t k)) (fun b i _ => L - (intOf i).toNat)
  case atStart => exact ⟨0, _, Nat.zero_le _, rfl, rfl, HX, Lib.hid H0.out.symm⟩
  case round =>
   obtain ⟨k, q, hk, rfl, rfl, HB, HQ⟩ := hrel
   have b3 := HB.out.c3
   rw [← HL.out] at b3
   cases q
   ·have HE := Lib.hid (okTo_no t k HQ.out.symm)
    have hbel := HB.out.bel
    by_cases hlt : k < L
    all_goals
     go_wp2_with fail
     go_ret
     exact ⟨ret_bool HE.out.symm, hbel⟩
   ·by_cases hlt : k < L
    ·have hkl : k < t.args.length := by have := HL.out; omega
     obtain ⟨b, off, A', cap', rfl, hb, c0, c1, c2, c3, hs⟩ := (HT.out.keep HB.out.bel).get k hkl
     have hC := Lib.hid (HIH.out t.args[k] (List.getElem_mem hkl) A' cap' wr (hs.mono HB.out.bel.size))
     have HN := Lib.hid (okTo_succ t k hkl)
     rw [← HQ.out, Bool.true_and] at HN
     clear hs
     generalize t.args[k].kind = a0 at *
     generalize t.args[k].num = a1 at *
     generalize t.args[k].name = a2 at *
     generalize t.args[k].args.length = a3 at *
     generalize t.args[k].allOk = q at *
     go_wp2_with fail
     refine hC.out.mono ?_; rintro e w2 ⟨rfl, hB2⟩
     have HB2 := Lib.hid (HB.out.call hB2)
     go_wp2_with fail
     go_roundw
     case rel => first | exact ⟨k + 1, by omega, q, rfl, by go_num, HB2, Lib.hid HN.out.symm⟩ | exact ⟨k + 1, q, by omega, rfl, by go_num, HB2, Lib.hid HN.out.symm⟩ | exact ⟨k + 1, by omega, by go_num, HB2, Lib.hid HN.out.symm⟩ 
     case measure => simp [intOf] <;> omega
    ·have HE := Lib.hid (okTo_end t k (by have := HL.out; omega))
     rw [← HQ.out] at HE
     have hbel := HB.out.bel
     go_wp2_with fail
     go_ret
     exact ⟨ret_bool HE.out, hbel⟩
theorem t_valid (t : Tm) (A : Option Addr) (cap : Nat) (w : World) (hT : TmsAt w.heap.size w A t.args) : Calls Tryz.prog 53 #[tmV t A cap] w fun e w' => e = .returned (.bool (validT t)) ∧ Below w.heap.size w w' := by
 have HX := Lib.hid (TBoxT.start w t A cap 26)
 have HC := Lib.hid (fun (w1 : World) (h : TBoxT w w1 t A cap) => (size_left t A cap w1 ((hT.keep h.bel).mono h.bel.size)).mono fun _ _ hh => (⟨hh.1, h.call hh.2⟩ : _ ∧ TBoxT w _ t A cap))
 have HN := Lib.hid (fun (w1 : World) (h : TBoxT w w1 t A cap) => (fits_all t A cap w1 ((hT.keep h.bel).mono h.bel.size)).mono fun _ _ hh => (⟨hh.1, h.call hh.2⟩ : _ ∧ TBoxT w _ t A cap))
 unfold tmV at *
 clear hT
 by_cases hsz : t.nodes ≤ 2000
 ·have HV : Hid (validT t = t.allOk) := Lib.hid (by unfold validT; simp [hsz])
  have hmn : min t.nodes 2001 = t.nodes := by omega
  rw [hmn] at HC
  have b1 : decide ((t.nodes : Int) ≤ 2000) = true := by simp; omega
  go_enter Tryz.func53, Tryz.ntmps53
  go_wp2_with fail
  refine (HC.out _ HX.out).mono ?_; rintro e w1 ⟨rfl, hX1⟩
  have c0 := hX1.c0
  have c1 := hX1.c1
  have c2 := hX1.c2
  have c3 := hX1.c3
  go_wp2_with fail
  refine (HN.out _ hX1).mono ?_; rintro e w2 ⟨rfl, hX2⟩
  have hbel := hX2.bel
  go_wp2_with fail
  go_ret
  exact ⟨ret_bool HV.out.symm, hbel⟩
 ·have HV : Hid (validT t = false) := Lib.hid (by unfold validT; simp [hsz])
  have hmn : min t.nodes 2001 = 2001 := by omega
  rw [hmn] at HC
  go_enter Tryz.func53, Tryz.ntmps53
  go_wp2_with fail
  refine (HC.out _ HX.out).mono ?_; rintro e w1 ⟨rfl, hX1⟩
  have hbel := hX1.bel
  go_wp2_with fail
  go_ret
  exact ⟨ret_bool HV.out.symm, hbel⟩
end Go.Proofs.YtfkhcpeahdkafaaGreat
