/- Terms, plain: renamed variables; rows that have grown. The reference's Canon: position, vars, number. The reference's Canon: number, Canon. Flags: Canon's map, plain. Flags: Canon: worlds that are kept but for one block. Flags: Canon's closure. Terms: the reference's identical and Same. Flags: apply with Canon's closure. Flags: Canon. Flags: the program's identical, Same; the reference's Same. Flags: the two Same. -/
import Derived.Test.YtfkhcpeahdkafaaGreatH04
import Derived.Maps.OwnSet
import Derived.Carry
namespace Hb
open Go Go.RowKit
inductive Tm.All (P : Tm → Prop) : Tm → Prop
 | mk (t : Tm) (h : P t) (ha : ∀ a ∈ t.args, Tm.All P a) : Tm.All P t
theorem Tm.All.here {P : Tm → Prop} {t : Tm} (h : Tm.All P t) : P t := by cases h; assumption
theorem Tm.All.sub {P : Tm → Prop} {t : Tm} (h : Tm.All P t) : ∀ a ∈ t.args, Tm.All P a := by cases h; assumption
theorem Tm.All.imp {P Q : Tm → Prop} (hi : ∀ t, P t → Q t) : ∀ t : Tm, Tm.All P t → Tm.All Q t := Tm.ind fun t ih h => .mk t (hi t h.here) fun a ha => ih a ha (h.sub a ha)
def ren (f : Int → Int) : Tm → Tm
 | .mk k n s l => .mk k (if k = 0 then f n else n) s (l.attach.map fun ⟨a, _⟩ => ren f a)
theorem ren_eq (f : Int → Int) (t : Tm) : ren f t = .mk t.kind (if t.kind = 0 then f t.num else t.num) t.name (t.args.map (ren f)) := by
 cases t with
 | mk k n s l => unfold ren Tm.kind Tm.num Tm.name Tm.args; simp
def varsT : Tm → List Int → List Int
 | .mk k n _ l => fun acc => l.attach.foldl (fun acc ⟨a, _⟩ => varsT a acc) (if k = 0 ∧ n ∉ acc then acc ++ [n] else acc)
def varH (t : Tm) (acc : List Int) : List Int := if t.kind = 0 ∧ t.num ∉ acc then acc ++ [t.num] else acc
theorem varsT_eq (t : Tm) (acc : List Int) : varsT t acc = t.args.foldl (fun acc a => varsT a acc) (varH t acc) := by
 cases t with
 | mk k n s l =>
  conv => lhs; unfold varsT
  show _ = l.foldl (fun acc a => varsT a acc) (if k = 0 ∧ n ∉ acc then acc ++ [n] else acc)
  simp
theorem varH_sub (t : Tm) (acc : List Int) : (∀ n ∈ acc, n ∈ varH t acc) ∧ (varH t acc).length ≤ acc.length + 1 ∧ (t.kind = 0 → t.num ∈ varH t acc) := by
 unfold varH
 split
 ·rename_i h
  exact ⟨fun n hn => List.mem_append_left _ hn, by simp, fun _ => by simp⟩
 ·rename_i h
  refine ⟨fun n hn => hn, by omega, fun h0 => ?_⟩
  exact Classical.byContradiction fun hn => h ⟨h0, hn⟩
theorem varsT_all : ∀ (t : Tm) (acc : List Int), (∀ n ∈ acc, n ∈ varsT t acc) ∧ (varsT t acc).length ≤ acc.length + t.nodes ∧ Tm.All (fun x => x.kind = 0 → x.num ∈ varsT t acc) t := by
 refine Tm.ind fun t ih => ?_
 intro acc
 obtain ⟨h1, h2, h3⟩ := varH_sub t acc
 have key : ∀ (l : List Tm), (∀ a ∈ l, a ∈ t.args) → ∀ ac : List Int, (∀ n ∈ ac, n ∈ l.foldl (fun acc a => varsT a acc) ac) ∧ (l.foldl (fun acc a => varsT a acc) ac).length ≤ ac.length + (l.map Tm.nodes).sum ∧ ∀ a ∈ l, Tm.All (fun x => x.kind = 0 → x.num ∈ l.foldl (fun acc a => varsT a acc) ac) a := by
  intro l
  induction l with
  | nil => intro _ ac; exact ⟨fun n hn => hn, by simp, fun a ha => by cases ha⟩
  | cons a l ihl =>
   intro hl ac
   obtain ⟨k1, k2, k3⟩ := ih a (hl a (List.mem_cons_self ..)) ac
   obtain ⟨m1, m2, m3⟩ := ihl (fun x hx => hl x (List.mem_cons_of_mem _ hx)) (varsT a ac)
   rw [List.foldl_cons, List.map_cons, List.sum_cons]
   refine ⟨fun n hn => m1 n (k1 n hn), by omega, fun x hx => ?_⟩
   rcases List.mem_cons.1 hx with rfl | hx
   ·exact Tm.All.imp (fun y hy h0 => m1 _ (hy h0)) _ k3
   ·exact m3 x hx
 obtain ⟨k1, k2, k3⟩ := key t.args (fun _ h => h) (varH t acc)
 rw [varsT_eq]
 refine ⟨fun n hn => k1 n (h1 n hn), by rw [Tm.nodes_eq t]; omega, .mk _ (fun h0 => k1 _ (h3 h0)) k3⟩
def posI (l : List Int) (n : Int) : Int := if n ∈ l then (l.idxOf n : Int) else -1
def canT (t : Tm) : Tm := if validT t = true then ren (posI (varsT t [])) t else tm0
def AtB (w : World) (v v' : Value) : Prop := v'.ownBlock = v.ownBlock ∨ ∃ k, v'.ownBlock = some k ∧ w.heap.size ≤ k
theorem AtB.refl (w : World) (v : Value) : AtB w v v := .inl rfl
theorem AtB.trans {a w : World} {v v1 v2 : Value} (h : AtB a v v1) (k : AtB w v1 v2) (hs : a.heap.size ≤ w.heap.size) : AtB a v v2 := by
 rcases k with k | ⟨g, k, hg⟩
 ·rw [AtB, k]; exact h
 ·exact .inr ⟨g, k, Nat.le_trans hs hg⟩
def sumT (l : List Tm) : Nat := (l.map Tm.nodes).sum
theorem sumT_take (l : List Tm) (k : Nat) (h : k < l.length) : sumT (l.take (k + 1)) = sumT (l.take k) + l[k].nodes := by
 unfold sumT
 rw [List.take_succ_eq_append_getElem h, List.map_append, List.sum_append]; simp
theorem sumT_le (l : List Tm) (k : Nat) : sumT (l.take k) ≤ sumT l := by
 have e : sumT l = sumT (l.take k) + sumT (l.drop k) := by
  unfold sumT
  rw [← List.sum_append, ← List.map_append, List.take_append_drop]
 omega
structure TBx (w : World) (g : Nat) (t : Tm) (A : Option Addr) (cap : Nat) : Prop where
 lt : g < w.heap.size
 c0 : w.cell? ⟨g, 0, none⟩ = some (.int .i64 t.kind)
 c1 : w.cell? ⟨g, 1, none⟩ = some (.int .i64 t.num)
 c2 : w.cell? ⟨g, 2, none⟩ = some (.string t.name)
 c3 : w.cell? ⟨g, 3, none⟩ = some (.slice A t.args.length cap)
theorem TBx.call {w w' : World} {g : Nat} {t : Tm} {A : Option Addr} {cap : Nat} (h : TBx w g t A cap) (hB : Below w.heap.size w w') : TBx w' g t A cap :=
 ⟨Nat.lt_of_lt_of_le h.lt hB.size, (hB.cell (p := ⟨_, _, none⟩) h.lt).trans h.c0, (hB.cell (p := ⟨_, _, none⟩) h.lt).trans h.c1, (hB.cell (p := ⟨_, _, none⟩) h.lt).trans h.c2, (hB.cell (p := ⟨_, _, none⟩) h.lt).trans h.c3⟩
theorem TBx.start (w : World) (t : Tm) (A : Option Addr) (cap LN : Nat) (e : TypeId) (hL : LN = t.args.length) : TBx (w.alloc (.cells #[.int .i64 t.kind, .int .i64 t.num, .string t.name, .slice A LN cap] e)) w.heap.size t A cap :=
 ⟨by simp, World.cell?_alloc_new _ _ _ 0, World.cell?_alloc_new _ _ _ 1, World.cell?_alloc_new _ _ _ 2, by rw [← hL]; exact World.cell?_alloc_new _ _ _ 3⟩
end Hb
namespace Hb
open Go Go.RowKit
def IntsAt (w : World) (A : Option Addr) (l : List Int) : Prop :=
 ∀ j (hj : j < l.length), ∃ g off, A = some ⟨g, off, none⟩ ∧ g < w.heap.size ∧ w.cell? ⟨g, off + j, none⟩ = some (.int .i64 l[j])
theorem IntsAt.below {w w' : World} {A : Option Addr} {l : List Int} (h : IntsAt w A l) (hb : Below w.heap.size w w') : IntsAt w' A l := fun j hj => by
 obtain ⟨g, off, hA, hg, hc⟩ := h j hj
 exact ⟨g, off, hA, Nat.lt_of_lt_of_le hg hb.size, (hb.cell (p := ⟨_, _, none⟩) hg).trans hc⟩
def OwnI (e : TypeId) (b : Nat) (w : World) (v : Value) (l : List Int) : Prop := w.ownsRow b e 1 v l.length (l.map fun n => Value.int .i64 n)
theorem OwnI.below {e b : Nat} {w w' : World} {v : Value} {l : List Int} (h : OwnI e b w v l) (hB : Below w.heap.size w w') : OwnI e b w' v l := own_below h hB
theorem OwnI.low {e b : Nat} {w : World} {v : Value} {l : List Int} (h : OwnI e b w v l) {k : Nat} (hk : v.ownBlock = some k) : b ≤ k ∧ k < w.heap.size := ⟨(World.ownsRow.lt h k hk).1, (World.ownsRow.lt h k hk).2⟩
theorem OwnI.nil (e b : Nat) (w : World) : OwnI e b w (.slice none 0 0) [] := World.ownsRow_nil _ _ _ _
end Hb
namespace Go.Proofs.YtfkhcpeahdkafaaGreat
open Go.RowKit Hb
set_option maxRecDepth 100000
theorem varsT_leaf {t : Tm} (h : t.args.length = 0) (acc : List Int) : varsT t acc = varH t acc := by
 rw [varsT_eq, List.eq_nil_of_length_eq_zero h]; rfl
theorem varsT_node {t : Tm} (h : ¬ t.kind = 0) (acc : List Int) : varsT t acc = t.args.foldl (fun acc a => varsT a acc) acc := by
 rw [varsT_eq]; unfold varH; rw [if_neg (fun e => h e.1)]
theorem foldV_len (l : List Tm) : ∀ acc : List Int, (l.foldl (fun acc a => varsT a acc) acc).length ≤ acc.length + sumT l := by
 induction l with
 | nil => intro acc; exact Nat.le_add_right _ _
 | cons a l ih =>
  intro acc
  have h1 := ih (varsT a acc)
  have h2 := (varsT_all a acc).2.1
  have e : sumT (a :: l) = a.nodes + sumT l := by unfold sumT; rw [List.map_cons, List.sum_cons]
  rw [List.foldl_cons, e]; omega
end Go.Proofs.YtfkhcpeahdkafaaGreat
namespace Hb
open Go Go.RowKit
theorem R4.put4 {w0 w : World} {g : Nat} (h : R4 w0 w g) (x y z u : Value) : R4 w0 ((((w.setCell ⟨g, 0, none⟩ x).setCell ⟨g, 1, none⟩ y).setCell ⟨g, 2, none⟩ z).setCell ⟨g, 3, none⟩ u) g := by
 obtain ⟨u0, r0⟩ := h.r0
 obtain ⟨u1, r1⟩ := h.r1
 obtain ⟨u2, r2⟩ := h.r2
 obtain ⟨u3, r3⟩ := h.r3
 obtain ⟨q0, q1, q2, q3, qf⟩ := put4_cells w g x y z u r0 r1 r2 r3 _ rfl
 exact ⟨h.put x y z u, h.le, by rw [put4_size]; exact h.lt, ⟨_, q0⟩, ⟨_, q1⟩, ⟨_, q2⟩, ⟨_, q3⟩, fun o => (qf _).trans (h.fr o)⟩
structure CnH (w X : World) (t : Tm) (A : Option Addr) (cap : Nat) : Prop where
 r : R4 w X (w.heap.size + 1)
 b : TBoxT w X t A cap
theorem CnH.call {w X X' : World} {t : Tm} {A : Option Addr} {cap : Nat} (h : CnH w X t A cap) (hB : Below X.heap.size X X') : CnH w X' t A cap := ⟨h.r.call hB, h.b.call hB⟩
theorem CnH.drew {w X : World} {t : Tm} {A : Option Addr} {cap : Nat} (h : CnH w X t A cap) : CnH w X.drew t A cap := h.call (Below.refl _ _).drew
theorem CnH.put4 {w X : World} {t : Tm} {A : Option Addr} {cap : Nat} (h : CnH w X t A cap) (x y z u : Value) : CnH w ((((X.setCell ⟨w.heap.size + 1, 0, none⟩ x).setCell ⟨w.heap.size + 1, 1, none⟩ y).setCell ⟨w.heap.size + 1, 2, none⟩ z).setCell ⟨w.heap.size + 1, 3, none⟩ u) t A cap := by
 have hr := h.r.put4 x y z u
 have hc : ∀ j, ((((X.setCell ⟨w.heap.size + 1, 0, none⟩ x).setCell ⟨w.heap.size + 1, 1, none⟩ y).setCell ⟨w.heap.size + 1, 2, none⟩ z).setCell ⟨w.heap.size + 1, 3, none⟩ u).cell? ⟨w.heap.size, j, none⟩ = X.cell? ⟨w.heap.size, j, none⟩ := fun j => World.cell?_of_block (put4_block X (w.heap.size + 1) x y z u w.heap.size (by omega))
 exact ⟨hr, ⟨hr.bel, by rw [put4_size]; exact h.b.lt, (hc 0).trans h.b.c0, (hc 1).trans h.b.c1, (hc 2).trans h.b.c2, (hc 3).trans h.b.c3⟩⟩
end Hb
namespace Go.Proofs.YtfkhcpeahdkafaaGreat
open Go.RowKit Hb
set_option maxRecDepth 100000
end Go.Proofs.YtfkhcpeahdkafaaGreat
namespace Hb
open Go Go.RowKit
theorem ren_congr {f g : Int → Int} : ∀ t : Tm, Tm.All (fun x => x.kind = 0 → f x.num = g x.num) t → ren f t = ren g t := Tm.ind fun t ih h => by
 rw [ren_eq f, ren_eq g]
 have e1 : (if t.kind = 0 then f t.num else t.num) = (if t.kind = 0 then g t.num else t.num) := by
  by_cases c : t.kind = 0
  ·rw [if_pos c, if_pos c, h.here c]
  ·rw [if_neg c, if_neg c]
 rw [e1, List.map_congr_left fun a ha => ih a ha (h.sub a ha)]
theorem varH_pre (t : Tm) (acc : List Int) : ∃ l, varH t acc = acc ++ l := by
 unfold varH
 split
 ·exact ⟨_, rfl⟩
 ·exact ⟨[], by simp⟩
theorem varsT_pre : ∀ (t : Tm) (acc : List Int), ∃ l, varsT t acc = acc ++ l := by
 refine Tm.ind fun t ih => ?_
 intro acc
 have key : ∀ (l : List Tm), (∀ a ∈ l, a ∈ t.args) → ∀ ac : List Int, ∃ m, l.foldl (fun acc a => varsT a acc) ac = ac ++ m := by
  intro l
  induction l with
  | nil => intro _ ac; exact ⟨[], by simp⟩
  | cons a l ihl =>
   intro hl ac
   obtain ⟨m1, h1⟩ := ih a (hl a (List.mem_cons_self ..)) ac
   obtain ⟨m2, h2⟩ := ihl (fun x hx => hl x (List.mem_cons_of_mem _ hx)) (varsT a ac)
   exact ⟨m1 ++ m2, by rw [List.foldl_cons, h2, h1, List.append_assoc]⟩
 obtain ⟨m1, h1⟩ := varH_pre t acc
 obtain ⟨m2, h2⟩ := key t.args (fun _ h => h) (varH t acc)
 exact ⟨m1 ++ m2, by rw [varsT_eq, h2, h1, List.append_assoc]⟩
theorem posI_pre {acc l : List Int} {x : Int} (h : x ∈ acc) : posI (acc ++ l) x = posI acc x := by
 unfold posI
 rw [if_pos h, if_pos (List.mem_append_left _ h), List.idxOf_append, if_pos h]
theorem posI_new {acc : List Int} {x : Int} (h : x ∉ acc) : posI (acc ++ [x]) x = acc.length := by
 unfold posI
 rw [if_pos (by simp), List.idxOf_append, if_neg h]
 simp
def accL (l : List Tm) (acc : List Int) : List Int := l.foldl (fun acc a => varsT a acc) acc
theorem accL_snoc (l : List Tm) (a : Tm) (acc : List Int) : accL (l ++ [a]) acc = varsT a (accL l acc) := by unfold accL; rw [List.foldl_append]; rfl
theorem ren_row : ∀ (l : List Tm) (acc m : List Int), l.map (ren (posI (accL l acc ++ m))) = l.map (ren (posI (accL l acc))) := by
 intro l acc m
 have all : ∀ (l : List Tm) (acc : List Int), (∀ n ∈ acc, n ∈ accL l acc) ∧ ∀ a ∈ l, Tm.All (fun x => x.kind = 0 → x.num ∈ accL l acc) a := by
  intro l
  induction l with
  | nil => intro acc; exact ⟨fun n hn => hn, fun a ha => by cases ha⟩
  | cons b l ih =>
   intro acc
   obtain ⟨h1, h2⟩ := ih (varsT b acc)
   obtain ⟨k1, _, k3⟩ := varsT_all b acc
   refine ⟨fun n hn => h1 n (k1 n hn), fun a ha => ?_⟩
   rcases List.mem_cons.1 ha with rfl | ha
   ·exact Tm.All.imp (fun x hx c => h1 _ (hx c)) _ k3
   ·exact h2 a ha
 exact List.map_congr_left fun a ha => ren_congr a (Tm.All.imp (fun _ h c => posI_pre (h c)) a ((all l acc).2 a ha))
theorem ren_step (l : List Tm) (a : Tm) (acc : List Int) : (l ++ [a]).map (ren (posI (accL (l ++ [a]) acc))) = l.map (ren (posI (accL l acc))) ++ [ren (posI (varsT a (accL l acc))) a] := by
 rw [accL_snoc, List.map_append]
 obtain ⟨m, hm⟩ := varsT_pre a (accL l acc)
 have := ren_row l acc m
 rw [← hm] at this
 rw [this]; rfl
def keyL (x : Int) : Lit := .int .i64 x
theorem keyL_ne {x y : Int} (h : x ≠ y) : keyL x ≠ keyL y := fun e => h (by injection e)
structure MapIs (P : Program) (k e : TypeId) (w : World) (b : Nat) (acc : List Int) (n : Nat) (D : DataW Unit) : Prop where
 own : w.ownsMap P k (plainElem P e) b n D
 few : n ≤ acc.length
 has : ∀ x, Maps.has D (keyL x) = decide (x ∈ acc)
 at_ : ∀ x z, x ∈ acc → D.atKey (keyL x) z = .lit (.int .i64 (posI acc x))
 size : Maps.size D = acc.length
theorem MapIs.start (w : World) (P : Program) (k e : TypeId) : MapIs P k e (w.alloc (.map #[] 0)) w.heap.size [] 0 (.map []) where
 own := World.ownsMap_made w P k _
 few := Nat.le_refl _
 has := fun x => by rw [Maps.has_eq]; simp
 at_ := fun x _ h => by cases h
 size := rfl
theorem MapIs.put {P : Program} {k e : TypeId} (K : Maps.Keyed P k) {w w' : World} {b : Nat} {acc : List Int} {n : Nat} {D : DataW Unit} (h : MapIs P k e w b acc n D) {x : Int} (hx : x ∉ acc) (ho : w'.ownsMap P k (plainElem P e) b (n + 1) (D.put (keyL x) (.lit (.int .i64 acc.length)))) (hk : WideAt.IsKeyLit (keyL x)) :
  MapIs P k e w' b (acc ++ [x]) (n + 1) (D.put (keyL x) (.lit (.int .i64 acc.length))) where
 own := ho
 few := by have := h.few; simp; omega
 has := fun y => by
  by_cases c : y = x
  ·subst c; rw [Maps.has_put_same h.own.isMap hk]; simp
  ·rw [Maps.has_put_other (keyL_ne c), h.has]; simp [c]
 at_ := fun y z hy => by
  by_cases c : y = x
  ·subst c; rw [Maps.atKey_put_same h.own.isMap hk, posI_new hx]
  ·have hm : y ∈ acc := by
    rcases List.mem_append.1 hy with h1 | h1
    ·exact h1
    ·exact absurd (List.mem_singleton.1 h1) c
   rw [Maps.atKey_put_other (keyL_ne c), h.at_ y z hm, posI_pre hm]
 size := by rw [Maps.size_put (h.own.tidy K), h.has, decide_eq_false hx, h.size]; simp
theorem MapIs.kept {P : Program} {k e : TypeId} {w w' : World} {b : Nat} {acc : List Int} {n : Nat} {D : DataW Unit} (h : MapIs P k e w b acc n D) {row : Option Nat} (hg : w.grownBy w' row) (hne : some b ≠ row) : MapIs P k e w' b acc n D := ⟨h.own.kept hg hne, h.few, h.has, h.at_, h.size⟩
end Hb
namespace Hb
open Go Go.RowKit
structure Bx (mb B : Nat) (w w' : World) : Prop where
 os : w'.os = w.os
 tape : w'.tape = w.tape
 output : w'.output = w.output
 size : w.heap.size ≤ w'.heap.size
 block : ∀ k, k < B → k ≠ mb → w'.heap[k]? = w.heap[k]?
section
variable {mb B B' : Nat} {a w w' : World}
theorem Bx.of (h : Below B w w') : Bx mb B w w' := ⟨h.os, h.tape, h.output, h.size, fun k hk _ => h.block k hk⟩
theorem Bx.refl (mb B : Nat) (w : World) : Bx mb B w w := Bx.of (Below.refl B w)
theorem Bx.trans (h : Bx mb B a w) (k : Bx mb B w w') : Bx mb B a w' := ⟨k.os.trans h.os, k.tape.trans h.tape, k.output.trans h.output, Nat.le_trans h.size k.size, fun i hi hne => (k.block i hi hne).trans (h.block i hi hne)⟩
theorem Bx.mono (h : Bx mb B w w') (hB : B' ≤ B) : Bx mb B' w w' := ⟨h.os, h.tape, h.output, h.size, fun k hk => h.block k (Nat.lt_of_lt_of_le hk hB)⟩
theorem Bx.grown {row : Option Nat} (h : Bx mb B a w) (hg : w.grownBy w' row) (hB : B ≤ w.heap.size) (hr : ∀ k, row = some k → B ≤ k ∨ k = mb) : Bx mb B a w' :=
 h.trans ⟨hg.os, hg.tape, hg.output, hg.size, fun k hk hne => hg.block k (by omega) (fun e => by have := hr k e.symm; omega)⟩
theorem Bx.setCell (h : Bx mb B a w) {p : Addr} (hp : B ≤ p.block) (v : Value) : Bx mb B a (w.setCell p v) :=
 h.trans (Bx.of ((Below.refl B w).setCell hp v))
theorem Bx.cell (h : Bx mb B w w') {p : Addr} (hp : p.block < B) (hne : p.block ≠ mb) : w'.cell? p = w.cell? p := World.cell?_of_block (w := w) (h.block p.block hp hne)
theorem Bx.frozen (h : Bx mb B w w') {p : Addr} (hp : p.block < B) (hne : p.block ≠ mb) : w'.frozen? p = w.frozen? p := World.frozen?_of_block (w := w) (h.block p.block hp hne)
theorem Bx.below (h : Bx mb B w w') (hm : w'.heap[mb]? = w.heap[mb]?) : Below B w w' := ⟨h.os, h.tape, h.output, h.size, fun k hk => by
 by_cases e : k = mb
 ·subst e; exact hm
 ·exact h.block k hk e⟩
theorem Bx.new (h : Bx mb B w w') (hm : B ≤ mb) : Below B w w' := ⟨h.os, h.tape, h.output, h.size, fun k hk => h.block k hk (by omega)⟩
end
structure CpX (mb : Nat) (w0 w : World) (e : TypeId) (t : Tm) (A : Option Addr) (cap : Nat) (v : Value) (rs : List TR) : Prop where
 bel : Bx mb w0.heap.size w0 w
 mlt : mb < w0.heap.size
 lt : w0.heap.size + 3 ≤ w.heap.size
 b3 : w.cell? ⟨w0.heap.size, 3, none⟩ = some (.slice A t.args.length cap)
 r0 : ∃ u, w.cell? ⟨w0.heap.size + 1, 0, none⟩ = some u
 r1 : ∃ u, w.cell? ⟨w0.heap.size + 1, 1, none⟩ = some u
 r2 : ∃ u, w.cell? ⟨w0.heap.size + 1, 2, none⟩ = some u
 r3 : ∃ u, w.cell? ⟨w0.heap.size + 1, 3, none⟩ = some u
 rf : ∀ o, w.frozen? ⟨w0.heap.size + 1, o, none⟩ = false
 c0 : w.cell? ⟨w0.heap.size + 2, 0, none⟩ = some (.int .i64 t.kind)
 c1 : w.cell? ⟨w0.heap.size + 2, 1, none⟩ = some (.int .i64 t.num)
 c2 : w.cell? ⟨w0.heap.size + 2, 2, none⟩ = some (.string t.name)
 c3 : w.cell? ⟨w0.heap.size + 2, 3, none⟩ = some v
 cf : ∀ o, w.frozen? ⟨w0.heap.size + 2, o, none⟩ = false
 own : OwnR (w0.heap.size + 3) e w v rs
section
variable {mb : Nat} {w0 w w' : World} {e : TypeId} {t : Tm} {A : Option Addr} {cap : Nat} {v : Value} {rs : List TR}
theorem CpX.call (h : CpX mb w0 w e t A cap v rs) (hB : Bx mb w.heap.size w w') : CpX mb w0 w' e t A cap v rs := by
 have hl := h.lt
 have hm := h.mlt
 have hc : ∀ b o, w0.heap.size ≤ b → b < w0.heap.size + 3 → w'.cell? ⟨b, o, none⟩ = w.cell? ⟨b, o, none⟩ := fun b o h0 hb => hB.cell (p := ⟨b, o, none⟩) (by show b < _; omega) (by show b ≠ _; omega)
 have hf : ∀ b o, w0.heap.size ≤ b → b < w0.heap.size + 3 → w'.frozen? ⟨b, o, none⟩ = w.frozen? ⟨b, o, none⟩ := fun b o h0 hb => hB.frozen (p := ⟨b, o, none⟩) (by show b < _; omega) (by show b ≠ _; omega)
 exact ⟨h.bel.trans (hB.mono (by omega)), h.mlt, Nat.le_trans hl hB.size, (hc _ _ (by omega) (by omega)).trans h.b3, h.r0.imp fun _ k => (hc _ _ (by omega) (by omega)).trans k, h.r1.imp fun _ k => (hc _ _ (by omega) (by omega)).trans k, h.r2.imp fun _ k => (hc _ _ (by omega) (by omega)).trans k, h.r3.imp fun _ k => (hc _ _ (by omega) (by omega)).trans k,
  fun o => (hf _ _ (by omega) (by omega)).trans (h.rf o), (hc _ _ (by omega) (by omega)).trans h.c0, (hc _ _ (by omega) (by omega)).trans h.c1, (hc _ _ (by omega) (by omega)).trans h.c2, (hc _ _ (by omega) (by omega)).trans h.c3, fun o => (hf _ _ (by omega) (by omega)).trans (h.cf o), h.own.keep hB.size (fun b h1 h2 => hB.block b h2 (by omega))⟩
theorem CpX.drew (h : CpX mb w0 w e t A cap v rs) : CpX mb w0 w.drew e t A cap v rs := h.call (Bx.of (Below.refl w.heap.size w).drew)
theorem CpX.far (h : CpX mb w0 w e t A cap v rs) (hg : w.grownBy w' v.ownBlock) (b o : Nat) (hb : b < w0.heap.size + 3) : w'.cell? ⟨b, o, none⟩ = w.cell? ⟨b, o, none⟩ ∧ w'.frozen? ⟨b, o, none⟩ = w.frozen? ⟨b, o, none⟩ := by
 have hl := h.lt
 have hne : some b ≠ v.ownBlock := fun e => by have := (h.own.own.lt b e.symm).1; omega
 exact ⟨hg.cell_far ⟨b, o, none⟩ (by show b < _; omega) hne, hg.frozen_far ⟨b, o, none⟩ (by show b < _; omega) hne⟩
theorem CpX.app (h : CpX mb w0 w e t A cap v rs) (r : TR) (hr : TmsK (fun b => w0.heap.size + 3 ≤ b ∧ b < w.heap.size ∧ v.ownBlock ≠ some b) w r.2.1 r.1.args) {v' : Value} {w2 : World}
  (hown : w2.ownsRow (w0.heap.size + 3) e 4 v' (rs.length + 1) (rowsC rs ++ rowC r)) (hg : w.grownBy w2 v.ownBlock) (hat : v'.ownBlock = v.ownBlock ∨ v'.ownBlock = some w.heap.size) : CpX mb w0 (w2.setCell ⟨w0.heap.size + 2, 3, none⟩ v') e t A cap v' (rs ++ [r]) := by
 have hl := h.lt
 have hO := h.own.snoc r hr hown hg hat
 have hbel : Bx mb w0.heap.size w0 w2 := h.bel.grown hg (by omega) (fun k hk => .inl (by have := (h.own.own.lt k hk).1; omega))
 have hc : ∀ b o, b < w0.heap.size + 3 → (b ≠ w0.heap.size + 2 ∨ o ≠ 3) → (w2.setCell ⟨w0.heap.size + 2, 3, none⟩ v').cell? ⟨b, o, none⟩ = w.cell? ⟨b, o, none⟩ := fun b o hb hne => by
  rw [World.cell?_setCell_other _ _ _ _ (by intro e; injection e with e1 e2 _; rcases hne with hne | hne <;> omega)]
  exact (h.far hg b o hb).1
 have hf : ∀ b o, b < w0.heap.size + 3 → (w2.setCell ⟨w0.heap.size + 2, 3, none⟩ v').frozen? ⟨b, o, none⟩ = w.frozen? ⟨b, o, none⟩ := fun b o hb => by
  rw [World.frozen?_setCell]; exact (h.far hg b o hb).2
 refine ⟨hbel.setCell (p := ⟨_, _, none⟩) (by show w0.heap.size ≤ w0.heap.size + 2; omega) _, h.mlt, by have := hg.size; simp; omega, (hc _ _ (by omega) (.inl (by omega))).trans h.b3, h.r0.imp fun _ k => (hc _ _ (by omega) (.inl (by omega))).trans k, h.r1.imp fun _ k => (hc _ _ (by omega) (.inl (by omega))).trans k, h.r2.imp fun _ k => (hc _ _ (by omega) (.inl (by omega))).trans k, h.r3.imp fun _ k => (hc _ _ (by omega) (.inl (by omega))).trans k,
  fun o => (hf _ _ (by omega)).trans (h.rf o), (hc _ _ (by omega) (.inr (by omega))).trans h.c0, (hc _ _ (by omega) (.inr (by omega))).trans h.c1, (hc _ _ (by omega) (.inr (by omega))).trans h.c2, World.cell?_setCell_same _ _ _ ((h.far hg _ _ (by omega)).1.trans h.c3), fun o => (hf _ _ (by omega)).trans (h.cf o), hO.keep (by simp) fun b hb _ => heap_setCell_other w2 ⟨w0.heap.size + 2, 3, none⟩ b v' (fun e => by simp at e; omega)⟩
end
theorem CpX.start {mb : Nat} (w : World) (hm : mb < w.heap.size) (t : Tm) (A : Option Addr) (cap LN : Nat) (e : TypeId) (hL : LN = t.args.length) :
  CpX mb w ((((w.alloc (.cells #[.int .i64 t.kind, .int .i64 t.num, .string t.name, .slice A LN cap] e)).alloc (.cells #[.int .i64 0, .int .i64 0, .string ⟨#[]⟩, .slice none 0 0] e)).alloc (.cells #[.int .i64 t.kind, .int .i64 t.num, .string t.name, .slice none 0 0] e))) e t A cap (.slice none 0 0) [] := by
 obtain ⟨W1, hW1⟩ : ∃ W1, W1 = w.alloc (.cells #[.int .i64 t.kind, .int .i64 t.num, .string t.name, .slice A LN cap] e) := ⟨_, rfl⟩
 obtain ⟨W2, hW2⟩ : ∃ W2, W2 = W1.alloc (.cells #[.int .i64 0, .int .i64 0, .string ⟨#[]⟩, .slice none 0 0] e) := ⟨_, rfl⟩
 rw [← hW1, ← hW2]
 have s1 : W1.heap.size = w.heap.size + 1 := by rw [hW1]; simp
 have s2 : W2.heap.size = w.heap.size + 2 := by rw [hW2]; simp; omega
 have hB2 : Below W1.heap.size W1 W2 := by rw [hW2]; exact (Below.refl _ _).alloc (Nat.le_refl _) _
 have hB3 : Below W2.heap.size W2 (W2.alloc (.cells #[.int .i64 t.kind, .int .i64 t.num, .string t.name, .slice none 0 0] e)) := (Below.refl _ _).alloc (Nat.le_refl _) _
 have hB1 : Below w.heap.size w W1 := by rw [hW1]; exact (Below.refl _ _).alloc (Nat.le_refl _) _
 have a3 : W1.cell? ⟨w.heap.size, 3, none⟩ = some (.slice A t.args.length cap) := by rw [hW1, ← hL]; exact World.cell?_alloc_new _ _ _ 3
 have r : ∀ j u, (#[.int .i64 0, .int .i64 0, .string ⟨#[]⟩, .slice none 0 0] : Array Value)[j]? = some u → W2.cell? ⟨w.heap.size + 1, j, none⟩ = some u := fun j u hu => by
  have := World.cell?_alloc_new W1 #[.int .i64 0, .int .i64 0, .string ⟨#[]⟩, .slice none 0 0] e j
  rw [s1, ← hW2] at this; rw [this]; exact hu
 have rf : ∀ o, W2.frozen? ⟨w.heap.size + 1, o, none⟩ = false := fun o => by
  have := World.frozen?_alloc_at (w := W1) #[.int .i64 0, .int .i64 0, .string ⟨#[]⟩, .slice none 0 0] e (w.heap.size + 1) o s1.symm
  rw [← hW2] at this; exact this
 have c : ∀ j, (W2.alloc (.cells #[.int .i64 t.kind, .int .i64 t.num, .string t.name, .slice none 0 0] e)).cell? ⟨w.heap.size + 2, j, none⟩ = (#[.int .i64 t.kind, .int .i64 t.num, .string t.name, .slice none 0 0] : Array Value)[j]? := fun j => by
  have := World.cell?_alloc_new W2 #[.int .i64 t.kind, .int .i64 t.num, .string t.name, .slice none 0 0] e j
  rw [s2] at this; exact this
 have k2 : ∀ o, (W2.alloc (.cells #[.int .i64 t.kind, .int .i64 t.num, .string t.name, .slice none 0 0] e)).cell? ⟨w.heap.size + 1, o, none⟩ = W2.cell? ⟨w.heap.size + 1, o, none⟩ := fun o => hB3.cell (p := ⟨w.heap.size + 1, o, none⟩) (show w.heap.size + 1 < W2.heap.size by omega)
 refine ⟨Bx.of ((hB1.trans (hB2.mono (by omega))).trans (hB3.mono (by omega))), hm, by simp; omega, ?_, ⟨_, (k2 0).trans (r 0 _ rfl)⟩, ⟨_, (k2 1).trans (r 1 _ rfl)⟩, ⟨_, (k2 2).trans (r 2 _ rfl)⟩, ⟨_, (k2 3).trans (r 3 _ rfl)⟩, fun o => ?_, c 0, c 1, c 2, c 3, fun o => ?_, OwnR.nul _ _ _⟩
 ·rw [hB3.cell (p := ⟨w.heap.size, 3, none⟩) (show w.heap.size < W2.heap.size by omega), hB2.cell (p := ⟨w.heap.size, 3, none⟩) (show w.heap.size < W1.heap.size by omega)]; exact a3
 ·rw [hB3.frozen (p := ⟨w.heap.size + 1, o, none⟩) (show w.heap.size + 1 < W2.heap.size by omega)]; exact rf o
 ·exact World.frozen?_alloc_at (w := W2) _ _ (w.heap.size + 2) o s2.symm
theorem CpX.put {mb : Nat} {w0 w : World} {e : TypeId} {t : Tm} {A : Option Addr} {cap : Nat} {v : Value} {rs : List TR} (h : CpX mb w0 w e t A cap v rs) (x0 x1 x2 x3 : Value) :
  Bx mb w0.heap.size w0 ((((w.setCell ⟨w0.heap.size + 1, 0, none⟩ x0).setCell ⟨w0.heap.size + 1, 1, none⟩ x1).setCell ⟨w0.heap.size + 1, 2, none⟩ x2).setCell ⟨w0.heap.size + 1, 3, none⟩ x3) ∧
  OwnR (w0.heap.size + 3) e ((((w.setCell ⟨w0.heap.size + 1, 0, none⟩ x0).setCell ⟨w0.heap.size + 1, 1, none⟩ x1).setCell ⟨w0.heap.size + 1, 2, none⟩ x2).setCell ⟨w0.heap.size + 1, 3, none⟩ x3) v rs := by
 have hle : w0.heap.size ≤ w0.heap.size + 1 := by omega
 refine ⟨((((h.bel.setCell (p := ⟨_, _, none⟩) hle _).setCell (p := ⟨_, _, none⟩) hle _).setCell (p := ⟨_, _, none⟩) hle _).setCell (p := ⟨_, _, none⟩) hle _), h.own.keep (by simp) fun b hb _ => ?_⟩
 have hne : ∀ o, b ≠ (⟨w0.heap.size + 1, o, none⟩ : Addr).block := fun o e => by simp at e; omega
 rw [heap_setCell_other _ _ _ _ (hne _), heap_setCell_other _ _ _ _ (hne _), heap_setCell_other _ _ _ _ (hne _), heap_setCell_other _ _ _ _ (hne _)]
end Hb
namespace Go.Proofs.YtfkhcpeahdkafaaGreat
open Go.RowKit Hb
set_option maxRecDepth 100000
structure CnS (w : World) (mb m0 : Nat) (acc : List Int) : Prop where
 map : ∃ n D, MapIs Tryz.prog 2 2 w mb acc n D
 cell : w.cell? ⟨m0, 0, none⟩ = some (.map (some mb))
 lt : m0 < w.heap.size
 ltm : mb < w.heap.size
 ne : m0 ≠ mb
theorem CnS.below {w w' : World} {mb m0 : Nat} {acc : List Int} (h : CnS w mb m0 acc) (hB : Below w.heap.size w w') : CnS w' mb m0 acc where
 map := by
  obtain ⟨n, D, hm⟩ := h.map
  exact ⟨n, D, hm.kept (row := none) ⟨hB.os, hB.tape, hB.output, hB.size, fun k hk _ => hB.block k hk⟩ (by simp)⟩
 cell := (hB.cell (p := ⟨m0, 0, none⟩) h.lt).trans h.cell
 lt := Nat.lt_of_lt_of_le h.lt hB.size
 ltm := Nat.lt_of_lt_of_le h.ltm hB.size
 ne := h.ne
theorem wf64 {x : Int} (h0 : 0 ≤ x) (h1 : x ≤ 1099511627776) : (Lit.int .i64 x).wf = true := by
 have e1 : IntKind.i64.min = -9223372036854775808 := rfl
 have e2 : IntKind.i64.max = 9223372036854775807 := rfl
 simp only [Lit.wf, e1, e2, Bool.and_eq_true, decide_eq_true_iff]
 omega
theorem zeroI64 (w : World) : (zeroValue 2).run Tryz.prog w = .ok (.int .i64 0) w := by kernel_rfl
structure RX (w0 : World) (mb : Nat) (w : World) : Prop where
 bel : Bx mb w0.heap.size w0 w
 ltm : mb < w0.heap.size
 lt : w0.heap.size + 1 < w.heap.size
 r0 : ∃ v, w.cell? ⟨w0.heap.size + 1, 0, none⟩ = some v
 r1 : ∃ v, w.cell? ⟨w0.heap.size + 1, 1, none⟩ = some v
 r2 : ∃ v, w.cell? ⟨w0.heap.size + 1, 2, none⟩ = some v
 r3 : ∃ v, w.cell? ⟨w0.heap.size + 1, 3, none⟩ = some v
 fr : ∀ o, w.frozen? ⟨w0.heap.size + 1, o, none⟩ = false
theorem RX.step {w0 w w' : World} {mb : Nat} (h : RX w0 mb w) (hB : Bx mb w.heap.size w w') : RX w0 mb w' := by
 have hm := h.ltm
 have hne : w0.heap.size + 1 ≠ mb := by omega
 have hl := h.lt
 exact ⟨h.bel.trans (hB.mono (by omega)), hm, Nat.lt_of_lt_of_le hl hB.size, h.r0.imp fun _ k => (hB.cell (p := ⟨_, _, none⟩) hl hne).trans k, h.r1.imp fun _ k => (hB.cell (p := ⟨_, _, none⟩) hl hne).trans k, h.r2.imp fun _ k => (hB.cell (p := ⟨_, _, none⟩) hl hne).trans k, h.r3.imp fun _ k => (hB.cell (p := ⟨_, _, none⟩) hl hne).trans k, fun o => (hB.frozen (p := ⟨_, o, none⟩) hl hne).trans (h.fr o)⟩
theorem RX.new {w0 w w' : World} {mb : Nat} (h : RX w0 mb w) (hg : w.grownBy w' (some mb)) : RX w0 mb w' :=
 h.step ((Bx.refl mb w.heap.size w).grown hg (Nat.le_refl _) (fun k e => .inr (by injection e with e; exact e.symm)))
theorem RX.start (w : World) (mb : Nat) (hm : mb < w.heap.size) (a b c d : Value) (e : TypeId) : RX w mb ((w.alloc (.cells #[a, b, c, d] e)).alloc (.cells #[.int .i64 0, .int .i64 0, .string ⟨#[]⟩, .slice none 0 0] e)) := by
 have hr := R4.start (w0 := w) (w := w.alloc (.cells #[a, b, c, d] e)) ((Below.refl _ _).alloc (Nat.le_refl _) _) (.int .i64 0) (.int .i64 0) (.string ⟨#[]⟩) (.slice none 0 0) e
 have hs : (w.alloc (.cells #[a, b, c, d] e)).heap.size = w.heap.size + 1 := by simp
 rw [hs] at hr
 exact ⟨Bx.of hr.bel, hm, hr.lt, hr.r0, hr.r1, hr.r2, hr.r3, hr.fr⟩
theorem RX.put {w0 w : World} {mb : Nat} (h : RX w0 mb w) (x y z u : Value) : Bx mb w0.heap.size w0 ((((w.setCell ⟨w0.heap.size + 1, 0, none⟩ x).setCell ⟨w0.heap.size + 1, 1, none⟩ y).setCell ⟨w0.heap.size + 1, 2, none⟩ z).setCell ⟨w0.heap.size + 1, 3, none⟩ u) :=
 (((h.bel.setCell (p := ⟨_, _, none⟩) (Nat.le_succ _) _).setCell (p := ⟨_, _, none⟩) (Nat.le_succ _) _).setCell (p := ⟨_, _, none⟩) (Nat.le_succ _) _).setCell (p := ⟨_, _, none⟩) (Nat.le_succ _) _
theorem CnS.blocks {w w' : World} {mb m0 : Nat} {acc : List Int} (h : CnS w mb m0 acc) (hs : w.heap.size ≤ w'.heap.size) (hb : w'.heap[mb]? = w.heap[mb]?) (h0 : w'.heap[m0]? = w.heap[m0]?) : CnS w' mb m0 acc where
 map := by
  obtain ⟨n, D, ⟨es, ck, hh, rest⟩, a, b, c, d⟩ := h.map
  exact ⟨n, D, ⟨es, ck, hb.trans hh, rest⟩, a, b, c, d⟩
 cell := (World.cell?_of_block (a := ⟨m0, 0, none⟩) h0).trans h.cell
 lt := Nat.lt_of_lt_of_le h.lt hs
 ltm := Nat.lt_of_lt_of_le h.ltm hs
 ne := h.ne
set_option maxHeartbeats 3200000 in
theorem canon_1 (t : Tm) (A : Option Addr) (cap : Nat) (w : World) (mb m0 : Nat) (acc : List Int) (hk : t.kind = 0) (hok : nodeOk t = true) (hS : CnS w mb m0 acc) (hlen : acc.length ≤ 100000) :
  Calls Tryz.prog 112 #[tmV t A cap, .pointer (some ⟨m0, 0, none⟩)] w fun e w' => e = .returned (.agg #[.int .i64 0, .int .i64 (posI (varH t acc) t.num), .string ⟨#[]⟩, .slice none 0 0]) ∧ Bx mb w.heap.size w w' ∧ CnS w' mb m0 (varH t acc) := by
 have hx : 0 ≤ t.num ∧ t.num ≤ 1099511627776 := by unfold nodeOk at hok; rw [if_pos hk] at hok; simp at hok; omega
 have hkey := Maps.keyOf_int_mk (P := Tryz.prog) Tryz.underlying2 (wf64 hx.1 hx.2)
 have HVH : Hid (varH t acc = if t.num ∉ acc then acc ++ [t.num] else acc) := Lib.hid (by unfold varH; simp [hk])
 obtain ⟨n, D, hm⟩ := hS.map
 unfold tmV
 rw [hk]
 generalize t.num = x at *
 generalize t.name = nm at *
 generalize t.args.length = al at *
 generalize varH t acc = acc2 at *
 have hW : Below w.heap.size w ((w.alloc (.cells #[.int .i64 0, .int .i64 x, .string nm, .slice A al cap] 26)).alloc (.cells #[.int .i64 0, .int .i64 0, .string ⟨#[]⟩, .slice none 0 0] 26)) := ((Below.refl _ _).alloc (Nat.le_refl _) _).alloc (by simp) _
 have hS2 := hS.below hW
 have hm2 := hm.kept (row := none) (w' := (w.alloc (.cells #[.int .i64 0, .int .i64 x, .string nm, .slice A al cap] 26)).alloc (.cells #[.int .i64 0, .int .i64 0, .string ⟨#[]⟩, .slice none 0 0] 26)) ⟨hW.os, hW.tape, hW.output, hW.size, fun k hk _ => hW.block k hk⟩ (by simp)
 have c0 := hS.cell
 have hl0 := hS.lt
 go_enter Tryz.func112, Tryz.ntmps112
 by_cases hin : x ∈ acc
 ·have hat0 := hm.at_ x (.lit (.int .i64 0)) hin
  have hhas : Maps.has D (.int .i64 x) = true := by have := hm.has x; rw [decide_eq_true hin] at this; exact this
  have HF : Hid (∀ c, Below w.heap.size w ((w.alloc (.cells #[.int .i64 0, .int .i64 x, .string nm, .slice A al cap] 26)).alloc (.cells #[.int .i64 0, .int .i64 c, .string ⟨#[]⟩, .slice none 0 0] 26))) := Lib.hid fun c => ((Below.refl _ _).alloc (Nat.le_refl _) _).alloc (by simp) _
  have HS := Lib.hid hS
  clear hS2 hW hS
  go_wp2_with (at_lookup; go_must (refine wpList_lookup_own_ok_int _ rfl _ _ 127 rfl 2 2 .i64 (Maps.int_keyed Tryz.underlying2) Tryz.underlying127 Tryz.underlying2 (zeroI64 _) mb n D rfl hm2.own _ _ rfl hkey ?_; intro c hat hwc; rw [hhas]))
  have hc : c = posI acc x := by
   have h := hat.symm.trans hat0
   injection h with h; injection h
  have he : acc2 = acc := by rw [HVH.out, if_neg (fun h => h hin)]
  subst he
  exact bodyPost_ret (v := .agg #[.int .i64 0, .int .i64 c, .string ⟨#[]⟩, .slice none 0 0]) (by simp [results, Tryz.results112, go_sem]) rfl ⟨by rw [hc], Bx.of (HF.out c), HS.out.below (HF.out c)⟩
 ·have hhas : Maps.has D (.int .i64 x) = false := by have := hm.has x; rw [decide_eq_false hin] at this; exact this
  have hval : plainElem (H := Unit) Tryz.prog 2 (.int .i64 (acc.length : Nat)) = some (.lit (.int .i64 (acc.length : Nat)), []) := plainElem_int Tryz.underlying2 (wf64 (by omega) (by omega))
  have hnm : n < maxLen := by have := hm.few; unfold maxLen; omega
  have hX : RX w mb ((w.alloc (.cells #[.int .i64 0, .int .i64 x, .string nm, .slice A al cap] 26)).alloc (.cells #[.int .i64 0, .int .i64 0, .string ⟨#[]⟩, .slice none 0 0] 26)) := RX.start w mb hS.ltm _ _ _ _ _
  have HS := Lib.hid hS2
  have he : acc2 = acc ++ [x] := by rw [HVH.out, if_pos hin]
  have HPI := Lib.hid (posI_new hin)
  clear hS2 hW hS
  go_wp2_with (first | (at_lookup; go_must (refine wpList_lookup_own_ok_int _ rfl _ _ 127 rfl 2 2 .i64 (Maps.int_keyed Tryz.underlying2) Tryz.underlying127 Tryz.underlying2 (zeroI64 _) mb n D rfl hm2.own _ _ rfl hkey ?_; intro c hat hwc; rw [hhas])) | (at_len; go_must (refine wpList_len_own _ rfl _ 127 rfl 2 2 Tryz.underlying127 _ mb n D rfl hm2.own ?_; rw [hm.size])) | (at_mapUpdate; go_must (refine wpList_mapUpdate_own _ rfl _ _ _ 127 rfl 2 2 (Maps.int_keyed Tryz.underlying2) Tryz.underlying127 _ mb n D rfl hm2.own hnm _ _ _ rfl rfl hkey (.lit (.int .i64 acc.length)) [] hval ?_; intro w1 hown1 hgrow1; have HG1 := hX.new hgrow1; obtain ⟨u0, r0⟩ := HG1.r0; obtain ⟨u1, r1⟩ := HG1.r1; obtain ⟨u2, r2⟩ := HG1.r2; obtain ⟨u3, r3⟩ := HG1.r3; have f0 := HG1.fr 0; have f1 := HG1.fr 1; have f2 := HG1.fr 2; have f3 := HG1.fr 3)))
  have hP := HG1.put (.int .i64 0) (.int .i64 acc.length) (.string ⟨#[]⟩) (.slice none 0 0)
  have hM1 := MapIs.put (Maps.int_keyed Tryz.underlying2) hm2 hin hown1 trivial
  have hS1 : CnS w1 mb m0 (acc ++ [x]) := ⟨⟨_, _, hM1⟩, (hgrow1.cell_far ⟨m0, 0, none⟩ HS.out.lt (fun e => HS.out.ne (by injection e))).trans HS.out.cell, Nat.lt_of_lt_of_le HS.out.lt hgrow1.size, Nat.lt_of_lt_of_le HS.out.ltm hgrow1.size, HS.out.ne⟩
  have hlm := HG1.ltm
  have hS3 := hS1.blocks (w' := (((w1.setCell ⟨w.heap.size + 1, 0, none⟩ (.int .i64 0)).setCell ⟨w.heap.size + 1, 1, none⟩ (.int .i64 acc.length)).setCell ⟨w.heap.size + 1, 2, none⟩ (.string ⟨#[]⟩)).setCell ⟨w.heap.size + 1, 3, none⟩ (.slice none 0 0)) (by simp) (put4_block _ _ _ _ _ _ _ (by omega)) (put4_block _ _ _ _ _ _ _ (by omega))
  exact bodyPost_ret (v := .agg #[.int .i64 0, .int .i64 acc.length, .string ⟨#[]⟩, .slice none 0 0]) (by simp [results, Tryz.results112, go_sem, r0, r1, r2, r3]) rfl ⟨by rw [he, HPI.out], hP, by rw [he]; exact hS3⟩
end Go.Proofs.YtfkhcpeahdkafaaGreat
namespace Hb
open Go Go.RowKit
noncomputable def eqT (t u : Tm) : Bool := @decide (t = u) (Classical.propDecidable _)
theorem eqT_yes {t u : Tm} (h : t = u) : eqT t u = true := by unfold eqT; simp [h]
theorem eqT_no {t u : Tm} (h : ¬ t = u) : eqT t u = false := by unfold eqT; simp [h]
theorem eqT_iff {t u : Tm} : eqT t u = true ↔ t = u := by unfold eqT; simp
theorem tm_ext {t u : Tm} (h0 : t.kind = u.kind) (h1 : t.num = u.num) (h2 : t.name = u.name) (h3 : t.args = u.args) : t = u := by
 cases t; cases u
 simp only [Tm.kind, Tm.num, Tm.name, Tm.args] at h0 h1 h2 h3
 subst h0 h1 h2 h3
 rfl
theorem ba_ext {a b : ByteArray} (h : a.toList = b.toList) : a = b := by
 rw [tl_data, tl_data] at h
 exact ByteArray.ext (Array.ext' h)
theorem args_ext {l m : List Tm} (h : l.length = m.length) (hk : ∀ j (h1 : j < l.length) (h2 : j < m.length), l[j] = m[j]) : l = m := List.ext_getElem h hk
structure TT (w0 w : World) (t u : Tm) (A B : Option Addr) (c d : Nat) : Prop where
 bel : Below w0.heap.size w0 w
 lt : w0.heap.size + 1 < w.heap.size
 a0 : w.cell? ⟨w0.heap.size, 0, none⟩ = some (.int .i64 t.kind)
 a1 : w.cell? ⟨w0.heap.size, 1, none⟩ = some (.int .i64 t.num)
 a2 : w.cell? ⟨w0.heap.size, 2, none⟩ = some (.string t.name)
 a3 : w.cell? ⟨w0.heap.size, 3, none⟩ = some (.slice A t.args.length c)
 b0 : w.cell? ⟨w0.heap.size + 1, 0, none⟩ = some (.int .i64 u.kind)
 b1 : w.cell? ⟨w0.heap.size + 1, 1, none⟩ = some (.int .i64 u.num)
 b2 : w.cell? ⟨w0.heap.size + 1, 2, none⟩ = some (.string u.name)
 b3 : w.cell? ⟨w0.heap.size + 1, 3, none⟩ = some (.slice B u.args.length d)
theorem TT.call {w0 w w' : World} {t u : Tm} {A B : Option Addr} {c d : Nat} (h : TT w0 w t u A B c d) (hB : Below w.heap.size w w') : TT w0 w' t u A B c d := by
 have hlt := h.lt
 have hc : ∀ j, w'.cell? ⟨w0.heap.size, j, none⟩ = w.cell? ⟨w0.heap.size, j, none⟩ := fun j => hB.cell (p := ⟨w0.heap.size, j, none⟩) (by show w0.heap.size < _; omega)
 have hd : ∀ j, w'.cell? ⟨w0.heap.size + 1, j, none⟩ = w.cell? ⟨w0.heap.size + 1, j, none⟩ := fun j => hB.cell (p := ⟨w0.heap.size + 1, j, none⟩) hlt
 exact ⟨h.bel.trans (hB.mono h.bel.size), Nat.lt_of_lt_of_le hlt hB.size, (hc 0).trans h.a0, (hc 1).trans h.a1, (hc 2).trans h.a2, (hc 3).trans h.a3, (hd 0).trans h.b0, (hd 1).trans h.b1, (hd 2).trans h.b2, (hd 3).trans h.b3⟩
theorem TT.start (w : World) (t u : Tm) (A B : Option Addr) (c d : Nat) (e : TypeId) :
  TT w ((w.alloc (.cells #[.int .i64 t.kind, .int .i64 t.num, .string t.name, .slice A t.args.length c] e)).alloc (.cells #[.int .i64 u.kind, .int .i64 u.num, .string u.name, .slice B u.args.length d] e)) t u A B c d := by
 obtain ⟨W1, hW1⟩ : ∃ W1, W1 = w.alloc (.cells #[.int .i64 t.kind, .int .i64 t.num, .string t.name, .slice A t.args.length c] e) := ⟨_, rfl⟩
 rw [← hW1]
 have s1 : W1.heap.size = w.heap.size + 1 := by rw [hW1]; simp
 have hB1 : Below w.heap.size w W1 := by rw [hW1]; exact (Below.refl _ _).alloc (Nat.le_refl _) _
 have hB2 : Below W1.heap.size W1 (W1.alloc (.cells #[.int .i64 u.kind, .int .i64 u.num, .string u.name, .slice B u.args.length d] e)) := (Below.refl _ _).alloc (Nat.le_refl _) _
 have a : ∀ j, (W1.alloc (.cells #[.int .i64 u.kind, .int .i64 u.num, .string u.name, .slice B u.args.length d] e)).cell? ⟨w.heap.size, j, none⟩ = (#[.int .i64 t.kind, .int .i64 t.num, .string t.name, .slice A t.args.length c] : Array Value)[j]? := fun j => by
  rw [hB2.cell (p := ⟨w.heap.size, j, none⟩) (by show w.heap.size < _; omega), hW1]; exact World.cell?_alloc_new _ _ _ j
 have b : ∀ j, (W1.alloc (.cells #[.int .i64 u.kind, .int .i64 u.num, .string u.name, .slice B u.args.length d] e)).cell? ⟨w.heap.size + 1, j, none⟩ = (#[.int .i64 u.kind, .int .i64 u.num, .string u.name, .slice B u.args.length d] : Array Value)[j]? := fun j => by
  have := World.cell?_alloc_new W1 #[.int .i64 u.kind, .int .i64 u.num, .string u.name, .slice B u.args.length d] e j
  rw [s1] at this; exact this
 exact ⟨hB1.trans (hB2.mono (by omega)), by simp; omega, a 0, a 1, a 2, a 3, b 0, b 1, b 2, b 3⟩
end Hb
namespace Go.Proofs.YtfkhcpeahdkafaaGreat
open Go.RowKit Hb
set_option maxRecDepth 100000
set_option maxHeartbeats 6400000 in
theorem r3_identical : ∀ (t u : Tm) (A B : Option Addr) (c d : Nat) (w : World), TmsAt w.heap.size w A t.args → TmsAt w.heap.size w B u.args →
  Calls Tryz.prog 96 #[tmV t A c, tmV u B d] w fun e w' => e = .returned (.bool (eqT t u)) ∧ Below w.heap.size w w' := by
 refine Tm.ind fun t ih => ?_
 intro u A B c d w hT hU
 have HX := Lib.hid (TT.start w t u A B c d 26)
 have HT := Lib.hid hT
 have HU := Lib.hid hU
 have HIH := Lib.hid ih
 have HEX := Lib.hid (tm_ext (t := t) (u := u))
 have hm := hT.len
 unfold maxLen at hm
 have HN0 := Lib.hid (fun (h : ¬ t.kind = u.kind) => eqT_no (t := t) (u := u) fun e => h (by rw [e]))
 have HN1 := Lib.hid (fun (h : ¬ t.num = u.num) => eqT_no (t := t) (u := u) fun e => h (by rw [e]))
 have HN2 := Lib.hid (fun (h : ¬ t.name = u.name) => eqT_no (t := t) (u := u) fun e => h (by rw [e]))
 have HN3 := Lib.hid (fun (h : ¬ t.args.length = u.args.length) => eqT_no (t := t) (u := u) fun e => h (by rw [e]))
 have HN4 := Lib.hid (fun (j : Nat) (h1 : j < t.args.length) (h2 : j < u.args.length) (h : ¬ t.args[j] = u.args[j]) => eqT_no (t := t) (u := u) fun e => h (by simp only [e]))
 have HY := Lib.hid (eqT_yes (t := t) (u := u))
 have hb0 := HX.out.bel
 clear hT hU ih
 unfold tmV at *
 generalize hq : eqT t u = q at *
 clear hq
 obtain ⟨L, HL⟩ : ∃ L, Hid (t.args.length = L) := ⟨_, Lib.hid rfl⟩
 obtain ⟨M, HM⟩ : ∃ M, Hid (u.args.length = M) := ⟨_, Lib.hid rfl⟩
 rw [HL.out] at HX hm hb0 HN3 ⊢
 rw [HM.out] at HX hb0 HN3 ⊢
 generalize t.kind = a0 at *
 generalize t.num = a1 at *
 generalize t.name = a2 at *
 generalize u.kind = b0 at *
 generalize u.num = b1 at *
 generalize u.name = b2 at *
 by_cases e0 : a0 = b0
 ·subst e0
  by_cases e1 : a1 = b1
  ·subst e1
   by_cases e2 : a2 = b2
   ·subst e2
    by_cases e3 : L = M
    ·subst e3
     have HEQ := Lib.hid (HEX.out rfl rfl rfl)
     clear HEX HN0 HN1 HN2 HN3
     go_enter Tryz.func96, Tryz.ntmps96
     go_wp2_with fail
     go_loopw [5] (fun i wr => ∃ k : Nat, k ≤ L ∧ i = .int .i64 k ∧ Hid (TT w wr t u A B c d) ∧ Hid (∀ j (h1 : j < t.args.length) (h2 : j < u.args.length), j < k → t.args[j] = u.args[j])) (fun i _ => L - (intOf i).toNat)
     case atStart => exact ⟨0, Nat.zero_le _, rfl, HX, Lib.hid fun j _ _ h => absurd h (by omega)⟩
     case round =>
      obtain ⟨k, hk, rfl, HB, HE⟩ := hrel
      have b3 := HB.out.a3
      have b4 := HB.out.b3
      rw [HL.out] at b3
      rw [HM.out] at b4
      have hbel := HB.out.bel
      by_cases hlt : k < L
      ·have hkl : k < t.args.length := by have := HL.out; omega
       have hkm : k < u.args.length := by have := HM.out; omega
       obtain ⟨b, off, A', ca, rfl, hb, c0, c1, c2, c3, hs⟩ := (HT.out.keep hbel).get k hkl
       obtain ⟨b', off', B', cb, rfl, hb', d0, d1, d2, d3, hs'⟩ := (HU.out.keep hbel).get k hkm
       have hbs := hbel.size
       have HN5 := Lib.hid (HN4.out k hkl hkm)
       have HE2 : Hid (t.args[k] = u.args[k] → ∀ j (h1 : j < t.args.length) (h2 : j < u.args.length), j < k + 1 → t.args[j] = u.args[j]) := Lib.hid (fun he j h1 h2 hj => by
        by_cases hjk : j = k
        ·subst hjk; exact he
        ·exact HE.out j h1 h2 (by omega))
       have HC := Lib.hid (fun W (h : TT w W t u (some ⟨b, off, none⟩) (some ⟨b', off', none⟩) c d) (hT : TmsAt W.heap.size W A' t.args[k].args) (hU : TmsAt W.heap.size W B' u.args[k].args) => HIH.out t.args[k] (List.getElem_mem hkl) u.args[k] A' B' ca cb W hT hU)
       have hd1 := (hs.keep (Below.refl _ wr).drew).mono hbs
       have hd2 := (hs'.keep (Below.refl _ wr).drew).mono hbs
       have HC2 := Lib.hid (HC.out wr.drew (HB.out.call (Below.refl _ _).drew) hd1 hd2)
       have HEE := Lib.hid (eqT_iff (t := t.args[k]) (u := u.args[k]))
       have hk0 : (0 : Int) ≤ (k : Int) := by omega
       have hk1 : (k : Int) < (L : Int) := by omega
       have HD := Lib.hid (HB.out.call (Below.refl _ wr).drew)
       clear hs hs' hd1 hd2 HC
       unfold tmV at HC2
       obtain ⟨x, hx⟩ : ∃ x, x = t.args[k] := ⟨_, rfl⟩
       obtain ⟨y, hy⟩ : ∃ y, y = u.args[k] := ⟨_, rfl⟩
       rw [← hx] at HC2 HN5 HE2 HEE c0 c1 c2 c3
       rw [← hy] at HC2 HN5 HE2 HEE d0 d1 d2 d3
       clear hx hy
       go_wp2_with fail
       go_region_law (first
        | (go_simp; go_at_call 96; (with_reducible refine HC2.out.mono ?_); rintro e w2 ⟨rfl, hB2⟩)
        | fail)
       all_goals
        have hX2 := HD.out.call hB2
        have hb2 := hX2.bel
        cases hq2 : eqT x y
        ·have hne : ¬ x = y := fun e => by rw [HEE.out.2 e] at hq2; cases hq2
         have hr := HN5.out hne
         subst hr
         go_wp2_with fail
         go_ret
         exact ⟨rfl, hb2⟩
        ·have he := HEE.out.1 hq2
         go_wp2_with fail
         go_roundw
         case rel => exact ⟨k + 1, by omega, by go_num, Lib.hid hX2, Lib.hid (HE2.out he)⟩
         case measure => simp [intOf] <;> omega
      ·have hr := HY.out (HEQ.out (args_ext (by rw [HL.out, HM.out]) fun j h1 h2 => HE.out j h1 h2 (by have := HL.out; omega)))
       subst hr
       go_wp2_with fail
       go_ret
       exact ⟨rfl, hbel⟩
    ·have hr := HN3.out e3
     subst hr
     have f1 : ((L : Int) == (M : Int)) = false := by simp; omega
     have f2 : ¬ (L : Int) = (M : Int) := by omega
     go_enter Tryz.func96, Tryz.ntmps96
     go_wp2_with fail
     go_ret
     exact ⟨rfl, hb0⟩
   ·have hr := HN2.out e2
    subst hr
    have f1 : ¬ a2.toList = b2.toList := fun h => e2 (ba_ext h)
    have f2 : (a2.toList == b2.toList) = false := by simpa using f1
    go_enter Tryz.func96, Tryz.ntmps96
    go_wp2_with fail
    go_ret
    exact ⟨rfl, hb0⟩
  ·have hr := HN1.out e1
   subst hr
   have f1 : (a1 == b1) = false := by simpa using e1
   go_enter Tryz.func96, Tryz.ntmps96
   go_wp2_with fail
   go_ret
   exact ⟨rfl, hb0⟩
 ·have hr := HN0.out e0
  subst hr
  have f1 : (a0 == b0) = false := by simpa using e0
  go_enter Tryz.func96, Tryz.ntmps96
  go_wp2_with fail
  go_ret
  exact ⟨rfl, hb0⟩
end Go.Proofs.YtfkhcpeahdkafaaGreat
namespace Hb
open Go Go.RowKit
theorem CpX.start0 (w : World) (t : Tm) (A : Option Addr) (cap LN : Nat) (e : TypeId) : Below w.heap.size w ((((w.alloc (.cells #[.int .i64 t.kind, .int .i64 t.num, .string t.name, .slice A LN cap] e)).alloc (.cells #[.int .i64 0, .int .i64 0, .string ⟨#[]⟩, .slice none 0 0] e)).alloc (.cells #[.int .i64 t.kind, .int .i64 t.num, .string t.name, .slice none 0 0] e))) :=
 (((Below.refl _ _).alloc (Nat.le_refl _) _).alloc (by simp) _).alloc (by simp; omega) _
end Hb
namespace Go.Proofs.YtfkhcpeahdkafaaGreat
open Go.RowKit Hb
set_option maxRecDepth 100000
theorem _root_.Hb.ba_nil {s : ByteArray} (h : (s.toList == []) = true) : s = ⟨#[]⟩ := ba_ext (by rw [eq_of_beq h, tl_data])
set_option maxHeartbeats 6400000 in
theorem t_applyC (mb m0 lo : Nat) (hlo : lo ≤ mb) : ∀ (t : Tm) (A : Option Addr) (cap : Nat) (w : World) (acc : List Int), TmsAt lo w A t.args → t.allOk = true → CnS w mb m0 acc → acc.length + t.nodes ≤ 100000 →
    Calls Tryz.prog 111 #[tmV t A cap, .func (.func 112) #[] #[.pointer (some ⟨m0, 0, none⟩)]] w fun e w' => ∃ A' cap', e = .returned (tmV (ren (posI (varsT t acc)) t) A' cap') ∧ Bx mb w.heap.size w w' ∧ NewT w w' A' (ren (posI (varsT t acc)) t).args ∧ CnS w' mb m0 (varsT t acc) := by
  refine Tm.ind fun t ih => ?_
  intro A cap w acc hT hok hS hlen
  obtain ⟨i, hi, hz0, hz1, hz2⟩ := info_parts infoTm
  have HI := Lib.hid hi
  have HZ0 := Lib.hid hz0
  have HZ1 := Lib.hid hz1
  have HZ2 := Lib.hid hz2
  clear hi hz0 hz1 hz2
  have HT := Lib.hid hT
  have hltm := hS.ltm
  have hlt0 := hS.lt
  have hnode : nodeOk t = true := by rw [Tm.allOk_eq, Bool.and_eq_true] at hok; exact hok.1
  have hm : t.args.length ≤ 8 := by
    have := hnode
    unfold nodeOk at this
    grind
  have HOKA : Hid (∀ a ∈ t.args, a.allOk = true) := Lib.hid (by
    rw [Tm.allOk_eq, Bool.and_eq_true, List.all_eq_true] at hok
    exact hok.2)
  have HIH := Lib.hid ih
  obtain ⟨L, HL⟩ : ∃ L, Hid (L = t.args.length) := ⟨_, Lib.hid rfl⟩
  have HST := Lib.hid (CpX.start w hltm t A cap L 26 HL.out)
  have HS0 := Lib.hid hS
  by_cases hk0 : t.kind = 0
  · have hl0 : t.args.length = 0 := by
      have h2 := hnode
      unfold nodeOk at h2
      rw [if_pos hk0] at h2
      simp at h2
      exact List.length_eq_zero_iff.2 h2.2
    have hnm : t.name = ⟨#[]⟩ := by
      have h2 := hnode
      unfold nodeOk at h2
      rw [if_pos hk0] at h2
      simp only [Bool.and_eq_true] at h2
      exact ba_nil h2.1.2
    have hnil : t.args = [] := List.eq_nil_of_length_eq_zero hl0
    have HRE : Hid (ren (posI (varsT t acc)) t = .mk 0 (posI (varH t acc) t.num) ⟨#[]⟩ []) := Lib.hid (by rw [ren_eq, if_pos hk0, hk0, hnil, hnm, varsT_leaf hl0]; rfl)
    have HVL := Lib.hid (varsT_leaf hl0 acc)
    have HC1 := Lib.hid (fun W (h : CnS W mb m0 acc) => canon_1 t A cap W mb m0 acc hk0 hnode h (by have := t.nodes_pos; omega))
    have HX0 := Lib.hid (RX.start w mb hltm (.int .i64 t.kind) (.int .i64 t.num) (.string t.name) (.slice A L cap) 26)
    have hW : Below w.heap.size w ((w.alloc (.cells #[.int .i64 t.kind, .int .i64 t.num, .string t.name, .slice A L cap] 26)).alloc (.cells #[.int .i64 0, .int .i64 0, .string ⟨#[]⟩, .slice none 0 0] 26)) := ((Below.refl _ _).alloc (Nat.le_refl _) _).alloc (by simp) _
    have HS1 := Lib.hid (hS.below hW)
    have hb0 : (t.kind == 0) = true := by simp [hk0]
    unfold tmV at HC1 ⊢
    rw [← HL.out] at HC1 ⊢
    clear hok ih hT HST hW hS hnode HIH HOKA hnm hl0 hnil
    rw [hk0] at HC1 HX0 HS1 hb0 ⊢
    generalize t.num = a1 at *
    generalize t.name = a2 at *
    go_enter Tryz.func111, Tryz.ntmps111
    go_wp2_with fail
    refine (HC1.out _ HS1.out).mono ?_; rintro e w1 ⟨rfl, hB1, hS2⟩
    have hX1 := HX0.out.step hB1
    have HSF := Lib.hid hS2
    clear hB1 hS2
    obtain ⟨v0, r0⟩ := hX1.r0
    obtain ⟨v1, r1⟩ := hX1.r1
    obtain ⟨v2, r2⟩ := hX1.r2
    obtain ⟨v3, r3⟩ := hX1.r3
    have f0 := hX1.fr 0
    have f1 := hX1.fr 1
    have f2 := hX1.fr 2
    have f3 := hX1.fr 3
    have HP := Lib.hid (hX1.put (.int .i64 0) (.int .i64 (posI (varH t acc) a1)) (.string ⟨#[]⟩) (.slice none 0 0))
    have HSG := Lib.hid (HSF.out.blocks (w' := (((w1.setCell ⟨w.heap.size + 1, 0, none⟩ (.int .i64 0)).setCell ⟨w.heap.size + 1, 1, none⟩ (.int .i64 (posI (varH t acc) a1))).setCell ⟨w.heap.size + 1, 2, none⟩ (.string ⟨#[]⟩)).setCell ⟨w.heap.size + 1, 3, none⟩ (.slice none 0 0)) (by simp) (put4_block _ _ _ _ _ _ _ (by omega)) (put4_block _ _ _ _ _ _ _ (by omega)))
    clear hX1
    go_wp2_with fail
    exact bodyPost_ret (v := .agg #[.int .i64 0, .int .i64 (posI (varH t acc) a1), .string ⟨#[]⟩, .slice none 0 0]) (by simp [results, Tryz.results111, go_sem, r0, r1, r2, r3]) rfl ⟨none, 0, by rw [HRE.out]; rfl, HP.out, by rw [HRE.out]; exact TmsK.nil, by rw [HVL.out]; exact HSG.out⟩
  have hkb : (t.kind == 0) = false := by simp [hk0]
  have HVN : Hid (varsT t acc = accL t.args acc) := Lib.hid (varsT_node hk0 acc)
  have HRN : Hid (∀ f, ren f t = .mk t.kind t.num t.name (t.args.map (ren f))) := Lib.hid fun f => by rw [ren_eq, if_neg hk0]
  have HLEN : Hid (∀ k (hk : k < t.args.length), (accL (t.args.take k) acc).length + t.args[k].nodes ≤ 100000) := Lib.hid fun k hk => by
    have h1 : (accL (t.args.take k) acc).length ≤ acc.length + sumT (t.args.take k) := foldV_len _ acc
    have h2 := sumT_take t.args k hk
    have h3 := sumT_le t.args (k + 1)
    have h4 := Tm.nodes_eq t
    have h5 : sumT t.args = (t.args.map Tm.nodes).sum := rfl
    omega
  clear ih hT hok hS hnode hlen
  unfold tmV at *
  rw [← HL.out] at hm ⊢
  have HSX := Lib.hid (HS0.out.below (CpX.start0 w t A cap L 26))
  go_enter Tryz.func111, Tryz.ntmps111
  go_wp2_with fail
  go_loopw [24] (fun i wr => ∃ k : Nat, ∃ v : Value, ∃ rs : List TR, k ≤ L ∧ i = .int .i64 k ∧ Hid (CpX mb w wr 26 t A cap v rs) ∧ Hid (rs.map (·.1) = (t.args.take k).map (ren (posI (accL (t.args.take k) acc)))) ∧ Hid (CnS wr mb m0 (accL (t.args.take k) acc))) (fun i _ => L - (intOf i).toNat)
  case atStart => exact ⟨0, _, [], Nat.zero_le _, rfl, HST, Lib.hid (by simp), HSX⟩
  case round =>
    obtain ⟨k, v, rs, hk, rfl, HB, HR, HS⟩ := hrel
    have b3 := HB.out.b3
    rw [← HL.out] at b3
    by_cases hlt : k < L
    · have hkl : k < t.args.length := by have := HL.out; omega
      obtain ⟨b, off, A', cap', rfl, hb, c0, c1, c2, c3, hs⟩ := (TmsAt.get (B := lo) (TmsK.keep HT.out (fun b hb => HB.out.bel.block b (by omega) (by omega)) (fun _ h => h))) k hkl
      have hX := HB.out.call (Bx.of ((Below.refl _ _).alloc (Nat.le_refl _) (.cells #[.int .i64 t.args[k].kind, .int .i64 t.args[k].num, .string t.args[k].name, .slice A' t.args[k].args.length cap'] 26)))
      have hD := hX.drew
      have hBX : Below wr.heap.size wr (wr.alloc (.cells #[.int .i64 t.args[k].kind, .int .i64 t.args[k].num, .string t.args[k].name, .slice A' t.args[k].args.length cap'] 26)).drew := ((Below.refl _ wr).alloc (Nat.le_refl _) _).drew
      have HA := Lib.hid (HIH.out t.args[k] (List.getElem_mem hkl) A' cap' (wr.alloc (.cells #[.int .i64 t.args[k].kind, .int .i64 t.args[k].num, .string t.args[k].name, .slice A' t.args[k].args.length cap'] 26)).drew (accL (t.args.take k) acc) (TmsAt.keep hs (hBX.mono (by have := HB.out.bel.size; omega))) (HOKA.out _ (List.getElem_mem hkl)) (HS.out.below hBX) (HLEN.out k hkl))
      obtain ⟨a2, HA2⟩ : ∃ a2, Hid (a2 = ren (posI (varsT t.args[k] (accL (t.args.take k) acc))) t.args[k]) := ⟨_, Lib.hid rfl⟩
      rw [← HA2.out] at HA
      have HC : Hid (Calls Tryz.prog 111 #[.agg #[.int .i64 t.args[k].kind, .int .i64 t.args[k].num, .string t.args[k].name, .slice A' t.args[k].args.length cap'], .func (.func 112) #[] #[.pointer (some ⟨m0, 0, none⟩)]] (wr.alloc (.cells #[.int .i64 t.args[k].kind, .int .i64 t.args[k].num, .string t.args[k].name, .slice A' t.args[k].args.length cap'] 26)).drew fun e w' => ∃ A2 c2, e = .returned (.agg #[.int .i64 a2.kind, .int .i64 a2.num, .string a2.name, .slice A2 a2.args.length c2]) ∧ CpX mb w w' 26 t (some ⟨b, off, none⟩) cap v rs ∧ TmsK (fun b => w.heap.size + 3 ≤ b ∧ b < w'.heap.size ∧ v.ownBlock ≠ some b) w' A2 a2.args ∧ CnS w' mb m0 (accL (t.args.take (k + 1)) acc)) :=
        Lib.hid (HA.out.mono fun e w' hh => by
          obtain ⟨A2, c2, he, hB, hN, hSS⟩ := hh
          refine ⟨A2, c2, he, hD.call hB, hN.keep (fun _ _ => rfl) fun b hb => ⟨Nat.le_trans hD.lt hb.1, hb.2, fun ee => ?_⟩, ?_⟩
          · have := (hD.own.own.lt b ee).2
            have h1 := hb.1
            omega
          · rw [List.take_succ_eq_append_getElem hkl, accL_snoc]; exact hSS)
      have hrl : rs.length = k := by
        have := congrArg List.length HR.out
        rw [List.length_map, List.length_map, List.length_take] at this; omega
      have HR2 : Hid ((rs ++ [((a2, none, 0) : TR)]).map (fun x : TR => x.1) = (t.args.take (k + 1)).map (ren (posI (accL (t.args.take (k + 1)) acc)))) := Lib.hid (by
        rw [List.map_append, HR.out, List.take_succ_eq_append_getElem hkl, ren_step, HA2.out]; rfl)
      have hk3 := hX.c3
      have hkf := hX.cf 3
      have hki : (0 : Int) ≤ (k : Int) := by omega
      have hk1 : (k : Int) < (L : Int) := by omega
      clear hs HA HA2 hBX HS
      obtain ⟨a, HAE⟩ : ∃ a, Hid (a = t.args[k]) := ⟨_, Lib.hid rfl⟩
      rw [← HAE.out] at HC c0 c1 c2 c3 hX hD hk3 hkf
      go_wp2_with fail
      go_region_law (first
        | (go_simp; go_at_call 111; (with_reducible refine HC.out.mono ?_); rintro e w2 ⟨A2, c2', rfl, hC2, hS2, hSN⟩; have k3 := hC2.c3; have kf := hC2.cf 3; have hCa := hC2.call (Bx.of ((Below.refl _ _).alloc (Nat.le_refl _) (.cells #[.int .i64 a2.kind, .int .i64 a2.num, .string a2.name, .slice A2 a2.args.length c2'] 26))); have k5 := hCa.c3; have kf5 := hCa.cf 3)
        | go_must (have q1 : rs.length + 1 ≤ maxLen := by unfold maxLen; omega
                   have q2 : (rs.length + 1) * 56 ≤ 140737488355328 := by omega
                   have q3 : w.heap.size + 3 ≤ (w2.alloc (.cells #[.int .i64 a2.kind, .int .i64 a2.num, .string a2.name, .slice A2 a2.args.length c2'] 26)).heap.size := hCa.lt
                   have q4 : ∀ j u, (rowC (a2, A2, c2'))[j]? = some u → (w2.alloc (.cells #[.int .i64 a2.kind, .int .i64 a2.num, .string a2.name, .slice A2 a2.args.length c2'] 26)).cell? ((⟨w2.heap.size, 0, none⟩ : Addr).add j) = some u := World.news_of_block (heap_alloc_new w2 _)
                   have q5 : (w2.alloc (.cells #[.int .i64 a2.kind, .int .i64 a2.num, .string a2.name, .slice A2 a2.args.length c2'] 26)).heap.size = w2.heap.size + 1 := by simp
                   refine step_append_lies _ (by rfl) _ _ 24 (by rfl) (w.heap.size + 3) 26 i _ 4 56 Tryz.underlying24 HI.out HZ0.out HZ1.out HZ2.out (by rfl) (by decide) v rs.length (rowsC rs) (by rfl) hCa.own.own ⟨w2.heap.size, 0, none⟩ 1 1 (rowC (a2, A2, c2')) (by rfl) (by rfl) q4 (rowC_one _) (by decide) q1 q2 q3 (w2.heap.size + 1) q5 ?_; intro g2 cp2 w3 hown3 hg3 hat3 hlt3; clear q1 q2 q3 q4 q5; have k4 := (hCa.far hg3 (w.heap.size + 2) 3 (by omega)).1.trans hCa.c3; have kf4 := (hCa.far hg3 (w.heap.size + 2) 3 (by omega)).2.trans (hCa.cf 3))
        | fail)
      all_goals
        have HN := Lib.hid (hCa.app (a2, A2, c2') (hS2.keep (fun b hb => heap_alloc_old w2 _ hb.2.1) fun b hb => ⟨hb.1, by simp; omega, hb.2.2⟩) hown3 hg3 (by
          rcases hat3 with h' | h'
          · exact .inl h'.symm
          · exact .inr (by rw [h']; simp [Value.ownBlock])))
        rw [hrl] at HN
        have HR3 : Hid ((rs ++ [((a2, A2, c2') : TR)]).map (fun x : TR => x.1) = (t.args.take (k + 1)).map (ren (posI (accL (t.args.take (k + 1)) acc)))) := Lib.hid (by rw [← HR2.out]; simp)
        have HSN : Hid (CnS (w3.setCell ⟨w.heap.size + 2, 3, none⟩ (.slice (some ⟨g2, 0, none⟩) (k + 1) cp2)) mb m0 (accL (t.args.take (k + 1)) acc)) := Lib.hid (by
          have hq := hSN.below ((Below.refl _ _).alloc (Nat.le_refl _) (.cells #[.int .i64 a2.kind, .int .i64 a2.num, .string a2.name, .slice A2 a2.args.length c2'] 26))
          have hne : ∀ b, b < w.heap.size → some b ≠ v.ownBlock := fun b hb e => by have := (hCa.own.own.lt b e.symm).1; omega
          have hq3 := hq.blocks hg3.size (hg3.block mb hq.ltm (hne mb hltm)) (hg3.block m0 hq.lt (hne m0 hlt0))
          exact hq3.blocks (by simp) (heap_setCell_other _ _ _ _ (by show mb ≠ w.heap.size + 2; omega)) (heap_setCell_other _ _ _ _ (by show m0 ≠ w.heap.size + 2; omega)))
        clear hSN k3 kf k4 kf4 k5 kf5 hC2 hS2 hCa hown3 hg3 hD hX hk3 hkf
        go_wp2_with fail
        go_roundw
        case rel => exact ⟨k + 1, _, rs ++ [(a2, A2, c2')], by omega, by go_num, HN, HR3, HSN⟩
        case measure => simp [intOf] <;> omega
    · have hkL : k = L := by omega
      subst hkL
      obtain ⟨A2, c2, rfl, hN⟩ := HB.out.own.tms
      have hrl : rs.length = k := by
        have := congrArg List.length HR.out
        rw [List.length_map, List.length_map, List.length_take, ← HL.out] at this; omega
      have hra : rs.map (fun x : TR => x.1) = t.args.map (ren (posI (accL t.args acc))) := by rw [HR.out, HL.out, List.take_length]
      rw [HL.out, List.take_length] at HS
      rw [hrl] at HB
      have k0 := HB.out.c0
      have k1 := HB.out.c1
      have k2 := HB.out.c2
      have k3 := HB.out.c3
      obtain ⟨v0, r0⟩ := HB.out.r0
      obtain ⟨v1, r1⟩ := HB.out.r1
      obtain ⟨v2, r2⟩ := HB.out.r2
      obtain ⟨v3, r3⟩ := HB.out.r3
      have f0 := HB.out.rf 0
      have f1 := HB.out.rf 1
      have f2 := HB.out.rf 2
      have f3 := HB.out.rf 3
      have HP := Lib.hid (HB.out.put (.int .i64 t.kind) (.int .i64 t.num) (.string t.name) (.slice A2 k c2))
      have HNA : Hid (NewT w ((((wr.setCell ⟨w.heap.size + 1, 0, none⟩ (.int .i64 t.kind)).setCell ⟨w.heap.size + 1, 1, none⟩ (.int .i64 t.num)).setCell ⟨w.heap.size + 1, 2, none⟩ (.string t.name)).setCell ⟨w.heap.size + 1, 3, none⟩ (.slice A2 k c2)) A2 (t.args.map (ren (posI (accL t.args acc))))) := Lib.hid (by
        obtain ⟨A3, c3, he, h3⟩ := HP.out.2.tms
        rw [hra] at h3
        injection he with he _ _
        subst he
        exact h3.keep (fun _ _ => rfl) fun b hb => ⟨by have := hb.1; omega, hb.2⟩)
      have HSF := Lib.hid (HS.out.blocks (w' := (((wr.setCell ⟨w.heap.size + 1, 0, none⟩ (.int .i64 t.kind)).setCell ⟨w.heap.size + 1, 1, none⟩ (.int .i64 t.num)).setCell ⟨w.heap.size + 1, 2, none⟩ (.string t.name)).setCell ⟨w.heap.size + 1, 3, none⟩ (.slice A2 k c2)) (by simp) (put4_block _ _ _ _ _ _ _ (by omega)) (put4_block _ _ _ _ _ _ _ (by omega)))
      clear hN hra hrl HS
      go_wp2_with fail
      exact bodyPost_ret (v := .agg #[.int .i64 t.kind, .int .i64 t.num, .string t.name, .slice A2 k c2]) (by simp [results, Tryz.results111, go_sem, r0, r1, r2, r3]) rfl ⟨A2, c2, by rw [HRN.out, HVN.out]; show _ = Ending.returned (.agg #[_, _, _, .slice _ (t.args.map _).length _]); rw [List.length_map, ← HL.out]; rfl, HP.out.1, by rw [HRN.out, HVN.out]; exact HNA.out, by rw [HVN.out]; exact HSF.out⟩
end Go.Proofs.YtfkhcpeahdkafaaGreat
namespace Hb
open Go Go.RowKit
theorem R4.bx {w0 w w' : World} {g mb : Nat} (h : R4 w0 w g) (hB : Bx mb w.heap.size w w') (hm : w0.heap.size ≤ mb) (hg : g ≠ mb) : R4 w0 w' g :=
 ⟨h.bel.trans ((hB.mono h.bel.size).new hm), h.le, Nat.lt_of_lt_of_le h.lt hB.size, h.r0.imp fun _ k => (hB.cell (p := ⟨_, _, none⟩) h.lt hg).trans k, h.r1.imp fun _ k => (hB.cell (p := ⟨_, _, none⟩) h.lt hg).trans k, h.r2.imp fun _ k => (hB.cell (p := ⟨_, _, none⟩) h.lt hg).trans k, h.r3.imp fun _ k => (hB.cell (p := ⟨_, _, none⟩) h.lt hg).trans k, fun o => (hB.frozen (p := ⟨_, o, none⟩) h.lt hg).trans (h.fr o)⟩
end Hb
namespace Go.Proofs.YtfkhcpeahdkafaaGreat
open Go.RowKit Hb
set_option maxRecDepth 100000
theorem CnS.start (w : World) : CnS ((w.alloc (.map #[] 0)).alloc (.cells #[.map (some w.heap.size)] 127)) w.heap.size (w.heap.size + 1) [] := by
 have hB : Below (w.alloc (.map #[] 0)).heap.size (w.alloc (.map #[] 0)) ((w.alloc (.map #[] 0)).alloc (.cells #[.map (some w.heap.size)] 127)) := (Below.refl _ _).alloc (Nat.le_refl _) _
 have hs : (w.alloc (.map #[] 0)).heap.size = w.heap.size + 1 := by simp
 exact ⟨⟨_, _, (MapIs.start w Tryz.prog 2 2).kept (row := none) ⟨hB.os, hB.tape, hB.output, hB.size, fun k hk _ => hB.block k hk⟩ (by simp)⟩, by rw [← hs]; exact World.cell?_alloc_new _ _ _ 0, by simp, by simp; omega, by omega⟩
set_option maxHeartbeats 3200000 in
theorem t_canon (t : Tm) (A : Option Addr) (cap : Nat) (w : World) (hT : TmsAt w.heap.size w A t.args) :
  Calls Tryz.prog 67 #[tmV t A cap] w fun e w' => ∃ A' cap', e = .returned (tmV (canT t) A' cap') ∧ Below w.heap.size w w' ∧ NewT w w' A' (canT t).args := by
 have hX0 := R4.start (w0 := w) (w := w.alloc (.cells #[.int .i64 t.kind, .int .i64 t.num, .string t.name, .slice A t.args.length cap] 26)) ((Below.refl _ _).alloc (Nat.le_refl _) _) (.int .i64 0) (.int .i64 0) (.string ⟨#[]⟩) (.slice none 0 0) 26
 have hs : (w.alloc (.cells #[.int .i64 t.kind, .int .i64 t.num, .string t.name, .slice A t.args.length cap] 26)).heap.size = w.heap.size + 1 := by simp
 rw [hs] at hX0
 have HX := Lib.hid hX0
 have HB0 : Hid (TBoxT w ((w.alloc (.cells #[.int .i64 t.kind, .int .i64 t.num, .string t.name, .slice A t.args.length cap] 26)).alloc (.cells #[.int .i64 0, .int .i64 0, .string ⟨#[]⟩, .slice none 0 0] 26)) t A cap) :=
  Lib.hid ((TBoxT.start w t A cap 26).call ((Below.refl _ _).alloc (Nat.le_refl _) _))
 have HCEL := Lib.hid (fun (W : World) (h : TBoxT w W t A cap) => (⟨h.c0, h.c1, h.c2, h.c3⟩ : _ ∧ _ ∧ _ ∧ _))
 have HV := Lib.hid (fun (W : World) (h : R4 w W (w.heap.size + 1)) => t_valid t A cap W ((hT.keep h.bel).mono h.bel.size))
 cases hv : validT t
 ·have HE := Lib.hid (show canT t = tm0 by unfold canT; rw [hv]; rfl)
  rw [hv] at HV
  clear hv HB0 hT HCEL
  rw [HE.out]
  unfold tmV at *
  generalize t.kind = a0 at *
  generalize t.num = a1 at *
  generalize t.name = a2 at *
  generalize t.args.length = a3 at *
  go_enter Tryz.func67, Tryz.ntmps67
  go_wp2_with fail
  refine (HV.out _ HX.out).mono ?_; rintro e w1 ⟨rfl, hB1⟩
  have hX1 := HX.out.call hB1
  obtain ⟨v0, r0⟩ := hX1.r0
  obtain ⟨v1, r1⟩ := hX1.r1
  obtain ⟨v2, r2⟩ := hX1.r2
  obtain ⟨v3, r3⟩ := hX1.r3
  have f0 := hX1.fr 0
  have f1 := hX1.fr 1
  have f2 := hX1.fr 2
  have f3 := hX1.fr 3
  have hput := hX1.put (.int .i64 0) (.int .i64 0) (.string ⟨#[]⟩) (.slice none 0 0)
  go_wp2_with fail
  exact bodyPost_ret (v := .agg #[.int .i64 0, .int .i64 0, .string ⟨#[]⟩, .slice none 0 0]) (by simp [results, Tryz.results67, go_sem, r0, r1, r2, r3]) rfl ⟨none, 0, rfl, hput, TmsK.nil⟩
 ·obtain ⟨hnd, hok⟩ := (validT_iff t).1 hv
  have HE := Lib.hid (show canT t = ren (posI (varsT t [])) t by unfold canT; rw [hv]; rfl)
  rw [hv] at HV
  rw [HE.out]
  have HAP := Lib.hid (fun (W : World) (h : Below w.heap.size w W) (mb m0 : Nat) (hm : w.heap.size ≤ mb) (hS : CnS W mb m0 []) => t_applyC mb m0 w.heap.size hm t A cap W [] (hT.keep h) hok hS (by simp; omega))
  obtain ⟨u, hu⟩ : ∃ u, u = ren (posI (varsT t [])) t := ⟨_, rfl⟩
  rw [← hu] at HAP ⊢
  clear hv hT hX0 hs hu hok hnd HE
  have hmk : ∀ (w : World), (Instr.makeMap 127 none).run Tryz.prog w = .ok (.map (some w.heap.size)) (w.alloc (.map #[] 0)) := fun w => run_makeMap _ w
  have hmf : ∀ (fn : Fn) (first cap : Array Value) (w : World), (Instr.makeFunc fn first cap).run Tryz.prog w = .ok (.func fn first cap) w := fun _ _ _ _ => rfl
  unfold tmV at *
  generalize t.kind = a0 at *
  generalize t.num = a1 at *
  generalize t.name = a2 at *
  generalize t.args.length = a3 at *
  go_enter Tryz.func67, Tryz.ntmps67
  go_wp2_with fail
  refine (HV.out _ HX.out).mono ?_; rintro e w1 ⟨rfl, hB1⟩
  have HX1 := Lib.hid (HX.out.call hB1)
  obtain ⟨b0, b1, b2, b3⟩ := HCEL.out _ (HB0.out.call hB1)
  have hl1 : w.heap.size + 1 < w1.heap.size := HX1.out.lt
  have hl0 : w.heap.size < w1.heap.size := by omega
  clear HX HB0 hB1 HV
  go_wp2_with fail
  have hB2 : Below w1.heap.size w1 ((w1.alloc (.map #[] 0)).alloc (.cells #[.map (some w1.heap.size)] 127)) := ((Below.refl _ _).alloc (Nat.le_refl _) _).alloc (by simp) _
  have hX2 := HX1.out.call hB2
  have hwb := hX2.bel
  refine (HAP.out _ hwb w1.heap.size (w1.heap.size + 1) HX1.out.bel.size (CnS.start w1)).mono ?_; rintro e w3 ⟨A3, c3, rfl, hB3, hN3, -⟩
  have hX3 := hX2.bx hB3 HX1.out.bel.size (by omega)
  have HN := Lib.hid hN3
  have hle : w.heap.size ≤ ((w1.alloc (.map #[] 0)).alloc (.cells #[.map (some w1.heap.size)] 127)).heap.size := hwb.size
  obtain ⟨v0, r0⟩ := hX3.r0
  obtain ⟨v1, r1⟩ := hX3.r1
  obtain ⟨v2, r2⟩ := hX3.r2
  obtain ⟨v3, r3⟩ := hX3.r3
  have f0 := hX3.fr 0
  have f1 := hX3.fr 1
  have f2 := hX3.fr 2
  have f3 := hX3.fr 3
  have HP := Lib.hid (hX3.put (.int .i64 u.kind) (.int .i64 u.num) (.string u.name) (.slice A3 u.args.length c3))
  have HNA : Hid (NewT w ((((w3.setCell ⟨w.heap.size + 1, 0, none⟩ (.int .i64 u.kind)).setCell ⟨w.heap.size + 1, 1, none⟩ (.int .i64 u.num)).setCell ⟨w.heap.size + 1, 2, none⟩ (.string u.name)).setCell ⟨w.heap.size + 1, 3, none⟩ (.slice A3 u.args.length c3)) A3 u.args) :=
   Lib.hid (TmsK.keep hN3 (fun b hb => put4_block w3 (w.heap.size + 1) _ _ _ _ b (by have := hX2.lt; omega)) (fun b hb => ⟨by omega, by rw [put4_size]; exact hb.2⟩))
  clear hB2 hX2 hB3 hN3 hX3 hwb HAP hle
  go_wp2_with fail
  exact bodyPost_ret (v := .agg #[.int .i64 u.kind, .int .i64 u.num, .string u.name, .slice A3 u.args.length c3]) (by simp [results, Tryz.results67, go_sem, r0, r1, r2, r3]) rfl ⟨A3, c3, rfl, HP.out, HNA.out⟩
end Go.Proofs.YtfkhcpeahdkafaaGreat
namespace Go.Proofs.YtfkhcpeahdkafaaGreat
open Go.RowKit Hb
set_option maxRecDepth 100000
set_option maxHeartbeats 6400000 in
theorem t_identical : ∀ (t u : Tm) (A B : Option Addr) (c d : Nat) (w : World), TmsAt w.heap.size w A t.args → TmsAt w.heap.size w B u.args →
  Calls Tryz.prog 110 #[tmV t A c, tmV u B d] w fun e w' => e = .returned (.bool (eqT t u)) ∧ Below w.heap.size w w' := by
 refine Tm.ind fun t ih => ?_
 intro u A B c d w hT hU
 have HX := Lib.hid (TT.start w t u A B c d 26)
 have HT := Lib.hid hT
 have HU := Lib.hid hU
 have HIH := Lib.hid ih
 have HEX := Lib.hid (tm_ext (t := t) (u := u))
 have hm := hT.len
 unfold maxLen at hm
 have HN0 := Lib.hid (fun (h : ¬ t.kind = u.kind) => eqT_no (t := t) (u := u) fun e => h (by rw [e]))
 have HN1 := Lib.hid (fun (h : ¬ t.num = u.num) => eqT_no (t := t) (u := u) fun e => h (by rw [e]))
 have HN2 := Lib.hid (fun (h : ¬ t.name = u.name) => eqT_no (t := t) (u := u) fun e => h (by rw [e]))
 have HN3 := Lib.hid (fun (h : ¬ t.args.length = u.args.length) => eqT_no (t := t) (u := u) fun e => h (by rw [e]))
 have HN4 := Lib.hid (fun (j : Nat) (h1 : j < t.args.length) (h2 : j < u.args.length) (h : ¬ t.args[j] = u.args[j]) => eqT_no (t := t) (u := u) fun e => h (by simp only [e]))
 have HY := Lib.hid (eqT_yes (t := t) (u := u))
 have hb0 := HX.out.bel
 clear hT hU ih
 unfold tmV at *
 generalize hq : eqT t u = q at *
 clear hq
 obtain ⟨L, HL⟩ : ∃ L, Hid (t.args.length = L) := ⟨_, Lib.hid rfl⟩
 obtain ⟨M, HM⟩ : ∃ M, Hid (u.args.length = M) := ⟨_, Lib.hid rfl⟩
 rw [HL.out] at HX hm hb0 HN3 ⊢
 rw [HM.out] at HX hb0 HN3 ⊢
 generalize t.kind = a0 at *
 generalize t.num = a1 at *
 generalize t.name = a2 at *
 generalize u.kind = b0 at *
 generalize u.num = b1 at *
 generalize u.name = b2 at *
 by_cases e0 : a0 = b0
 ·subst e0
  by_cases e1 : a1 = b1
  ·subst e1
   by_cases e2 : a2 = b2
   ·subst e2
    by_cases e3 : L = M
    ·subst e3
     have HEQ := Lib.hid (HEX.out rfl rfl rfl)
     clear HEX HN0 HN1 HN2 HN3
     go_enter Tryz.func110, Tryz.ntmps110
     go_wp2_with fail
     go_loopw [38] (fun i wr => ∃ k : Nat, k ≤ L ∧ i = .int .i64 k ∧ Hid (TT w wr t u A B c d) ∧ Hid (∀ j (h1 : j < t.args.length) (h2 : j < u.args.length), j < k → t.args[j] = u.args[j])) (fun i _ => L - (intOf i).toNat)
     case atStart => exact ⟨0, Nat.zero_le _, rfl, HX, Lib.hid fun j _ _ h => absurd h (by omega)⟩
     case round =>
      obtain ⟨k, hk, rfl, HB, HE⟩ := hrel
      have b3 := HB.out.a3
      have b4 := HB.out.b3
      rw [HL.out] at b3
      rw [HM.out] at b4
      have hbel := HB.out.bel
      by_cases hlt : k < L
      ·have hkl : k < t.args.length := by have := HL.out; omega
       have hkm : k < u.args.length := by have := HM.out; omega
       obtain ⟨b, off, A', ca, rfl, hb, c0, c1, c2, c3, hs⟩ := (HT.out.keep hbel).get k hkl
       obtain ⟨b', off', B', cb, rfl, hb', d0, d1, d2, d3, hs'⟩ := (HU.out.keep hbel).get k hkm
       have hbs := hbel.size
       have HN5 := Lib.hid (HN4.out k hkl hkm)
       have HE2 : Hid (t.args[k] = u.args[k] → ∀ j (h1 : j < t.args.length) (h2 : j < u.args.length), j < k + 1 → t.args[j] = u.args[j]) := Lib.hid (fun he j h1 h2 hj => by
        by_cases hjk : j = k
        ·subst hjk; exact he
        ·exact HE.out j h1 h2 (by omega))
       have HC := Lib.hid (fun W (h : TT w W t u (some ⟨b, off, none⟩) (some ⟨b', off', none⟩) c d) (hT : TmsAt W.heap.size W A' t.args[k].args) (hU : TmsAt W.heap.size W B' u.args[k].args) => HIH.out t.args[k] (List.getElem_mem hkl) u.args[k] A' B' ca cb W hT hU)
       have hBW : Below wr.heap.size wr (wr.alloc (.cells #[.int .i64 t.args[k].kind, .int .i64 t.args[k].num, .string t.args[k].name, .slice A' t.args[k].args.length ca] 26)).drew := ((Below.refl _ wr).alloc (Nat.le_refl _) _).drew
       have hd1 := ((hs.keep (hBW.mono hbs)).mono (Nat.le_trans hbs hBW.size))
       have hd2 := ((hs'.keep (hBW.mono hbs)).mono (Nat.le_trans hbs hBW.size))
       have HC2 := Lib.hid (HC.out (wr.alloc (.cells #[.int .i64 t.args[k].kind, .int .i64 t.args[k].num, .string t.args[k].name, .slice A' t.args[k].args.length ca] 26)).drew (HB.out.call hBW) hd1 hd2)
       have HEE := Lib.hid (eqT_iff (t := t.args[k]) (u := u.args[k]))
       have hlb : w.heap.size + 1 < wr.heap.size := HB.out.lt
       have hla : w.heap.size < wr.heap.size := by omega
       have hlc : b' < wr.heap.size := by omega
       have hk0 : (0 : Int) ≤ (k : Int) := by omega
       have hk1 : (k : Int) < (L : Int) := by omega
       have HD := Lib.hid (HB.out.call hBW)
       clear hs hs' hd1 hd2 HC hBW
       unfold tmV at HC2
       obtain ⟨x, hx⟩ : ∃ x, x = t.args[k] := ⟨_, rfl⟩
       obtain ⟨y, hy⟩ : ∃ y, y = u.args[k] := ⟨_, rfl⟩
       rw [← hx] at HD HC2 HN5 HE2 HEE c0 c1 c2 c3
       rw [← hy] at HC2 HN5 HE2 HEE d0 d1 d2 d3
       clear hx hy
       go_wp2_with fail
       go_region_law (first
        | (go_simp; go_at_call 110; (with_reducible refine HC2.out.mono ?_); rintro e w2 ⟨rfl, hB2⟩)
        | fail)
       all_goals
        have hX2 := HD.out.call hB2
        have hb2 := hX2.bel
        cases hq2 : eqT x y
        ·have hne : ¬ x = y := fun e => by rw [HEE.out.2 e] at hq2; cases hq2
         have hr := HN5.out hne
         subst hr
         go_wp2_with fail
         go_ret
         exact ⟨rfl, hb2⟩
        ·have he := HEE.out.1 hq2
         go_wp2_with fail
         go_roundw
         case rel => exact ⟨k + 1, by omega, by go_num, Lib.hid hX2, Lib.hid (HE2.out he)⟩
         case measure => simp [intOf] <;> omega
      ·have hr := HY.out (HEQ.out (args_ext (by rw [HL.out, HM.out]) fun j h1 h2 => HE.out j h1 h2 (by have := HL.out; omega)))
       subst hr
       go_wp2_with fail
       go_ret
       exact ⟨rfl, hbel⟩
    ·have hr := HN3.out e3
     subst hr
     have f1 : ((L : Int) == (M : Int)) = false := by simp; omega
     have f2 : ¬ (L : Int) = (M : Int) := by omega
     go_enter Tryz.func110, Tryz.ntmps110
     go_wp2_with fail
     go_ret
     exact ⟨rfl, hb0⟩
   ·have hr := HN2.out e2
    subst hr
    have f1 : ¬ a2.toList = b2.toList := fun h => e2 (ba_ext h)
    have f2 : (a2.toList == b2.toList) = false := by simpa using f1
    go_enter Tryz.func110, Tryz.ntmps110
    go_wp2_with fail
    go_ret
    exact ⟨rfl, hb0⟩
  ·have hr := HN1.out e1
   subst hr
   have f1 : (a1 == b1) = false := by simpa using e1
   go_enter Tryz.func110, Tryz.ntmps110
   go_wp2_with fail
   go_ret
   exact ⟨rfl, hb0⟩
 ·have hr := HN0.out e0
  subst hr
  have f1 : (a0 == b0) = false := by simpa using e0
  go_enter Tryz.func110, Tryz.ntmps110
  go_wp2_with fail
  go_ret
  exact ⟨rfl, hb0⟩
end Go.Proofs.YtfkhcpeahdkafaaGreat
namespace Hb
open Go Go.RowKit
noncomputable def sameT (t u : Tm) : Bool := validT t && validT u && eqT t u
end Hb
namespace Go.Proofs.YtfkhcpeahdkafaaGreat
open Go.RowKit Hb
set_option maxRecDepth 100000
set_option maxHeartbeats 1600000 in
theorem t_same (t u : Tm) (A B : Option Addr) (c d : Nat) (w : World) (hT : TmsAt w.heap.size w A t.args) (hU : TmsAt w.heap.size w B u.args) :
  Calls Tryz.prog 66 #[tmV t A c, tmV u B d] w fun e w' => e = .returned (.bool (sameT t u)) ∧ Below w.heap.size w w' := by
 have HX := Lib.hid (TT.start w t u A B c d 26)
 have HV1 := Lib.hid (fun W (h : TT w W t u A B c d) => t_valid t A c W ((hT.keep h.bel).mono h.bel.size))
 have HV2 := Lib.hid (fun W (h : TT w W t u A B c d) => t_valid u B d W ((hU.keep h.bel).mono h.bel.size))
 have HID := Lib.hid (fun W (h : TT w W t u A B c d) => t_identical t u A B c d W ((hT.keep h.bel).mono h.bel.size) ((hU.keep h.bel).mono h.bel.size))
 have HCE := Lib.hid (fun W (h : TT w W t u A B c d) => (⟨h.a0, h.a1, h.a2, h.a3, h.b0, h.b1, h.b2, h.b3⟩ : _ ∧ _ ∧ _ ∧ _ ∧ _ ∧ _ ∧ _ ∧ _))
 have HS : Hid (sameT t u = (validT t && validT u && eqT t u)) := Lib.hid rfl
 clear hT hU
 unfold tmV at *
 generalize sameT t u = r at *
 generalize validT t = v1 at *
 generalize validT u = v2 at *
 generalize eqT t u = v3 at *
 generalize t.kind = a0 at *
 generalize t.num = a1 at *
 generalize t.name = a2 at *
 generalize t.args.length = a3 at *
 generalize u.kind = b0 at *
 generalize u.num = b1 at *
 generalize u.name = b2 at *
 generalize u.args.length = b3 at *
 go_enter Tryz.func66, Tryz.ntmps66
 go_wp2_with fail
 refine (HV1.out _ HX.out).mono ?_; rintro e w1 ⟨rfl, hB1⟩
 have HX1 := Lib.hid (HX.out.call hB1)
 obtain ⟨p0, p1, p2, p3, q0, q1, q2, q3⟩ := HCE.out _ HX1.out
 clear HX hB1 HV1
 cases v1
 ·have hb := HX1.out.bel
  go_wp2_with fail
  go_ret
  exact ⟨ret_bool (by rw [HS.out]; rfl), hb⟩
 ·go_wp2_with fail
  refine (HV2.out _ HX1.out).mono ?_; rintro e w2 ⟨rfl, hB2⟩
  have HX2 := Lib.hid (HX1.out.call hB2)
  clear p0 p1 p2 p3 q0 q1 q2 q3
  obtain ⟨p0, p1, p2, p3, q0, q1, q2, q3⟩ := HCE.out _ HX2.out
  clear HX1 hB2 HV2
  cases v2
  ·have hb := HX2.out.bel
   go_wp2_with fail
   go_ret
   exact ⟨ret_bool (by rw [HS.out]; rfl), hb⟩
  ·go_wp2_with fail
   refine (HID.out _ HX2.out).mono ?_; rintro e w3 ⟨rfl, hB3⟩
   have hb := (HX2.out.call hB3).bel
   go_wp2_with fail
   go_ret
   exact ⟨ret_bool (by rw [HS.out]; simp), hb⟩
set_option maxHeartbeats 1600000 in
theorem r3_same (t u : Tm) (A B : Option Addr) (c d : Nat) (w : World) (hT : TmsAt w.heap.size w A t.args) (hU : TmsAt w.heap.size w B u.args) :
  Calls Tryz.prog 52 #[tmV t A c, tmV u B d] w fun e w' => e = .returned (.bool (sameT t u)) ∧ Below w.heap.size w w' := by
 have HX := Lib.hid (TT.start w t u A B c d 26)
 have HV1 := Lib.hid (fun W (h : TT w W t u A B c d) => ref_tvalid t A c W ((hT.keep h.bel).mono h.bel.size))
 have HV2 := Lib.hid (fun W (h : TT w W t u A B c d) => ref_tvalid u B d W ((hU.keep h.bel).mono h.bel.size))
 have HID := Lib.hid (fun W (h : TT w W t u A B c d) => r3_identical t u A B c d W ((hT.keep h.bel).mono h.bel.size) ((hU.keep h.bel).mono h.bel.size))
 have HCE := Lib.hid (fun W (h : TT w W t u A B c d) => (⟨h.a0, h.a1, h.a2, h.a3, h.b0, h.b1, h.b2, h.b3⟩ : _ ∧ _ ∧ _ ∧ _ ∧ _ ∧ _ ∧ _ ∧ _))
 have HS : Hid (sameT t u = (validT t && validT u && eqT t u)) := Lib.hid rfl
 clear hT hU
 unfold tmV at *
 generalize sameT t u = r at *
 generalize validT t = v1 at *
 generalize validT u = v2 at *
 generalize eqT t u = v3 at *
 generalize t.kind = a0 at *
 generalize t.num = a1 at *
 generalize t.name = a2 at *
 generalize t.args.length = a3 at *
 generalize u.kind = b0 at *
 generalize u.num = b1 at *
 generalize u.name = b2 at *
 generalize u.args.length = b3 at *
 go_enter Tryz.func52, Tryz.ntmps52
 go_wp2_with fail
 refine (HV1.out _ HX.out).mono ?_; rintro e w1 ⟨rfl, hB1⟩
 have HX1 := Lib.hid (HX.out.call hB1)
 obtain ⟨p0, p1, p2, p3, q0, q1, q2, q3⟩ := HCE.out _ HX1.out
 clear HX hB1 HV1
 cases v1
 ·have hb := HX1.out.bel
  go_wp2_with fail
  go_ret
  exact ⟨ret_bool (by rw [HS.out]; rfl), hb⟩
 ·go_wp2_with fail
  refine (HV2.out _ HX1.out).mono ?_; rintro e w2 ⟨rfl, hB2⟩
  have HX2 := Lib.hid (HX1.out.call hB2)
  clear p0 p1 p2 p3 q0 q1 q2 q3
  obtain ⟨p0, p1, p2, p3, q0, q1, q2, q3⟩ := HCE.out _ HX2.out
  clear HX1 hB2 HV2
  cases v2
  ·have hb := HX2.out.bel
   go_wp2_with fail
   go_ret
   exact ⟨ret_bool (by rw [HS.out]; rfl), hb⟩
  ·go_wp2_with fail
   refine (HID.out _ HX2.out).mono ?_; rintro e w3 ⟨rfl, hB3⟩
   have hb := (HX2.out.call hB3).bel
   go_wp2_with fail
   go_ret
   exact ⟨ret_bool (by rw [HS.out]; simp), hb⟩
end Go.Proofs.YtfkhcpeahdkafaaGreat
