/- Plain functions and laws: characters, digits, escapes. No program in sight. Small helpers for the walks: endings, slices that read as lists, bytes to strings. The lexer as plain functions on lists of bytes. m: the converted bytes from a place on; l: the raw ones. Tokens as plain functions: m: the converted bytes, l: the raw ones, p: the place. Numbers from digits: plain laws. Quoted items: plain laws. All and Skip as plain functions; where tokens end. Plain laws: a text that is written with escapes between quotes is read as itself. Spelling as plain functions, and what quoted names look like. -/
import Derived.WalkKit
import Derived.WalkSpells
import Derived.WalkLawsBesides
import Derived.LoopTactic
import Derived.Outline
import Derived.Lib.Hide
import Derived.Deep.QuietTactic
import Derived.BigQuiet
import Derived.Laws.Strings
import Derived.Maps.AppendAt
import Derived.Deep.DeepMust
namespace Hb
def isCh (c : Int) : Bool := decide (0 ≤ c) && decide (c ≤ 255)
def among (l : List UInt8) (c : Int) : Bool := l.any fun b => (b.toNat : Int) == c
def cls (c : Int) : Int :=
 if ¬(0 ≤ c ∧ c ≤ 255) then 0
 else if (9 ≤ c ∧ c ≤ 13) ∨ c = 32 then 1
 else if 97 ≤ c ∧ c ≤ 122 then 2
 else if (65 ≤ c ∧ c ≤ 90) ∨ c = 95 then 3
 else if 48 ≤ c ∧ c ≤ 57 then 4
 else if among [35, 36, 38, 42, 43, 45, 46, 47, 58, 60, 61, 62, 63, 64, 94, 126, 92] c then 5
 else if among [33, 40, 41, 44, 59, 91, 93, 123, 125, 37, 124] c then 6
 else if among [39, 34, 96] c then 7
 else 8
def prF (l : List (Int × Int)) (j : Nat) : Int := (l.getD j (0, 0)).1
def prT (l : List (Int × Int)) (j : Nat) : Int := (l.getD j (0, 0)).2
theorem prF_get (l : List (Int × Int)) (j : Nat) (h : j < l.length) : l[j].1 = prF l j := by
 unfold prF; rw [List.getD_eq_getElem?_getD, List.getElem?_eq_getElem h]; rfl
theorem prT_get (l : List (Int × Int)) (j : Nat) (h : j < l.length) : l[j].2 = prT l j := by
 unfold prT; rw [List.getD_eq_getElem?_getD, List.getElem?_eq_getElem h]; rfl
def okAt (l : List (Int × Int)) (j : Nat) : Bool := isCh (prF l j) && (isCh (prT l j) && (!(prF l j == prT l j) && (j == 0 || decide (prF l (j - 1) < prF l j))))
theorem okAt_1 (l k) (h : isCh (prF l k) = false) : okAt l k = false := by unfold okAt; rw [h]; rfl
theorem okAt_2 (l k) (h : isCh (prF l k) = true) (h2 : isCh (prT l k) = false) : okAt l k = false := by unfold okAt; rw [h, h2]; rfl
theorem okAt_3 (l k) (h : isCh (prF l k) = true) (h2 : isCh (prT l k) = true) (h3 : (prF l k == prT l k) = true) : okAt l k = false := by unfold okAt; rw [h, h2, h3]; rfl
theorem okAt_4 (l k) (h0 : k = 0) (h : isCh (prF l k) = true) (h2 : isCh (prT l k) = true) (h3 : (prF l k == prT l k) = false) : okAt l k = true := by unfold okAt; rw [h, h2, h3, h0]; rfl
theorem okAt_5 (l k) (h : isCh (prF l k) = true) (h2 : isCh (prT l k) = true) (h3 : (prF l k == prT l k) = false) (h4 : prF l (k - 1) < prF l k) : okAt l k = true := by unfold okAt; rw [h, h2, h3]; simp [h4]
theorem okAt_6 (l k) (h : isCh (prF l k) = true) (h2 : isCh (prT l k) = true) (h3 : (prF l k == prT l k) = false) (h0 : 0 < k) (h4 : ¬ prF l (k - 1) < prF l k) : okAt l k = false := by unfold okAt; rw [h, h2, h3]; simp; omega
def pvalid (l : List (Int × Int)) : Bool := (List.range l.length).all (okAt l)
theorem pvalid_all (l : List (Int × Int)) (h : ∀ j, j < l.length → okAt l j = true) : pvalid l = true := by
 unfold pvalid; rw [List.all_eq_true]; intro x hx; exact h x (List.mem_range.1 hx)
theorem pvalid_no (l : List (Int × Int)) (j : Nat) (hj : j < l.length) (h : okAt l j = false) : pvalid l = false := by
 unfold pvalid; rw [List.all_eq_false]; exact ⟨j, List.mem_range.2 hj, by simp [h]⟩
theorem pvalid_at (l : List (Int × Int)) (h : pvalid l = true) (j : Nat) (hj : j < l.length) : okAt l j = true := by
 unfold pvalid at h; rw [List.all_eq_true] at h; exact h j (List.mem_range.2 hj)
def convT (l : List (Int × Int)) (c : Int) : Int := l.foldl (fun t p => if p.1 = c then p.2 else t) c
end Hb
namespace Hb
open Go Go.RowKit
theorem ret_int {k : IntKind} {a b : Int} (h : a = b) : Ending.returned (.int k a) = .returned (.int k b) := by rw [h]
theorem ret_bool {a b : Bool} (h : a = b) : Ending.returned (.bool a) = .returned (.bool b) := by rw [h]
theorem quiet0 {P : Program} {f : FuncId} {args : Array Value} {w : World} {n : Nat} {v : Value}
  (h : Calls P f args (w.drewN n) fun e w' => e = .returned v ∧ w.drewN n = w') : Calls P f args (w.drewN n) fun e w'' => e = .returned v ∧ ∃ m, w'' = w.drewN m :=
 h.mono fun _ _ ⟨he, hm⟩ => ⟨he, n, hm.symm⟩
theorem bl_drewN {B : Nat} {a w : World} (h : Below B a w) (n : Nat) : Below B a (w.drewN n) := h.trans ⟨rfl, rfl, rfl, Nat.le_refl _, fun _ _ => rfl⟩
theorem wpList_append_one {P : Program} {w : World} {ops : Array Oper} {rest : List Oper} {o : Oper} {a : Act} {Q : Exit → Act → World → Prop} (hgd : o.guard = none) (s x : Operand) (t e : TypeId)
  (ho : o.op = .call { callee := .builtin .append, args := #[s, x], argTypes := #[t, t] }) (ht : P.underlying t = some (.slice e)) (z : Value) (size bytes : Nat)
  (hinfo : (P.info? e).map (fun i => (i.zero, i.size, i.bytes)) = some (some z, size, bytes)) (hzs : z.cells.size = size) (hsz : 0 < size)
  (base : Nat) (v : Value) (n : Nat) (xs : List Value) (hs : a.eval s = v) (W : World) (hown : W.ownsRow base e size v n xs) (cs : Array Value) (hcs : cs.size = size) (h1 : ∀ u ∈ cs.toList, u.oneCell' = true)
  (hw : w = W.alloc (.cells cs e)) (hx : a.eval x = .slice (some ⟨W.heap.size, 0, none⟩) 1 1) (h63 : n + 1 ≤ 4611686018427387904) (hbytes : (n + 1) * bytes ≤ 140737488355328) (hbase : base ≤ W.heap.size)
  (h : ∀ v' w', w'.ownsRow base e size v' (n + 1) (xs ++ cs.toList) → Below base W w' → w.grownBy w' v.ownBlock → wpList P ops Q rest (a.put o.dst v') w') : wpList P ops Q (o :: rest) a w := by
 subst hw
 obtain ⟨i, hi, hz0, hz1, hz2⟩ := info_parts hinfo
 refine wpList_append_own _ hgd s x t ho base e i z size bytes ht hi hz0 hz1 hz2 hzs hsz v n xs hs (hown.alloc _) ⟨W.heap.size, 0, none⟩ 1 1 cs.toList hx (by simp [hcs]) ?_ h1 (by unfold maxLen; omega) hbytes (by simp; omega) ?_
 ·intro j u hu
  have e1 : (⟨W.heap.size, 0, none⟩ : Addr).add j = ⟨W.heap.size, j, none⟩ := by unfold Addr.add; split <;> simp_all
  rw [e1, World.cell?_alloc_new]
  simpa using hu
 ·intro v' w' ho' hg' _
  refine h v' w' ho' ?_ hg'
  refine (((Below.refl base W).alloc hbase _).grown hg' (by simp; omega) ?_)
  intro k hk
  rcases hown.2 with ⟨rfl, _⟩ | ⟨g, cap, cur, rfl, hbg, _⟩
  ·simp [Value.ownBlock] at hk
  ·simp [Value.ownBlock] at hk; omega
def Pairs (w : World) (A : Option Addr) (l : List (Int × Int)) : Prop :=
 ∀ j (h : j < l.length), ∃ b off, A = some ⟨b, off, none⟩ ∧ b < w.heap.size ∧ w.cell? ⟨b, off + j * 2, none⟩ = some (.int .i64 l[j].1) ∧ w.cell? ⟨b, off + j * 2 + 1, none⟩ = some (.int .i64 l[j].2)
theorem Pairs.below {w w' : World} {A : Option Addr} {l : List (Int × Int)} (h : Pairs w A l) (hb : Below w.heap.size w w') : Pairs w' A l := fun j hj => by
 obtain ⟨b, off, e, hlt, c1, c2⟩ := h j hj
 exact ⟨b, off, e, Nat.lt_of_lt_of_le hlt hb.size, (hb.cell (p := ⟨b, _, none⟩) hlt).trans c1, (hb.cell (p := ⟨b, _, none⟩) hlt).trans c2⟩
theorem Pairs.nil (w : World) (A : Option Addr) : Pairs w A [] := fun j h => absurd h (by simp)
end Hb
namespace Hb
end Hb
namespace Hb
end Hb
namespace Hb
end Hb
namespace Hb
end Hb
namespace Hb
end Hb
namespace Hb
end Hb
namespace Hb
def every (q : Int → Bool) (s : List UInt8) : Bool := s.all fun b => q (b.toNat : Int)
theorem tl_loop (s : ByteArray) : ∀ (d i : Nat) (r : List UInt8), s.size - i = d → ByteArray.toList.loop s i r = r.reverse ++ s.data.toList.drop i
 | 0, i, r, h => by
  unfold ByteArray.toList.loop
  rw [if_neg (by omega), List.drop_of_length_le (by simp; omega)]; simp
 | d + 1, i, r, h => by
  have hi : i < s.size := by omega
  have hi' : i < s.data.toList.length := by simpa using hi
  unfold ByteArray.toList.loop
  rw [if_pos hi, tl_loop s d (i + 1) _ (by omega), List.drop_eq_getElem_cons hi']
  simp [ByteArray.get!, hi]
  first | rfl | (have : s.data[i]! = s.data[i] := getElem!_pos s.data i hi; simp [this]) | skip
theorem tl_data (s : ByteArray) : s.toList = s.data.toList := by
 unfold ByteArray.toList
 rw [tl_loop s _ 0 [] rfl]; simp
end Hb
