/- Small helpers for the walks: endings, slices that read as lists, bytes to strings. -/
import Derived.WalkKit
import Derived.WalkSpells
import Derived.WalkLawsBesides
import Derived.LoopTactic
import Derived.Outline
import Derived.Lib.Hide
import Derived.Deep.QuietTactic
import Derived.BigQuiet
import Derived.Laws.Strings
import Derived.Maps.AppendAt
import Derived.Deep.DeepMust
namespace Hb
open Go Go.RowKit

theorem ret_int {k : IntKind} {a b : Int} (h : a = b) : Ending.returned (.int k a) = .returned (.int k b) := by rw [h]
theorem ret_bool {a b : Bool} (h : a = b) : Ending.returned (.bool a) = .returned (.bool b) := by rw [h]
theorem ret_str {a b : ByteArray} (h : a = b) : Ending.returned (.string a) = .returned (.string b) := by rw [h]
theorem ret_ib {k : IntKind} {a a' : Int} {b b' : Bool} (h : a = a') (h' : b = b') : Ending.returned (.tuple #[.int k a, .bool b]) = .returned (.tuple #[.int k a', .bool b']) := by rw [h, h']
theorem ret_sb {a a' : ByteArray} {b b' : Bool} (h : a = a') (h' : b = b') : Ending.returned (.tuple #[.string a, .bool b]) = .returned (.tuple #[.string a', .bool b']) := by rw [h, h']
theorem ret_val {a b : Value} (h : a = b) : Ending.returned a = .returned b := by rw [h]

theorem quiet0 {P : Program} {f : FuncId} {args : Array Value} {w : World} {n : Nat} {v : Value}
    (h : Calls P f args (w.drewN n) fun e w' => e = .returned v ∧ w.drewN n = w') : Calls P f args (w.drewN n) fun e w'' => e = .returned v ∧ ∃ m, w'' = w.drewN m :=
  h.mono fun _ _ ⟨he, hm⟩ => ⟨he, n, hm.symm⟩

theorem bl_drewN {B : Nat} {a w : World} (h : Below B a w) (n : Nat) : Below B a (w.drewN n) := h.trans ⟨rfl, rfl, rfl, Nat.le_refl _, fun _ _ => rfl⟩

theorem size_data (s : ByteArray) : s.data.toList.length = s.size := by simp

/-- The cells of a string's bytes. -/
def byteCells (l : List UInt8) : List Value := l.map fun b => .int .u8 (b.toNat : Int)
theorem byteCells_snoc (l : List UInt8) (b : UInt8) : byteCells (l ++ [b]) = byteCells l ++ [.int .u8 (b.toNat : Int)] := by simp [byteCells]
theorem byteCells_len (l : List UInt8) : (byteCells l).length = l.length := by simp [byteCells]

/-- 'string(b)' of a row of the call's own (nil too). -/
theorem conv_own {P : Program} (w : World) (src dst e : TypeId) (hs : P.underlying src = some (.slice e)) (he : P.underlying e = some (.int .u8)) (hd : P.underlying dst = some .string)
    (base : Nat) (v : Value) (n : Nat) (l : List UInt8) (hown : w.ownsRow base e 1 v n (byteCells l)) :
    (convert src dst v).run P w = .ok (.string ⟨l.toArray⟩) w := by
  have hlen := hown.1
  rw [byteCells_len, Nat.mul_one] at hlen
  rcases hown.2 with ⟨rfl, h0⟩ | ⟨g, cap, cur, rfl, _, hh, hn, _, hsz, ht⟩
  · have : l = [] := List.eq_nil_of_length_eq_zero (by omega)
    subst this
    exact run_convert_bytes_nil w src e hs he _ _ dst hd
  · subst hlen
    refine run_convert_bytes_back w src dst e ⟨g, 0, none⟩ cap l hs he hd fun j hj => ?_
    have e1 : (⟨g, 0, none⟩ : Addr).add j = ⟨g, j, none⟩ := by unfold Addr.add; split <;> simp_all
    rw [e1]
    have e2 : cur.toList[j]? = some (.int .u8 (l[j].toNat : Int)) := by
      have : (byteCells l)[j]? = some (.int .u8 (l[j].toNat : Int)) := by simp [byteCells, List.getElem?_eq_getElem hj]
      rw [← ht, List.getElem?_take_of_lt (by omega)] at this
      exact this
    show World.cell? w _ = _
    unfold World.cell?
    simp only [hh]
    simpa using e2

/-- The same of a literal's new block, one or two bytes. -/
theorem conv_new1 {P : Program} (src dst e : TypeId) (hs : P.underlying src = some (.slice e)) (he : P.underlying e = some (.int .u8)) (hd : P.underlying dst = some .string)
    (n : Int) (h0 : 0 ≤ n) (h1 : n ≤ 255) (w : World) : (convert src dst (.slice (some ⟨w.heap.size, 0, none⟩) 1 1)).run P (w.alloc (.cells #[.int .u8 n] e)) = .ok (.string ⟨#[n.toNat.toUInt8]⟩) (w.alloc (.cells #[.int .u8 n] e)) := by
  refine run_convert_bytes_back (w.alloc (.cells #[.int .u8 n] e)) src dst e ⟨w.heap.size, 0, none⟩ 1 [n.toNat.toUInt8] hs he hd fun j hj => ?_
  have : j = 0 := by simp at hj; omega
  subst this
  show (w.alloc (.cells #[.int .u8 n] e)).cell? ⟨w.heap.size, 0, none⟩ = _
  rw [World.cell?_alloc_new]
  simp; omega
theorem conv_new2 {P : Program} (src dst e : TypeId) (hs : P.underlying src = some (.slice e)) (he : P.underlying e = some (.int .u8)) (hd : P.underlying dst = some .string)
    (m n : Int) (g0 : 0 ≤ m) (g1 : m ≤ 255) (h0 : 0 ≤ n) (h1 : n ≤ 255) (w : World) : (convert src dst (.slice (some ⟨w.heap.size, 0, none⟩) 2 2)).run P (w.alloc (.cells #[.int .u8 m, .int .u8 n] e)) = .ok (.string ⟨#[m.toNat.toUInt8, n.toNat.toUInt8]⟩) (w.alloc (.cells #[.int .u8 m, .int .u8 n] e)) := by
  refine run_convert_bytes_back (w.alloc (.cells #[.int .u8 m, .int .u8 n] e)) src dst e ⟨w.heap.size, 0, none⟩ 2 [m.toNat.toUInt8, n.toNat.toUInt8] hs he hd fun j hj => ?_
  match j, hj with
  | 0, _ =>
    show (w.alloc (.cells #[.int .u8 m, .int .u8 n] e)).cell? ⟨w.heap.size, 0, none⟩ = _
    rw [World.cell?_alloc_new]
    simp; omega
  | 1, _ =>
    show (w.alloc (.cells #[.int .u8 m, .int .u8 n] e)).cell? ⟨w.heap.size, 0 + 1, none⟩ = _
    rw [World.cell?_alloc_new]
    simp; omega

/-- 'append(v, x)' onto a row of the call's own: x lies in a new block of its own. -/
theorem wpList_append_one {P : Program} {w : World} {ops : Array Oper} {rest : List Oper} {o : Oper} {a : Act} {Q : Exit → Act → World → Prop} (hgd : o.guard = none) (s x : Operand) (t e : TypeId)
    (ho : o.op = .call { callee := .builtin .append, args := #[s, x], argTypes := #[t, t] }) (ht : P.underlying t = some (.slice e)) (z : Value) (size bytes : Nat)
    (hinfo : (P.info? e).map (fun i => (i.zero, i.size, i.bytes)) = some (some z, size, bytes)) (hzs : z.cells.size = size) (hsz : 0 < size)
    (base : Nat) (v : Value) (n : Nat) (xs : List Value) (hs : a.eval s = v) (W : World) (hown : W.ownsRow base e size v n xs) (cs : Array Value) (hcs : cs.size = size) (h1 : ∀ u ∈ cs.toList, u.oneCell' = true)
    (hw : w = W.alloc (.cells cs e)) (hx : a.eval x = .slice (some ⟨W.heap.size, 0, none⟩) 1 1) (h63 : n + 1 ≤ 4611686018427387904) (hbytes : (n + 1) * bytes ≤ 140737488355328) (hbase : base ≤ W.heap.size)
    (h : ∀ v' w', w'.ownsRow base e size v' (n + 1) (xs ++ cs.toList) → Below base W w' → w.grownBy w' v.ownBlock → wpList P ops Q rest (a.put o.dst v') w') : wpList P ops Q (o :: rest) a w := by
  subst hw
  obtain ⟨i, hi, hz0, hz1, hz2⟩ := info_parts hinfo
  refine wpList_append_own _ hgd s x t ho base e i z size bytes ht hi hz0 hz1 hz2 hzs hsz v n xs hs (hown.alloc _) ⟨W.heap.size, 0, none⟩ 1 1 cs.toList hx (by simp [hcs]) ?_ h1 (by unfold maxLen; omega) hbytes (by simp; omega) ?_
  · intro j u hu
    have e1 : (⟨W.heap.size, 0, none⟩ : Addr).add j = ⟨W.heap.size, j, none⟩ := by unfold Addr.add; split <;> simp_all
    rw [e1, World.cell?_alloc_new]
    simpa using hu
  · intro v' w' ho' hg' _
    refine h v' w' ho' ?_ hg'
    refine (((Below.refl base W).alloc hbase _).grown hg' (by simp; omega) ?_)
    intro k hk
    rcases hown.2 with ⟨rfl, _⟩ | ⟨g, cap, cur, rfl, hbg, _⟩
    · simp [Value.ownBlock] at hk
    · simp [Value.ownBlock] at hk; omega

theorem wpList_append_byte {P : Program} {w : World} {ops : Array Oper} {rest : List Oper} {o : Oper} {a : Act} {Q : Exit → Act → World → Prop} (hgd : o.guard = none) (s x : Operand) (t e : TypeId)
    (ho : o.op = .call { callee := .builtin .append, args := #[s, x], argTypes := #[t, t] }) (ht : P.underlying t = some (.slice e))
    (hinfo : (P.info? e).map (fun i => (i.zero, i.size, i.bytes)) = some (some (.int .u8 0), 1, 1))
    (base : Nat) (v : Value) (n : Nat) (l : List UInt8) (hs : a.eval s = v) (W : World) (hown : W.ownsRow base e 1 v n (byteCells l)) (c : Int) (h0 : 0 ≤ c) (h1 : c ≤ 255)
    (hw : w = W.alloc (.cells #[.int .u8 c] e)) (hx : a.eval x = .slice (some ⟨W.heap.size, 0, none⟩) 1 1) (h63 : n ≤ 70368744177664) (hbase : base ≤ W.heap.size)
    (h : ∀ v' w', w'.ownsRow base e 1 v' (n + 1) (byteCells (l ++ [c.toNat.toUInt8])) → Below base W w' → wpList P ops Q rest (a.put o.dst v') w') : wpList P ops Q (o :: rest) a w := by
  refine wpList_append_one hgd s x t e ho ht _ 1 1 hinfo rfl (by decide) base v n _ hs W hown #[.int .u8 c] rfl (by simp [Value.oneCell']) hw hx (by omega) (by omega) hbase fun v' w' ho' hb' _ => h v' w' ?_ hb'
  rw [byteCells_snoc]
  have : ((c.toNat.toUInt8).toNat : Int) = c := by simp; omega
  rw [this]; exact ho'

/-- A slice of pairs of integers that reads as a list. -/
def Pairs (w : World) (A : Option Addr) (l : List (Int × Int)) : Prop :=
  ∀ j (h : j < l.length), ∃ b off, A = some ⟨b, off, none⟩ ∧ b < w.heap.size ∧ w.cell? ⟨b, off + j * 2, none⟩ = some (.int .i64 l[j].1) ∧ w.cell? ⟨b, off + j * 2 + 1, none⟩ = some (.int .i64 l[j].2)
theorem Pairs.below {w w' : World} {A : Option Addr} {l : List (Int × Int)} (h : Pairs w A l) (hb : Below w.heap.size w w') : Pairs w' A l := fun j hj => by
  obtain ⟨b, off, e, hlt, c1, c2⟩ := h j hj
  exact ⟨b, off, e, Nat.lt_of_lt_of_le hlt hb.size, (hb.cell (p := ⟨b, _, none⟩) hlt).trans c1, (hb.cell (p := ⟨b, _, none⟩) hlt).trans c2⟩
theorem Pairs.nil (w : World) (A : Option Addr) : Pairs w A [] := fun j h => absurd h (by simp)
end Hb
