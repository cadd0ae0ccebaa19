/- Plain functions and laws: characters, digits, escapes. No program in sight. Small helpers for the walks: endings, slices that read as lists, bytes to strings. The lexer as plain functions on lists of bytes. m: the converted bytes from a place on; l: the raw ones. Tokens as plain functions: m: the converted bytes, l: the raw ones, p: the place. Numbers from digits: plain laws. Quoted items: plain laws. All and Skip as plain functions; where tokens end. Plain laws: a text that is written with escapes between quotes is read as itself. Spelling as plain functions, and what quoted names look like. -/
import Derived.WalkKit
import Derived.WalkSpells
import Derived.WalkLawsBesides
import Derived.LoopTactic
import Derived.Outline
import Derived.Lib.Hide
import Derived.Deep.QuietTactic
import Derived.BigQuiet
import Derived.Laws.Strings
import Derived.Maps.AppendAt
import Derived.Deep.DeepMust
namespace Hb
/-- The byte at a place, as an integer (0 behind the end). -/
def bAt (l : List UInt8) (k : Nat) : Int := ((l.getD k 0).toNat : Int)
theorem bAt_lo (l : List UInt8) (k : Nat) : 0 ≤ bAt l k := by unfold bAt; omega
theorem bAt_hi (l : List UInt8) (k : Nat) : bAt l k ≤ 255 := by unfold bAt; have := (l.getD k 0).toNat_lt; omega
theorem bAt_get (l : List UInt8) (k : Nat) (h : k < l.length) : (l[k].toNat : Int) = bAt l k := by
  unfold bAt; rw [List.getD_eq_getElem?_getD, List.getElem?_eq_getElem h]; rfl
theorem bAt_mk (s : ByteArray) (k : Nat) (h : k < s.size) : (s[k].toNat : Int) = bAt s.data.toList k := by
  have h' : k < s.data.toList.length := by simpa using h
  rw [← bAt_get _ _ h']; rfl
def isCh (c : Int) : Bool := decide (0 ≤ c) && decide (c ≤ 255)
theorem isCh_iff (c : Int) : isCh c = true ↔ 0 ≤ c ∧ c ≤ 255 := by simp [isCh]
def among (l : List UInt8) (c : Int) : Bool := l.any fun b => (b.toNat : Int) == c
theorem among_snoc (l : List UInt8) (k : Nat) (c : Int) (h : k < l.length) : among (l.take (k+1)) c = (among (l.take k) c || (bAt l k == c)) := by
  unfold among; rw [List.take_succ_eq_append_getElem h, List.any_append, ← bAt_get _ _ h]; simp
theorem among_stop (l : List UInt8) (k : Nat) (c : Int) (h : k < l.length) (e : bAt l k = c) : among l c = true := by
  unfold among; rw [List.any_eq_true]; exact ⟨l[k], List.getElem_mem h, by rw [bAt_get _ _ h, e]; simp⟩
theorem among_all (l : List UInt8) (k : Nat) (c : Int) (h : l.length ≤ k) (e : among (l.take k) c = false) : among l c = false := by
  rwa [List.take_of_length_le h] at e
/-- The class of a character. -/
def cls (c : Int) : Int :=
  if ¬(0 ≤ c ∧ c ≤ 255) then 0
  else if (9 ≤ c ∧ c ≤ 13) ∨ c = 32 then 1
  else if 97 ≤ c ∧ c ≤ 122 then 2
  else if (65 ≤ c ∧ c ≤ 90) ∨ c = 95 then 3
  else if 48 ≤ c ∧ c ≤ 57 then 4
  else if among [35, 36, 38, 42, 43, 45, 46, 47, 58, 60, 61, 62, 63, 64, 94, 126, 92] c then 5
  else if among [33, 40, 41, 44, 59, 91, 93, 123, 125, 37, 124] c then 6
  else if among [39, 34, 96] c then 7
  else 8
theorem cls_ite (P : Int → Prop) (c : Prop) [Decidable c] (a b : Int) (ha : P a) (hb : P b) : P (if c then a else b) := by split <;> assumption
theorem cls_lo (c : Int) : 0 ≤ cls c := by
  unfold cls; repeat' (refine cls_ite (0 ≤ ·) _ _ _ (by omega) ?_)
  omega
theorem cls_hi (c : Int) : cls c ≤ 8 := by
  unfold cls; repeat' (refine cls_ite (· ≤ 8) _ _ _ (by omega) ?_)
  omega
theorem cls_out (c : Int) (h : ¬(0 ≤ c ∧ c ≤ 255)) : cls c = 0 := by unfold cls; rw [if_pos h]
def alnum (c : Int) : Bool := cls c == 2 || (cls c == 3 || cls c == 4)
/-- The rows of the program's table of classes. -/
def rowOf : List (List UInt8) := [[9, 10, 11, 12, 13, 32],
  [97, 98, 99, 100, 101, 102, 103, 104, 105, 106, 107, 108, 109, 110, 111, 112, 113, 114, 115, 116, 117, 118, 119, 120, 121, 122],
  [65, 66, 67, 68, 69, 70, 71, 72, 73, 74, 75, 76, 77, 78, 79, 80, 81, 82, 83, 84, 85, 86, 87, 88, 89, 90, 95],
  [48, 49, 50, 51, 52, 53, 54, 55, 56, 57], [35, 36, 38, 42, 43, 45, 46, 47, 58, 60, 61, 62, 63, 64, 94, 126, 92],
  [33, 40, 41, 44, 59, 91, 93, 123, 125, 37, 124], [39, 34, 96]]
/-- The first row that holds a character (7: none). -/
def rowIx (c : Int) : Nat := rowOf.findIdx fun l => among l c
theorem rowIx_cls : ∀ n : Nat, n < 256 → cls (n : Int) = (rowIx (n : Int) : Int) + 1 := by decide +kernel
theorem rowIx_le (c : Int) : rowIx c ≤ 7 := List.findIdx_le_length
/-- The value of a digit. -/
def dig (c base : Int) : Option Int :=
  if base < 2 ∨ 36 < base then none
  else
    let v := if 48 ≤ c ∧ c ≤ 57 then c - 48 else if 97 ≤ c ∧ c ≤ 122 then c - 97 + 10 else if 65 ≤ c ∧ c ≤ 90 then c - 65 + 10 else 36
    if v < base then some v else none
def digV (c base : Int) : Int := (dig c base).getD 0
def digOk (c base : Int) : Bool := (dig c base).isSome
/-- What a letter behind a backslash denotes. -/
def une (c : Int) : Option Int :=
  if c = 92 ∨ c = 39 ∨ c = 34 ∨ c = 96 then some c
  else if c = 97 then some 7 else if c = 98 then some 8 else if c = 116 then some 9 else if c = 110 then some 10
  else if c = 118 then some 11 else if c = 102 then some 12 else if c = 114 then some 13 else none
def uneV (c : Int) : Int := (une c).getD 0
def uneOk (c : Int) : Bool := (une c).isSome
def letters : List UInt8 := [97, 98, 116, 110, 118, 102, 114]
theorem une_at (k : Nat) (h : k < 7) (c : Int) (e : bAt letters k = c) : une c = some (7 + k) := by
  subst e
  match k, h with
  | 0, _ => rfl
  | 1, _ => rfl
  | 2, _ => rfl
  | 3, _ => rfl
  | 4, _ => rfl
  | 5, _ => rfl
  | 6, _ => rfl
theorem among_iff (l : List UInt8) (c : Int) : among l c = true ↔ ∃ b ∈ l, (b.toNat : Int) = c := by simp [among]
theorem une_no (c : Int) (h : among letters c = false) : une c = if among [92, 39, 34, 96] c then some c else none := by
  simp only [among, letters, List.any_cons, List.any_nil, Bool.or_eq_false_iff, beq_eq_false_iff_ne, ne_eq, Bool.or_eq_true, beq_iff_eq] at h ⊢
  obtain ⟨h1, h2, h3, h4, h5, h6, h7, _⟩ := h
  simp at h1 h2 h3 h4 h5 h6 h7
  unfold une
  by_cases e : c = 92 ∨ c = 39 ∨ c = 34 ∨ c = 96
  · rw [if_pos e, if_pos (by simp; omega)]
  · rw [if_neg e, if_neg (by omega), if_neg (by omega), if_neg (by omega), if_neg (by omega), if_neg (by omega), if_neg (by omega), if_neg (by omega), if_neg (by simp; omega)]
/-- How a character is written within single quotes. -/
def hexd (n : Nat) : UInt8 := if n < 10 then (48 + n).toUInt8 else (87 + n).toUInt8
def esc (c : Int) : List UInt8 :=
  if ¬(0 ≤ c ∧ c ≤ 255) then []
  else if 7 ≤ c ∧ c ≤ 13 then [92, letters.getD (c - 7).toNat 0]
  else if c = 39 ∨ c = 92 then [92, c.toNat.toUInt8]
  else if 32 ≤ c ∧ c ≤ 126 then [c.toNat.toUInt8]
  else if 16 ≤ c then [92, 120, hexd (c.toNat / 16), hexd (c.toNat % 16), 92]
  else [92, 120, hexd (c.toNat % 16), 92]
/-- Conversion tables. -/
def prF (l : List (Int × Int)) (j : Nat) : Int := (l.getD j (0, 0)).1
def prT (l : List (Int × Int)) (j : Nat) : Int := (l.getD j (0, 0)).2
theorem prF_get (l : List (Int × Int)) (j : Nat) (h : j < l.length) : l[j].1 = prF l j := by
  unfold prF; rw [List.getD_eq_getElem?_getD, List.getElem?_eq_getElem h]; rfl
theorem prT_get (l : List (Int × Int)) (j : Nat) (h : j < l.length) : l[j].2 = prT l j := by
  unfold prT; rw [List.getD_eq_getElem?_getD, List.getElem?_eq_getElem h]; rfl
def okAt (l : List (Int × Int)) (j : Nat) : Bool := isCh (prF l j) && (isCh (prT l j) && (!(prF l j == prT l j) && (j == 0 || decide (prF l (j - 1) < prF l j))))
theorem okAt_1 (l k) (h : isCh (prF l k) = false) : okAt l k = false := by unfold okAt; rw [h]; rfl
theorem okAt_2 (l k) (h : isCh (prF l k) = true) (h2 : isCh (prT l k) = false) : okAt l k = false := by unfold okAt; rw [h, h2]; rfl
theorem okAt_3 (l k) (h : isCh (prF l k) = true) (h2 : isCh (prT l k) = true) (h3 : (prF l k == prT l k) = true) : okAt l k = false := by unfold okAt; rw [h, h2, h3]; rfl
theorem okAt_4 (l k) (h0 : k = 0) (h : isCh (prF l k) = true) (h2 : isCh (prT l k) = true) (h3 : (prF l k == prT l k) = false) : okAt l k = true := by unfold okAt; rw [h, h2, h3, h0]; rfl
theorem okAt_5 (l k) (h : isCh (prF l k) = true) (h2 : isCh (prT l k) = true) (h3 : (prF l k == prT l k) = false) (h4 : prF l (k - 1) < prF l k) : okAt l k = true := by unfold okAt; rw [h, h2, h3]; simp [h4]
theorem okAt_6 (l k) (h : isCh (prF l k) = true) (h2 : isCh (prT l k) = true) (h3 : (prF l k == prT l k) = false) (h0 : 0 < k) (h4 : ¬ prF l (k - 1) < prF l k) : okAt l k = false := by unfold okAt; rw [h, h2, h3]; simp; omega
def pvalid (l : List (Int × Int)) : Bool := (List.range l.length).all (okAt l)
theorem pvalid_all (l : List (Int × Int)) (h : ∀ j, j < l.length → okAt l j = true) : pvalid l = true := by
  unfold pvalid; rw [List.all_eq_true]; intro x hx; exact h x (List.mem_range.1 hx)
theorem pvalid_no (l : List (Int × Int)) (j : Nat) (hj : j < l.length) (h : okAt l j = false) : pvalid l = false := by
  unfold pvalid; rw [List.all_eq_false]; exact ⟨j, List.mem_range.2 hj, by simp [h]⟩
theorem pvalid_at (l : List (Int × Int)) (h : pvalid l = true) (j : Nat) (hj : j < l.length) : okAt l j = true := by
  unfold pvalid at h; rw [List.all_eq_true] at h; exact h j (List.mem_range.2 hj)
/-- The table: the last pair of a character counts. -/
def convT (l : List (Int × Int)) (c : Int) : Int := l.foldl (fun t p => if p.1 = c then p.2 else t) c
end Hb
namespace Hb
open Go Go.RowKit
theorem ret_int {k : IntKind} {a b : Int} (h : a = b) : Ending.returned (.int k a) = .returned (.int k b) := by rw [h]
theorem ret_bool {a b : Bool} (h : a = b) : Ending.returned (.bool a) = .returned (.bool b) := by rw [h]
theorem ret_str {a b : ByteArray} (h : a = b) : Ending.returned (.string a) = .returned (.string b) := by rw [h]
theorem ret_ib {k : IntKind} {a a' : Int} {b b' : Bool} (h : a = a') (h' : b = b') : Ending.returned (.tuple #[.int k a, .bool b]) = .returned (.tuple #[.int k a', .bool b']) := by rw [h, h']
theorem ret_sb {a a' : ByteArray} {b b' : Bool} (h : a = a') (h' : b = b') : Ending.returned (.tuple #[.string a, .bool b]) = .returned (.tuple #[.string a', .bool b']) := by rw [h, h']
theorem ret_val {a b : Value} (h : a = b) : Ending.returned a = .returned b := by rw [h]
theorem quiet0 {P : Program} {f : FuncId} {args : Array Value} {w : World} {n : Nat} {v : Value}
    (h : Calls P f args (w.drewN n) fun e w' => e = .returned v ∧ w.drewN n = w') : Calls P f args (w.drewN n) fun e w'' => e = .returned v ∧ ∃ m, w'' = w.drewN m :=
  h.mono fun _ _ ⟨he, hm⟩ => ⟨he, n, hm.symm⟩
theorem bl_drewN {B : Nat} {a w : World} (h : Below B a w) (n : Nat) : Below B a (w.drewN n) := h.trans ⟨rfl, rfl, rfl, Nat.le_refl _, fun _ _ => rfl⟩
theorem size_data (s : ByteArray) : s.data.toList.length = s.size := by simp
/-- The cells of a string's bytes. -/
def byteCells (l : List UInt8) : List Value := l.map fun b => .int .u8 (b.toNat : Int)
theorem byteCells_snoc (l : List UInt8) (b : UInt8) : byteCells (l ++ [b]) = byteCells l ++ [.int .u8 (b.toNat : Int)] := by simp [byteCells]
theorem byteCells_len (l : List UInt8) : (byteCells l).length = l.length := by simp [byteCells]
/-- 'string(b)' of a row of the call's own (nil too). -/
theorem conv_own {P : Program} (w : World) (src dst e : TypeId) (hs : P.underlying src = some (.slice e)) (he : P.underlying e = some (.int .u8)) (hd : P.underlying dst = some .string)
    (base : Nat) (v : Value) (n : Nat) (l : List UInt8) (hown : w.ownsRow base e 1 v n (byteCells l)) :
    (convert src dst v).run P w = .ok (.string ⟨l.toArray⟩) w := by
  have hlen := hown.1
  rw [byteCells_len, Nat.mul_one] at hlen
  rcases hown.2 with ⟨rfl, h0⟩ | ⟨g, cap, cur, rfl, _, hh, hn, _, hsz, ht⟩
  · have : l = [] := List.eq_nil_of_length_eq_zero (by omega)
    subst this
    exact run_convert_bytes_nil w src e hs he _ _ dst hd
  · subst hlen
    refine run_convert_bytes_back w src dst e ⟨g, 0, none⟩ cap l hs he hd fun j hj => ?_
    have e1 : (⟨g, 0, none⟩ : Addr).add j = ⟨g, j, none⟩ := by unfold Addr.add; split <;> simp_all
    rw [e1]
    have e2 : cur.toList[j]? = some (.int .u8 (l[j].toNat : Int)) := by
      have : (byteCells l)[j]? = some (.int .u8 (l[j].toNat : Int)) := by simp [byteCells, List.getElem?_eq_getElem hj]
      rw [← ht, List.getElem?_take_of_lt (by omega)] at this
      exact this
    show World.cell? w _ = _
    unfold World.cell?
    simp only [hh]
    simpa using e2
/-- The same of a literal's new block, one or two bytes. -/
theorem conv_new1 {P : Program} (src dst e : TypeId) (hs : P.underlying src = some (.slice e)) (he : P.underlying e = some (.int .u8)) (hd : P.underlying dst = some .string)
    (n : Int) (h0 : 0 ≤ n) (h1 : n ≤ 255) (w : World) : (convert src dst (.slice (some ⟨w.heap.size, 0, none⟩) 1 1)).run P (w.alloc (.cells #[.int .u8 n] e)) = .ok (.string ⟨#[n.toNat.toUInt8]⟩) (w.alloc (.cells #[.int .u8 n] e)) := by
  refine run_convert_bytes_back (w.alloc (.cells #[.int .u8 n] e)) src dst e ⟨w.heap.size, 0, none⟩ 1 [n.toNat.toUInt8] hs he hd fun j hj => ?_
  have : j = 0 := by simp at hj; omega
  subst this
  show (w.alloc (.cells #[.int .u8 n] e)).cell? ⟨w.heap.size, 0, none⟩ = _
  rw [World.cell?_alloc_new]
  simp; omega
theorem conv_new2 {P : Program} (src dst e : TypeId) (hs : P.underlying src = some (.slice e)) (he : P.underlying e = some (.int .u8)) (hd : P.underlying dst = some .string)
    (m n : Int) (g0 : 0 ≤ m) (g1 : m ≤ 255) (h0 : 0 ≤ n) (h1 : n ≤ 255) (w : World) : (convert src dst (.slice (some ⟨w.heap.size, 0, none⟩) 2 2)).run P (w.alloc (.cells #[.int .u8 m, .int .u8 n] e)) = .ok (.string ⟨#[m.toNat.toUInt8, n.toNat.toUInt8]⟩) (w.alloc (.cells #[.int .u8 m, .int .u8 n] e)) := by
  refine run_convert_bytes_back (w.alloc (.cells #[.int .u8 m, .int .u8 n] e)) src dst e ⟨w.heap.size, 0, none⟩ 2 [m.toNat.toUInt8, n.toNat.toUInt8] hs he hd fun j hj => ?_
  match j, hj with
  | 0, _ =>
    show (w.alloc (.cells #[.int .u8 m, .int .u8 n] e)).cell? ⟨w.heap.size, 0, none⟩ = _
    rw [World.cell?_alloc_new]
    simp; omega
  | 1, _ =>
    show (w.alloc (.cells #[.int .u8 m, .int .u8 n] e)).cell? ⟨w.heap.size, 0 + 1, none⟩ = _
    rw [World.cell?_alloc_new]
    simp; omega
/-- 'append(v, x)' onto a row of the call's own: x lies in a new block of its own. -/
theorem wpList_append_one {P : Program} {w : World} {ops : Array Oper} {rest : List Oper} {o : Oper} {a : Act} {Q : Exit → Act → World → Prop} (hgd : o.guard = none) (s x : Operand) (t e : TypeId)
    (ho : o.op = .call { callee := .builtin .append, args := #[s, x], argTypes := #[t, t] }) (ht : P.underlying t = some (.slice e)) (z : Value) (size bytes : Nat)
    (hinfo : (P.info? e).map (fun i => (i.zero, i.size, i.bytes)) = some (some z, size, bytes)) (hzs : z.cells.size = size) (hsz : 0 < size)
    (base : Nat) (v : Value) (n : Nat) (xs : List Value) (hs : a.eval s = v) (W : World) (hown : W.ownsRow base e size v n xs) (cs : Array Value) (hcs : cs.size = size) (h1 : ∀ u ∈ cs.toList, u.oneCell' = true)
    (hw : w = W.alloc (.cells cs e)) (hx : a.eval x = .slice (some ⟨W.heap.size, 0, none⟩) 1 1) (h63 : n + 1 ≤ 4611686018427387904) (hbytes : (n + 1) * bytes ≤ 140737488355328) (hbase : base ≤ W.heap.size)
    (h : ∀ v' w', w'.ownsRow base e size v' (n + 1) (xs ++ cs.toList) → Below base W w' → w.grownBy w' v.ownBlock → wpList P ops Q rest (a.put o.dst v') w') : wpList P ops Q (o :: rest) a w := by
  subst hw
  obtain ⟨i, hi, hz0, hz1, hz2⟩ := info_parts hinfo
  refine wpList_append_own _ hgd s x t ho base e i z size bytes ht hi hz0 hz1 hz2 hzs hsz v n xs hs (hown.alloc _) ⟨W.heap.size, 0, none⟩ 1 1 cs.toList hx (by simp [hcs]) ?_ h1 (by unfold maxLen; omega) hbytes (by simp; omega) ?_
  · intro j u hu
    have e1 : (⟨W.heap.size, 0, none⟩ : Addr).add j = ⟨W.heap.size, j, none⟩ := by unfold Addr.add; split <;> simp_all
    rw [e1, World.cell?_alloc_new]
    simpa using hu
  · intro v' w' ho' hg' _
    refine h v' w' ho' ?_ hg'
    refine (((Below.refl base W).alloc hbase _).grown hg' (by simp; omega) ?_)
    intro k hk
    rcases hown.2 with ⟨rfl, _⟩ | ⟨g, cap, cur, rfl, hbg, _⟩
    · simp [Value.ownBlock] at hk
    · simp [Value.ownBlock] at hk; omega
theorem wpList_append_byte {P : Program} {w : World} {ops : Array Oper} {rest : List Oper} {o : Oper} {a : Act} {Q : Exit → Act → World → Prop} (hgd : o.guard = none) (s x : Operand) (t e : TypeId)
    (ho : o.op = .call { callee := .builtin .append, args := #[s, x], argTypes := #[t, t] }) (ht : P.underlying t = some (.slice e))
    (hinfo : (P.info? e).map (fun i => (i.zero, i.size, i.bytes)) = some (some (.int .u8 0), 1, 1))
    (base : Nat) (v : Value) (n : Nat) (l : List UInt8) (hs : a.eval s = v) (W : World) (hown : W.ownsRow base e 1 v n (byteCells l)) (c : Int) (h0 : 0 ≤ c) (h1 : c ≤ 255)
    (hw : w = W.alloc (.cells #[.int .u8 c] e)) (hx : a.eval x = .slice (some ⟨W.heap.size, 0, none⟩) 1 1) (h63 : n ≤ 70368744177664) (hbase : base ≤ W.heap.size)
    (h : ∀ v' w', w'.ownsRow base e 1 v' (n + 1) (byteCells (l ++ [c.toNat.toUInt8])) → Below base W w' → wpList P ops Q rest (a.put o.dst v') w') : wpList P ops Q (o :: rest) a w := by
  refine wpList_append_one hgd s x t e ho ht _ 1 1 hinfo rfl (by decide) base v n _ hs W hown #[.int .u8 c] rfl (by simp [Value.oneCell']) hw hx (by omega) (by omega) hbase fun v' w' ho' hb' _ => h v' w' ?_ hb'
  rw [byteCells_snoc]
  have : ((c.toNat.toUInt8).toNat : Int) = c := by simp; omega
  rw [this]; exact ho'
/-- A slice of pairs of integers that reads as a list. -/
def Pairs (w : World) (A : Option Addr) (l : List (Int × Int)) : Prop :=
  ∀ j (h : j < l.length), ∃ b off, A = some ⟨b, off, none⟩ ∧ b < w.heap.size ∧ w.cell? ⟨b, off + j * 2, none⟩ = some (.int .i64 l[j].1) ∧ w.cell? ⟨b, off + j * 2 + 1, none⟩ = some (.int .i64 l[j].2)
theorem Pairs.below {w w' : World} {A : Option Addr} {l : List (Int × Int)} (h : Pairs w A l) (hb : Below w.heap.size w w') : Pairs w' A l := fun j hj => by
  obtain ⟨b, off, e, hlt, c1, c2⟩ := h j hj
  exact ⟨b, off, e, Nat.lt_of_lt_of_le hlt hb.size, (hb.cell (p := ⟨b, _, none⟩) hlt).trans c1, (hb.cell (p := ⟨b, _, none⟩) hlt).trans c2⟩
theorem Pairs.nil (w : World) (A : Option Addr) : Pairs w A [] := fun j h => absurd h (by simp)
end Hb
namespace Hb
/-- The byte at a place, -1 at the end. -/
def rawAt (l : List UInt8) (i : Nat) : Int := if i < l.length then bAt l i else -1
theorem rawAt_in (l : List UInt8) (i : Nat) (h : i < l.length) : rawAt l i = bAt l i := by unfold rawAt; rw [if_pos h]
theorem rawAt_cons (b : UInt8) (l : List UInt8) : rawAt (b :: l) 0 = (b.toNat : Int) := by
  unfold rawAt bAt; simp
theorem rawAt_succ (b : UInt8) (l : List UInt8) (i : Nat) : rawAt (b :: l) (i + 1) = rawAt l i := by
  unfold rawAt bAt; simp
def isSym (c : Int) : Bool := cls c == 5
end Hb
namespace Hb
end Hb
namespace Hb
end Hb
namespace Hb
end Hb
namespace Hb
end Hb
namespace Hb
/-- How a byte is written between quotes. -/
def btw (q : Int) (b : UInt8) : List UInt8 := (if (b.toNat : Int) = 34 ∧ q = 34 then [92] else []) ++ esc (b.toNat : Int)
def btws (q : Int) (s : List UInt8) : List UInt8 := s.flatMap (btw q)
theorem btws_cons (q : Int) (b : UInt8) (s : List UInt8) : btws q (b :: s) = btw q b ++ btws q s := by simp [btws]
theorem btws_snoc (q : Int) (b : UInt8) (s : List UInt8) : btws q (s ++ [b]) = btws q s ++ btw q b := by simp [btws]
end Hb
namespace Hb
/-- A name in quotes. -/
def quoteN (s : List UInt8) : List UInt8 := 39 :: (btws 39 s ++ [39])
theorem btw_39 (b : UInt8) : btw 39 b = esc (b.toNat : Int) := by unfold btw; rw [if_neg (fun h => absurd h.2 (by decide)), List.nil_append]
/-- Is each byte selected? -/
def every (q : Int → Bool) (s : List UInt8) : Bool := s.all fun b => q (b.toNat : Int)
/-- Names that want no quotes. -/
def special (s : List UInt8) : Bool := s == [91, 93] || (s == [123, 125] || (s == [33] || s == [59]))
def plainN (s : List UInt8) : Bool :=
  decide (s.length ≤ 100) && (special s || ((every alnum s && cls (rawAt s 0) == 2) || (every isSym s && (!s.isEmpty && (!(s == [46]) && !(s.take 2 == [47, 42]))))))
def atomN (s : List UInt8) : List UInt8 := if plainN s = true then s else quoteN s
/-- Two token texts that want layout text between them. -/
def glueN (a b : List UInt8) : Bool :=
  !a.isEmpty && (!b.isEmpty && ((alnum (rawAt a (a.length - 1)) && alnum (rawAt b 0)) || ((isSym (rawAt a (a.length - 1)) && isSym (rawAt b 0)) || ((rawAt a (a.length - 1) == rawAt b 0 && cls (rawAt a (a.length - 1)) == 7) || (a == [48] && rawAt b 0 == 39)))))
def sepOf (a b : List UInt8) : List UInt8 := if glueN a b = true then [32] else []
def joinFrom (prev : List UInt8) : List (List UInt8) → List UInt8
  | [] => []
  | s :: l => sepOf prev s ++ s ++ joinFrom s l
def joinN (l : List (List UInt8)) : List UInt8 := joinFrom [] l
theorem tl_loop (s : ByteArray) : ∀ (d i : Nat) (r : List UInt8), s.size - i = d → ByteArray.toList.loop s i r = r.reverse ++ s.data.toList.drop i
  | 0, i, r, h => by
    unfold ByteArray.toList.loop
    rw [if_neg (by omega), List.drop_of_length_le (by simp; omega)]; simp
  | d + 1, i, r, h => by
    have hi : i < s.size := by omega
    have hi' : i < s.data.toList.length := by simpa using hi
    unfold ByteArray.toList.loop
    rw [if_pos hi, tl_loop s d (i + 1) _ (by omega), List.drop_eq_getElem_cons hi']
    simp [ByteArray.get!, hi]
    first | rfl | (have : s.data[i]! = s.data[i] := getElem!_pos s.data i hi; simp [this]) | skip
theorem tl_data (s : ByteArray) : s.toList = s.data.toList := by
  unfold ByteArray.toList
  rw [tl_loop s _ 0 [] rfl]; simp
theorem tl_ne (s : ByteArray) (h : 0 < s.size) : ¬s.toList = [] := fun e => by
  rw [tl_data] at e
  have h2 : s.data.toList.length = 0 := by rw [e]; rfl
  have h3 : s.data.toList.length = s.size := by simp
  omega
theorem tl_ne2 (s : ByteArray) (h : 0 < s.size) : s.toList.isEmpty = false := by
  have := tl_ne s h
  simpa using this
end Hb
