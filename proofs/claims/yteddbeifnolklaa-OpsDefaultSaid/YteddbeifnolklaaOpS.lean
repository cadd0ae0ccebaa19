/- Operator tables: what the functions compute, in plain terms. -/
import Derived.Test.YteddbeifnolklaaBase
import Derived.Sort.Walk0
namespace Hb
open Go Go.RowKit
theorem carry {P : Program} {f : FuncId} {args : Array Value} {w0 w : World} {Q : Ending → Prop} (hB : Below w0.heap.size w0 w)
    (h : Calls P f args w fun e w' => Q e ∧ Below w.heap.size w w') : Calls P f args w fun e w' => Q e ∧ Below w0.heap.size w0 w' :=
  h.mono fun _ _ ⟨he, hb⟩ => ⟨he, hB.trans (hb.mono hB.size)⟩
theorem tl_loop (s : ByteArray) : ∀ (d i : Nat) (r : List UInt8), s.size - i = d → ByteArray.toList.loop s i r = r.reverse ++ s.data.toList.drop i
  | 0, i, r, h => by
    unfold ByteArray.toList.loop
    rw [if_neg (by omega), List.drop_of_length_le (by simp; omega)]; simp
  | d + 1, i, r, h => by
    have hi : i < s.size := by omega
    have hi' : i < s.data.toList.length := by simpa using hi
    unfold ByteArray.toList.loop
    rw [if_pos hi, tl_loop s d (i + 1) _ (by omega), List.drop_eq_getElem_cons hi']
    simp [ByteArray.get!, hi]
    first | rfl | (have : s.data[i]! = s.data[i] := getElem!_pos s.data i hi; simp [this]) | skip
theorem tl_data (s : ByteArray) : s.toList = s.data.toList := by
  unfold ByteArray.toList
  rw [tl_loop s _ 0 [] rfl]; simp
structure OpR where
  name : ByteArray
  typ : Int
  prec : Int
deriving Inhabited, DecidableEq
def opCells (o : OpR) : List Value := [.string o.name, .int .i64 o.typ, .int .i64 o.prec]
def opV (o : OpR) : Value := .agg #[.string o.name, .int .i64 o.typ, .int .i64 o.prec]
/-- The class of a type: 1 before, 2 between, 3 behind, 0 no type. -/
def clsOp (t : Int) : Int := if t < 1 then 0 else if t ≤ 3 then 2 else if t ≤ 5 then 1 else if t ≤ 7 then 3 else 0
def cmpS (a b : ByteArray) : Int := if Op.bytesLess a.toList b.toList = true then -1 else if (!a.toList == b.toList) = true then 1 else 0
def cmpN (a b : Int) : Int := if a < b then -1 else if b < a then 1 else 0
def orI (a b : Int) : Int := if a = 0 then b else a
def cmpOp (a b : OpR) : Int := orI (cmpS a.name b.name) (cmpN (clsOp a.typ) (clsOp b.typ))
def isN (o : OpR) (l : List UInt8) : Bool := o.name.toList == l
/-- One operator is valid. -/
def opOk (o : OpR) : Bool :=
  if decide (100 < (o.name.size : Int)) || (clsOp o.typ == 0 || (decide (o.prec < 1) || decide (1200 < o.prec))) then false
  else if isN o [91, 93] || isN o [123, 125] then false
  else if isN o [44] then o.typ == 2 && o.prec == 1000
  else if isN o [124] then clsOp o.typ == 2 && decide (1001 ≤ o.prec)
  else true
/-- Two neighbours are in order. -/
def opLt (a b : OpR) : Bool := decide (cmpOp a b < 0) && !(a.name.toList == b.name.toList && clsOp a.typ == 2)
def okJ (l : List OpR) (j : Nat) : Bool := opOk (l.getD j default) && (j == 0 || opLt (l.getD (j - 1) default) (l.getD j default))
def opsValid (l : List OpR) : Bool := decide (l.length ≤ 100) && (List.range l.length).all (okJ l)
theorem opsValid_no (l : List OpR) (k : Nat) (hk : k < l.length) (h : okJ l k = false) : opsValid l = false := by
  unfold opsValid
  rw [Bool.and_eq_false_iff]
  refine .inr ?_
  rw [List.all_eq_false]
  exact ⟨k, List.mem_range.2 hk, by simp [h]⟩
theorem opsValid_long (l : List OpR) (h : 100 < l.length) : opsValid l = false := by
  unfold opsValid
  rw [Bool.and_eq_false_iff]
  exact .inl (by simpa using h)
theorem opsValid_yes (l : List OpR) (hn : l.length ≤ 100) (h : ∀ j, j < l.length → okJ l j = true) : opsValid l = true := by
  unfold opsValid
  rw [Bool.and_eq_true, List.all_eq_true]
  exact ⟨by simpa using hn, fun j hj => h j (List.mem_range.1 hj)⟩
theorem opsValid_at (l : List OpR) (h : opsValid l = true) : l.length ≤ 100 ∧ ∀ j, j < l.length → okJ l j = true := by
  unfold opsValid at h
  rw [Bool.and_eq_true, List.all_eq_true] at h
  exact ⟨by simpa using h.1, fun j hj => h.2 j (List.mem_range.2 hj)⟩
theorem getD_at (l : List OpR) (j : Nat) (h : j < l.length) : l.getD j default = l[j] := by rw [List.getD_eq_getElem?_getD, List.getElem?_eq_getElem h]; rfl
/-- The reference's order. -/
def befOp (a b : OpR) : Bool := if (a.name.toList == b.name.toList) = true then decide (clsOp a.typ < clsOp b.typ) else Op.bytesLess a.name.toList b.name.toList
theorem cmpN_neg (a b : Int) : cmpN a b < 0 ↔ a < b := by unfold cmpN; grind
theorem cmpN_zero (a b : Int) : cmpN a b = 0 ↔ a = b := by unfold cmpN; grind
theorem bytesLess_irrefl : ∀ (l : List UInt8), Op.bytesLess l l = false := by
  intro l
  rw [Go.Proofs.bytesLess_eq]
  simp
theorem befOp_cmp (a b : OpR) : befOp a b = decide (cmpOp a b < 0) := by
  unfold befOp cmpOp orI cmpS
  by_cases h : a.name.toList = b.name.toList
  · rw [h, bytesLess_irrefl]
    simp [cmpN_neg]
  · have h2 : (a.name.toList == b.name.toList) = false := by simpa using h
    rw [h2]
    cases h3 : Op.bytesLess a.name.toList b.name.toList <;> simp
theorem opLt_ref (a b : OpR) : opLt a b = (befOp a b && !(a.name.toList == b.name.toList && (clsOp a.typ == 2 && clsOp b.typ == 3))) := by
  rw [befOp_cmp]
  unfold opLt
  cases h : decide (cmpOp a b < 0)
  · rfl
  · rw [← befOp_cmp] at h
    unfold befOp at h
    cases h2 : (a.name.toList == b.name.toList)
    · rfl
    · rw [h2, if_pos rfl] at h
      have h3 : clsOp a.typ < clsOp b.typ := by simpa using h
      have h4 : clsOp b.typ ≤ 3 := by unfold clsOp; grind
      cases h5 : (clsOp a.typ == 2)
      · rfl
      · have : clsOp a.typ = 2 := by simpa using h5
        have : clsOp b.typ = 3 := by omega
        simp [this]
end Hb
