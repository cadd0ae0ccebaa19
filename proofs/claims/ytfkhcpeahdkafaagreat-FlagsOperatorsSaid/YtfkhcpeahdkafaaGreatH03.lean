/- Operator tables: what the functions compute, in plain terms. Operators: class, cmp.Compare, cmp.Or. Operators: compare. Operators: valid. Operators: a table in memory; before; the two Valid. Operators: Valid. Operators: find. Operators: Prefix, Infix, Postfix, Sides and the law's find. Operators: Is. -/
import Derived.Test.YtfkhcpeahdkafaaGreatH01
import Derived.Sort.Walk0
import Derived.Test.YtfkhcpeahdkafaaGreatChecked
import Derived.LoopN
import Derived.Deep.RegionHeld3
namespace Hb
open Go Go.RowKit
theorem carryO {P : Program} {f : FuncId} {args : Array Value} {w0 w : World} {Q : Ending → Prop} (hB : Below w0.heap.size w0 w)
  (h : Calls P f args w fun e w' => Q e ∧ Below w.heap.size w w') : Calls P f args w fun e w' => Q e ∧ Below w0.heap.size w0 w' :=
 h.mono fun _ _ ⟨he, hb⟩ => ⟨he, hB.trans (hb.mono hB.size)⟩
structure OpR where
 name : ByteArray
 typ : Int
 prec : Int
deriving Inhabited, DecidableEq
def opCells (o : OpR) : List Value := [.string o.name, .int .i64 o.typ, .int .i64 o.prec]
def opV (o : OpR) : Value := .agg #[.string o.name, .int .i64 o.typ, .int .i64 o.prec]
def clsOp (t : Int) : Int := if t < 1 then 0 else if t ≤ 3 then 2 else if t ≤ 5 then 1 else if t ≤ 7 then 3 else 0
def cmpS (a b : ByteArray) : Int := if Op.bytesLess a.toList b.toList = true then -1 else if (!a.toList == b.toList) = true then 1 else 0
def cmpN (a b : Int) : Int := if a < b then -1 else if b < a then 1 else 0
def orI (a b : Int) : Int := if a = 0 then b else a
def cmpOp (a b : OpR) : Int := orI (cmpS a.name b.name) (cmpN (clsOp a.typ) (clsOp b.typ))
def isN (o : OpR) (l : List UInt8) : Bool := o.name.toList == l
def opOk (o : OpR) : Bool :=
 if decide (100 < (o.name.size : Int)) || (clsOp o.typ == 0 || (decide (o.prec < 1) || decide (1200 < o.prec))) then false
 else if isN o [91, 93] || isN o [123, 125] then false
 else if isN o [44] then o.typ == 2 && o.prec == 1000
 else if isN o [124] then clsOp o.typ == 2 && decide (1001 ≤ o.prec)
 else true
def opLt (a b : OpR) : Bool := decide (cmpOp a b < 0) && !(a.name.toList == b.name.toList && clsOp a.typ == 2)
def okJ (l : List OpR) (j : Nat) : Bool := opOk (l.getD j default) && (j == 0 || opLt (l.getD (j - 1) default) (l.getD j default))
def opsValid (l : List OpR) : Bool := decide (l.length ≤ 100) && (List.range l.length).all (okJ l)
theorem opsValid_no (l : List OpR) (k : Nat) (hk : k < l.length) (h : okJ l k = false) : opsValid l = false := by
 unfold opsValid
 rw [Bool.and_eq_false_iff]
 refine .inr ?_
 rw [List.all_eq_false]
 exact ⟨k, List.mem_range.2 hk, by simp [h]⟩
theorem opsValid_long (l : List OpR) (h : 100 < l.length) : opsValid l = false := by
 unfold opsValid
 rw [Bool.and_eq_false_iff]
 exact .inl (by simpa using h)
theorem opsValid_yes (l : List OpR) (hn : l.length ≤ 100) (h : ∀ j, j < l.length → okJ l j = true) : opsValid l = true := by
 unfold opsValid
 rw [Bool.and_eq_true, List.all_eq_true]
 exact ⟨by simpa using hn, fun j hj => h j (List.mem_range.1 hj)⟩
theorem opsValid_at (l : List OpR) (h : opsValid l = true) : l.length ≤ 100 ∧ ∀ j, j < l.length → okJ l j = true := by
 unfold opsValid at h
 rw [Bool.and_eq_true, List.all_eq_true] at h
 exact ⟨by simpa using h.1, fun j hj => h.2 j (List.mem_range.2 hj)⟩
theorem getD_at (l : List OpR) (j : Nat) (h : j < l.length) : l.getD j default = l[j] := by rw [List.getD_eq_getElem?_getD, List.getElem?_eq_getElem h]; rfl
def befOp (a b : OpR) : Bool := if (a.name.toList == b.name.toList) = true then decide (clsOp a.typ < clsOp b.typ) else Op.bytesLess a.name.toList b.name.toList
theorem cmpN_neg (a b : Int) : cmpN a b < 0 ↔ a < b := by unfold cmpN; grind
theorem cmpN_zero (a b : Int) : cmpN a b = 0 ↔ a = b := by unfold cmpN; grind
theorem bytesLess_irrefl : ∀ (l : List UInt8), Op.bytesLess l l = false := by
 intro l
 rw [Go.Proofs.bytesLess_eq]
 simp
theorem befOp_cmp (a b : OpR) : befOp a b = decide (cmpOp a b < 0) := by
 unfold befOp cmpOp orI cmpS
 by_cases h : a.name.toList = b.name.toList
 ·rw [h, bytesLess_irrefl]
  simp [cmpN_neg]
 ·have h2 : (a.name.toList == b.name.toList) = false := by simpa using h
  rw [h2]
  cases h3 : Op.bytesLess a.name.toList b.name.toList <;> simp
theorem opLt_ref (a b : OpR) : opLt a b = (befOp a b && !(a.name.toList == b.name.toList && (clsOp a.typ == 2 && clsOp b.typ == 3))) := by
 rw [befOp_cmp]
 unfold opLt
 cases h : decide (cmpOp a b < 0)
 ·rfl
 ·rw [← befOp_cmp] at h
  unfold befOp at h
  cases h2 : (a.name.toList == b.name.toList)
  ·rfl
  ·rw [h2, if_pos rfl] at h
   have h3 : clsOp a.typ < clsOp b.typ := by simpa using h
   have h4 : clsOp b.typ ≤ 3 := by unfold clsOp; grind
   cases h5 : (clsOp a.typ == 2)
   ·rfl
   ·have : clsOp a.typ = 2 := by simpa using h5
    have : clsOp b.typ = 3 := by omega
    simp [this]
end Hb
namespace Hb
theorem cls_at (t : Int) : (t < 1 ∧ clsOp t = 0) ∨ (8 ≤ t ∧ clsOp t = 0) ∨ (t = 1 ∧ clsOp t = 2) ∨ (t = 2 ∧ clsOp t = 2) ∨ (t = 3 ∧ clsOp t = 2) ∨ (t = 4 ∧ clsOp t = 1) ∨ (t = 5 ∧ clsOp t = 1) ∨ (t = 6 ∧ clsOp t = 3) ∨ (t = 7 ∧ clsOp t = 3) := by
 unfold clsOp
 grind
end Hb
namespace Go.Proofs.YtfkhcpeahdkafaaGreat
open Go.RowKit Hb
set_option maxRecDepth 100000
theorem nan_str (a : ByteArray) (w : World) : Calls Tryz.prog 172 #[.string a] w fun e w' => e = .returned (.bool false) ∧ w' = w := by
 go_enter Tryz.func172, Tryz.ntmps172
 go_wp2_with fail
 go_ret
 exact ⟨rfl, rfl⟩
theorem nan_int (a : Int) (w : World) : Calls Tryz.prog 173 #[.int .i64 a] w fun e w' => e = .returned (.bool false) ∧ w' = w := by
 go_enter Tryz.func173, Tryz.ntmps173
 go_wp2_with fail
 go_ret
 exact ⟨rfl, rfl⟩
theorem cmp_str (a b : ByteArray) (w : World) : Calls Tryz.prog 140 #[.string a, .string b] w fun e w' => e = .returned (.int .i64 (cmpS a b)) ∧ w' = w := by
 go_enter Tryz.func140, Tryz.ntmps140
 go_wp2_with (first | (go_at_call 172; first | ((with_reducible refine (nan_str a _).mono ?_); rintro e w1 ⟨rfl, rfl⟩) | ((with_reducible refine (nan_str b _).mono ?_); rintro e w1 ⟨rfl, rfl⟩)))
 all_goals go_ret
 all_goals refine ⟨ret_int ?_, rfl⟩
 all_goals unfold cmpS
 all_goals simp_all
theorem cmp_int (a b : Int) (w : World) : Calls Tryz.prog 141 #[.int .i64 a, .int .i64 b] w fun e w' => e = .returned (.int .i64 (cmpN a b)) ∧ w' = w := by
 go_enter Tryz.func141, Tryz.ntmps141
 go_wp2_with (first | (go_at_call 173; first | ((with_reducible refine (nan_int a _).mono ?_); rintro e w1 ⟨rfl, rfl⟩) | ((with_reducible refine (nan_int b _).mono ?_); rintro e w1 ⟨rfl, rfl⟩)))
 all_goals go_ret
 all_goals refine ⟨ret_int ?_, rfl⟩
 all_goals unfold cmpN
 all_goals grind
theorem op_class_up (t : Int) (w : World) : Calls Tryz.prog 102 #[.int .i64 t] w fun e w' => e = .returned (.int .i64 (clsOp t)) ∧ Below w.heap.size w w' ∧ w.drawn ≤ w'.drawn := by
 rcases cls_at t with ⟨h, e⟩ | ⟨h, e⟩ | ⟨rfl, e⟩ | ⟨rfl, e⟩ | ⟨rfl, e⟩ | ⟨rfl, e⟩ | ⟨rfl, e⟩ | ⟨rfl, e⟩ | ⟨rfl, e⟩
 all_goals rw [e]
 all_goals clear e
 all_goals go_enter Tryz.func102, Tryz.ntmps102
 all_goals go_wp2_with fail
 all_goals go_ret
 all_goals exact ⟨rfl, (Below.refl _ _).alloc (Nat.le_refl _) _, Nat.le_refl _⟩
theorem op_class (t : Int) (w : World) : Calls Tryz.prog 102 #[.int .i64 t] w fun e w' => e = .returned (.int .i64 (clsOp t)) ∧ Below w.heap.size w w' :=
 (op_class_up t w).mono fun _ _ ⟨he, hb, _⟩ => ⟨he, hb⟩
theorem cmp_or (a b : Int) (w : World) (W : World) (e : TypeId) (hW : W = w.alloc (.cells #[.int .i64 a, .int .i64 b] e)) : Calls Tryz.prog 139 #[.slice (some ⟨w.heap.size, 0, none⟩) 2 2] W fun e w' => e = .returned (.int .i64 (orI a b)) ∧ w' = W := by
 have c0 : W.cell? ⟨w.heap.size, 0, none⟩ = some (.int .i64 a) := by rw [hW]; exact World.cell?_alloc_new _ _ _ 0
 have c1 : W.cell? ⟨w.heap.size, 1, none⟩ = some (.int .i64 b) := by rw [hW]; exact World.cell?_alloc_new _ _ _ 1
 clear hW
 by_cases d0 : a = 0
 ·subst d0
  by_cases d1 : b = 0
  ·subst d1
   go_enter Tryz.func139, Tryz.ntmps139
   go_wp2_with fail
   refine wp_loop_rounds 3 ?_
   rw [rounds_succ]
   go_wp2_with fail
   rw [rounds_succ]
   go_wp2_with fail
   rw [rounds_succ]
   go_wp2_with fail
   go_ret
   exact ⟨ret_int rfl, rfl⟩
  ·have b1 : (b == 0) = false := by simpa using d1
   have e1 : orI 0 b = b := rfl
   go_enter Tryz.func139, Tryz.ntmps139
   go_wp2_with fail
   refine wp_loop_rounds 2 ?_
   rw [rounds_succ]
   go_wp2_with fail
   rw [rounds_succ]
   go_wp2_with fail
   go_ret
   exact ⟨ret_int e1.symm, rfl⟩
 ·have b1 : (a == 0) = false := by simpa using d0
  have e1 : orI a b = a := if_neg d0
  go_enter Tryz.func139, Tryz.ntmps139
  go_wp2_with fail
  refine wp_loop_rounds 1 ?_
  rw [rounds_succ]
  go_wp2_with fail
  go_ret
  exact ⟨ret_int e1.symm, rfl⟩
end Go.Proofs.YtfkhcpeahdkafaaGreat
namespace Hb
open Go Go.RowKit
structure CmpHeld (w0 w : World) (a b : OpR) : Prop where
 bel : Below w0.heap.size w0 w
 lt : w0.heap.size + 1 < w.heap.size
 dr : w0.drawn ≤ w.drawn
 a0 : w.cell? ⟨w0.heap.size, 0, none⟩ = some (.string a.name)
 a1 : w.cell? ⟨w0.heap.size, 1, none⟩ = some (.int .i64 a.typ)
 b0 : w.cell? ⟨w0.heap.size + 1, 0, none⟩ = some (.string b.name)
 b1 : w.cell? ⟨w0.heap.size + 1, 1, none⟩ = some (.int .i64 b.typ)
section
variable {w0 w w' : World} {a b : OpR}
theorem CmpHeld.keep (h : CmpHeld w0 w a b) : w.cell? ⟨w0.heap.size, 0, none⟩ = some (.string a.name) ∧ w.cell? ⟨w0.heap.size, 1, none⟩ = some (.int .i64 a.typ) ∧ w.cell? ⟨w0.heap.size + 1, 0, none⟩ = some (.string b.name) ∧ w.cell? ⟨w0.heap.size + 1, 1, none⟩ = some (.int .i64 b.typ) ∧ CmpHeld w0 w a b := ⟨h.a0, h.a1, h.b0, h.b1, h⟩
theorem CmpHeld.of (h : w.cell? ⟨w0.heap.size, 0, none⟩ = some (.string a.name) ∧ w.cell? ⟨w0.heap.size, 1, none⟩ = some (.int .i64 a.typ) ∧ w.cell? ⟨w0.heap.size + 1, 0, none⟩ = some (.string b.name) ∧ w.cell? ⟨w0.heap.size + 1, 1, none⟩ = some (.int .i64 b.typ) ∧ CmpHeld w0 w a b) : CmpHeld w0 w a b := h.2.2.2.2
theorem CmpHeld.call (hB : Below w.heap.size w w') (hD : w.drawn ≤ w'.drawn) (h : CmpHeld w0 w a b) : CmpHeld w0 w' a b where
 bel := h.bel.trans (hB.mono (by have := h.lt; omega))
 lt := Nat.lt_of_lt_of_le h.lt hB.size
 dr := Nat.le_trans h.dr hD
 a0 := (hB.cell (p := ⟨_, _, none⟩) (by have := h.lt; show w0.heap.size < _; omega)).trans h.a0
 a1 := (hB.cell (p := ⟨_, _, none⟩) (by have := h.lt; show w0.heap.size < _; omega)).trans h.a1
 b0 := (hB.cell (p := ⟨_, _, none⟩) h.lt).trans h.b0
 b1 := (hB.cell (p := ⟨_, _, none⟩) h.lt).trans h.b1
theorem CmpHeld.drew (h : CmpHeld w0 w a b) : CmpHeld w0 w.drew a b := h.call (Below.refl w.heap.size w).drew (Nat.le_succ _)
theorem CmpHeld.alloc (h : CmpHeld w0 w a b) (o : Obj) : CmpHeld w0 (w.alloc o) a b := h.call ((Below.refl w.heap.size w).alloc (Nat.le_refl _) o) (Nat.le_refl _)
theorem CmpHeld.start (w : World) (a b : OpR) (e : TypeId) : CmpHeld w ((w.alloc (.cells #[.string a.name, .int .i64 a.typ, .int .i64 a.prec] e)).alloc (.cells #[.string b.name, .int .i64 b.typ, .int .i64 b.prec] e)) a b where
 bel := ((Below.refl _ _).alloc (Nat.le_refl _) _).alloc (by simp) _
 lt := by simp
 dr := Nat.le_refl _
 a0 := (World.grownBy_alloc _ _ none).cell (World.cell?_alloc_new _ _ _ 0) (by simp)
 a1 := (World.grownBy_alloc _ _ none).cell (World.cell?_alloc_new _ _ _ 1) (by simp)
 b0 := by
  rw [show w.heap.size + 1 = (w.alloc (.cells #[.string a.name, .int .i64 a.typ, .int .i64 a.prec] e)).heap.size by simp]
  exact World.cell?_alloc_new _ _ _ 0
 b1 := by
  rw [show w.heap.size + 1 = (w.alloc (.cells #[.string a.name, .int .i64 a.typ, .int .i64 a.prec] e)).heap.size by simp]
  exact World.cell?_alloc_new _ _ _ 1
end
end Hb
namespace Go.Proofs.YtfkhcpeahdkafaaGreat
open Go.RowKit Hb
set_option maxRecDepth 100000
set_option maxHeartbeats 1600000 in
theorem op_compare_up (a b : OpR) (w : World) : Calls Tryz.prog 101 #[opV a, opV b] w fun e w' => e = .returned (.int .i64 (cmpOp a b)) ∧ Below w.heap.size w w' ∧ w.drawn ≤ w'.drawn := by
 unfold opV
 have HK := Lib.hid (show cmpOp a b = orI (cmpS a.name b.name) (cmpN (clsOp a.typ) (clsOp b.typ)) from rfl)
 have H1 := CmpHeld.start w a b 82
 go_enter Tryz.func101, Tryz.ntmps101
 go_wp2_with fail
 go_region_held3 (fun w' => w'.cell? ⟨w.heap.size, 0, none⟩ = some (.string a.name) ∧ w'.cell? ⟨w.heap.size, 1, none⟩ = some (.int .i64 a.typ) ∧ w'.cell? ⟨w.heap.size + 1, 0, none⟩ = some (.string b.name) ∧ w'.cell? ⟨w.heap.size + 1, 1, none⟩ = some (.int .i64 b.typ) ∧ CmpHeld w w' a b)
  (first | with_reducible exact H1.drew.keep | with_reducible exact CmpHeld.keep (CmpHeld.of (by with_reducible assumption)) | with_reducible exact CmpHeld.keep (CmpHeld.call (by with_reducible assumption) (by with_reducible assumption) (CmpHeld.of (by with_reducible assumption))) | with_reducible exact CmpHeld.keep (CmpHeld.alloc (CmpHeld.of (by with_reducible assumption)) _))
  (first
   | (go_at_call 140; (with_reducible refine (cmp_str a.name b.name _).mono ?_); rintro e w2 ⟨rfl, rfl⟩)
   | (go_at_call 102; first | ((with_reducible refine (op_class_up a.typ _).mono ?_); rintro e w2 ⟨rfl, hB2, hD2⟩) | ((with_reducible refine (op_class_up b.typ _).mono ?_); rintro e w2 ⟨rfl, hB2, hD2⟩))
   | (go_at_call 141; (with_reducible refine (cmp_int (clsOp a.typ) (clsOp b.typ) _).mono ?_); rintro e w2 ⟨rfl, rfl⟩)
   | (go_at_call 139; (with_reducible refine (cmp_or (cmpS a.name b.name) (cmpN (clsOp a.typ) (clsOp b.typ)) _ _ _ rfl).mono ?_); rintro e w2 ⟨rfl, rfl⟩))
 all_goals go_wp2_with fail
 all_goals go_ret
 all_goals exact ⟨ret_int HK.out.symm, CmpHeld.bel (CmpHeld.of (by with_reducible assumption)), CmpHeld.dr (CmpHeld.of (by with_reducible assumption))⟩
theorem op_compare (a b : OpR) (w : World) : Calls Tryz.prog 101 #[opV a, opV b] w fun e w' => e = .returned (.int .i64 (cmpOp a b)) ∧ Below w.heap.size w w' :=
 (op_compare_up a b w).mono fun _ _ ⟨he, hb, _⟩ => ⟨he, hb⟩
end Go.Proofs.YtfkhcpeahdkafaaGreat
namespace Hb
open Go Go.RowKit
structure BoxAt (w0 w : World) (o : OpR) : Prop where
 bel : Below w0.heap.size w0 w
 lt : w0.heap.size < w.heap.size
 c0 : w.cell? ⟨w0.heap.size, 0, none⟩ = some (.string o.name)
 c1 : w.cell? ⟨w0.heap.size, 1, none⟩ = some (.int .i64 o.typ)
 c2 : w.cell? ⟨w0.heap.size, 2, none⟩ = some (.int .i64 o.prec)
theorem BoxAt.call {w0 w w' : World} {o : OpR} (h : BoxAt w0 w o) (hB : Below w.heap.size w w') : BoxAt w0 w' o where
 bel := h.bel.trans (hB.mono (Nat.le_of_lt h.lt))
 lt := Nat.lt_of_lt_of_le h.lt hB.size
 c0 := (hB.cell (p := ⟨_, _, none⟩) h.lt).trans h.c0
 c1 := (hB.cell (p := ⟨_, _, none⟩) h.lt).trans h.c1
 c2 := (hB.cell (p := ⟨_, _, none⟩) h.lt).trans h.c2
theorem BoxAt.start (w : World) (o : OpR) (e : TypeId) : BoxAt w (w.alloc (.cells #[.string o.name, .int .i64 o.typ, .int .i64 o.prec] e)) o where
 bel := (Below.refl _ _).alloc (Nat.le_refl _) _
 lt := by simp
 c0 := World.cell?_alloc_new _ _ _ 0
 c1 := World.cell?_alloc_new _ _ _ 1
 c2 := World.cell?_alloc_new _ _ _ 2
end Hb
namespace Go.Proofs.YtfkhcpeahdkafaaGreat
open Go.RowKit Hb
set_option maxRecDepth 100000
theorem op_class_box {w0 w : World} {o : OpR} (h : BoxAt w0 w o) (t : Int) : Calls Tryz.prog 102 #[.int .i64 t] w fun e w' => e = .returned (.int .i64 (clsOp t)) ∧ BoxAt w0 w' o :=
 (op_class t w).mono fun _ _ ⟨he, hb⟩ => ⟨he, h.call hb⟩
set_option maxHeartbeats 1600000 in
theorem op_valid (o : OpR) (w : World) : Calls Tryz.prog 100 #[opV o] w fun e w' => e = .returned (.bool (opOk o)) ∧ Below w.heap.size w w' := by
 have hX := BoxAt.start w o 82
 have HK := Lib.hid (show opOk o = _ from rfl)
 unfold opV
 go_enter Tryz.func100, Tryz.ntmps100
 go_wp2_with (first | (go_at_call 102; (with_reducible refine (op_class_box (by with_reducible assumption) o.typ).mono ?_); rintro e w2 ⟨rfl, hX2⟩; have c0 := hX2.c0; have c1 := hX2.c1; have c2 := hX2.c2))
 all_goals go_ret
 all_goals refine ⟨ret_bool ?_, BoxAt.bel (o := o) (by with_reducible assumption)⟩
 all_goals unfold opOk isN
 all_goals grind
theorem ref_classO (t : Int) (w : World) : Calls Tryz.prog 99 #[.int .i64 t] w fun e w' => e = .returned (.int .i64 (clsOp t)) ∧ w' = w := by
 go_enter Tryz.func99, Tryz.ntmps99
 go_wp2_with fail
 all_goals go_ret
 all_goals refine ⟨ret_int ?_, rfl⟩
 all_goals unfold clsOp
 all_goals grind
end Go.Proofs.YtfkhcpeahdkafaaGreat
namespace Hb
open Go Go.RowKit
def OpsAt (w : World) (A : Option Addr) (l : List OpR) : Prop :=
 ∀ j (h : j < l.length), ∃ b off, A = some ⟨b, off, none⟩ ∧ b < w.heap.size ∧ w.cell? ⟨b, off + j * 3, none⟩ = some (.string l[j].name) ∧ w.cell? ⟨b, off + j * 3 + 1, none⟩ = some (.int .i64 l[j].typ) ∧ w.cell? ⟨b, off + j * 3 + 2, none⟩ = some (.int .i64 l[j].prec)
theorem OpsAt.nil (w : World) (A : Option Addr) : OpsAt w A [] := fun _ h => absurd h (by simp)
theorem OpsAt.below {w w' : World} {A : Option Addr} {l : List OpR} (h : OpsAt w A l) (hb : Below w.heap.size w w') : OpsAt w' A l := fun j hj => by
 obtain ⟨b, off, e, hlt, c0, c1, c2⟩ := h j hj
 exact ⟨b, off, e, Nat.lt_of_lt_of_le hlt hb.size, (hb.cell (p := ⟨b, _, none⟩) hlt).trans c0, (hb.cell (p := ⟨b, _, none⟩) hlt).trans c1, (hb.cell (p := ⟨b, _, none⟩) hlt).trans c2⟩
end Hb
namespace Go.Proofs.YtfkhcpeahdkafaaGreat
open Go.RowKit Hb
set_option maxRecDepth 100000
end Go.Proofs.YtfkhcpeahdkafaaGreat
namespace Hb
theorem okJ_1 (l : List OpR) (k : Nat) (hk : k < l.length) (h : opOk l[k] = false) : okJ l k = false := by unfold okJ; rw [getD_at l k hk, h]; rfl
theorem okJ_0 (l : List OpR) (k : Nat) (hk : k < l.length) (h0 : k = 0) (h : opOk l[k] = true) : okJ l k = true := by subst h0; unfold okJ; rw [getD_at l 0 hk, h]; rfl
theorem okJ_s (l : List OpR) (k : Nat) (hk : k < l.length) (h0 : 0 < k) (h : opOk l[k] = true) : okJ l k = opLt (l[k - 1]'(by omega)) l[k] := by
 unfold okJ; rw [getD_at l k hk, getD_at l (k - 1) (by omega), h]
 have : (k == 0) = false := by simp; omega
 rw [this]; rfl
end Hb
namespace Go.Proofs.YtfkhcpeahdkafaaGreat
open Go.RowKit Hb
set_option maxRecDepth 100000
set_option maxHeartbeats 3200000 in
theorem ops_valid (A : Option Addr) (n cap : Nat) (l : List OpR) (w : World) (hn : n = l.length) (hm : n ≤ 400) (hp : OpsAt w A l) :
  Calls Tryz.prog 56 #[.slice A n cap] w fun e w' => e = .returned (.bool (opsValid l)) ∧ Below w.heap.size w w' := by
 by_cases c1 : 100 < n
 ·have b1 : decide ((100 : Int) < n) = true := by simp; omega
  have HV := Lib.hid (opsValid_long l (by omega))
  clear hn hp c1
  go_enter Tryz.func56, Tryz.ntmps56
  go_wp2_with fail
  go_ret
  exact ⟨ret_bool HV.out.symm, Below.refl _ _⟩
 have b1 : decide ((100 : Int) < n) = false := by simp; omega
 have h100 : n ≤ 100 := by omega
 have HN := Lib.hid hn
 have HP := Lib.hid hp
 clear hn hp c1
 go_enter Tryz.func56, Tryz.ntmps56
 go_wp2_with fail
 go_loopw [11] (fun i wr => ∃ k : Nat, k ≤ n ∧ i = .int .i64 k ∧ Below w.heap.size w wr ∧ Hid (∀ j, j < k → okJ l j = true)) (fun i _ => n - (intOf i).toNat)
 case atStart => exact ⟨0, Nat.zero_le _, rfl, Below.refl _ _, fun j hj => absurd hj (by omega)⟩
 case round =>
  obtain ⟨k, hk, rfl, hB, HA⟩ := hrel
  by_cases hlt : k < n
  ·have hbs := hB.size
   have hkl : k < l.length := by have := HN.out; omega
   obtain ⟨b, off, rfl, hb, c0, c1, c2⟩ := (HP.out.below hB) k hkl
   have hprev : 0 < k → wr.cell? ⟨b, off + (k - 1) * 3, none⟩ = some (.string (l[k - 1]'(by omega)).name) ∧ wr.cell? ⟨b, off + (k - 1) * 3 + 1, none⟩ = some (.int .i64 (l[k - 1]'(by omega)).typ) ∧ wr.cell? ⟨b, off + (k - 1) * 3 + 2, none⟩ = some (.int .i64 (l[k - 1]'(by omega)).prec) := fun h0 => by
    obtain ⟨b', off', e', _, d0, d1, d2⟩ := (HP.out.below hB) (k - 1) (by omega)
    injection e' with e'
    injection e' with e1 e2 _
    subst e1 e2
    exact ⟨d0, d1, d2⟩
   have HPr := Lib.hid hprev
   have J1 := Lib.hid (okJ_1 l k hkl)
   have J0 := Lib.hid (okJ_0 l k hkl)
   have JS := Lib.hid (okJ_s l k hkl)
   have HNO := Lib.hid (opsValid_no l k hkl)
   generalize l[k] = o at *
   have hX := BoxAt.start wr o 82
   clear hprev
   cases hok : opOk o
   ·have HO := Lib.hid hok
    have HW := Lib.hid (op_valid o (wr.alloc (.cells #[.string o.name, .int .i64 o.typ, .int .i64 o.prec] 82)))
    rw [hok] at HW
    clear hok
    unfold opV at HW
    go_wp2_with fail
    refine HW.out.mono ?_; rintro e w1 ⟨rfl, hB1⟩
    go_wp2_with fail
    go_ret
    exact ⟨ret_bool (HNO.out (J1.out HO.out)).symm, hB.trans ((hX.call hB1).bel.mono hbs)⟩
   ·have HO := Lib.hid hok
    have HW := Lib.hid (op_valid o (wr.alloc (.cells #[.string o.name, .int .i64 o.typ, .int .i64 o.prec] 82)))
    rw [hok] at HW
    clear hok
    unfold opV at HW
    by_cases h0 : k = 0
    ·have b0 : ((k : Int) == 0) = true := by simp [h0]
     have HJ := Lib.hid (J0.out h0 HO.out)
     clear h0
     go_wp2_with fail
     refine HW.out.mono ?_; rintro e w1 ⟨rfl, hB1⟩
     go_wp2_with fail
     go_roundw
     case rel => exact ⟨k + 1, by omega, by go_num, hB.trans ((hX.call hB1).bel.mono hbs), fun j hj => by
       rcases Nat.lt_or_ge j k with h | h
       ·exact HA.out j h
       ·have : j = k := by omega
        subst this; exact HJ.out⟩
     case measure => simp [intOf] <;> omega
    ·have b0 : ((k : Int) == 0) = false := by simpa using h0
     have h0' : 0 < k := by omega
     have HJ := Lib.hid (JS.out h0' HO.out)
     obtain ⟨d0, d1, d2⟩ := HPr.out h0'
     generalize l[k - 1]'(by omega) = p at *
     clear h0
     go_wp2_with fail
     refine HW.out.mono ?_; rintro e w1 ⟨rfl, hB1⟩
     have hX1 := hX.call hB1
     have xl := hX1.lt
     have x0 := hX1.c0
     have x1 := hX1.c1
     have x2 := hX1.c2
     have d0' := (hX1.bel.cell (p := ⟨b, off + (k - 1) * 3, none⟩) hb).trans d0
     have d1' := (hX1.bel.cell (p := ⟨b, off + (k - 1) * 3 + 1, none⟩) hb).trans d1
     have d2' := (hX1.bel.cell (p := ⟨b, off + (k - 1) * 3 + 2, none⟩) hb).trans d2
     clear d0 d1 d2
     go_wp2_with fail
     refine (op_compare p o _).mono ?_; rintro e w2 ⟨rfl, hB2⟩
     have hY := (BoxAt.start w1 p 82).call hB2
     have hX2 := (hX1.call ((Below.refl w1.heap.size w1).alloc (Nat.le_refl _) (.cells #[.string p.name, .int .i64 p.typ, .int .i64 p.prec] 82))).call hB2
     have y0 := hY.c0
     have y1 := hY.c1
     have z0 := hX2.c0
     have hB3 := hB.trans (hX2.bel.mono hbs)
     clear x0 x1 x2 d0' d1' d2' hB2
     have hcase : (decide (0 ≤ cmpOp p o) = true ∧ Hid (opLt p o = false)) ∨ (decide (0 ≤ cmpOp p o) = false ∧ (p.name.toList == o.name.toList) = false ∧ Hid (opLt p o = true)) ∨ (decide (0 ≤ cmpOp p o) = false ∧ (p.name.toList == o.name.toList) = true ∧ (clsOp p.typ == 2) = true ∧ Hid (opLt p o = false)) ∨ (decide (0 ≤ cmpOp p o) = false ∧ (p.name.toList == o.name.toList) = true ∧ (clsOp p.typ == 2) = false ∧ Hid (opLt p o = true)) := by
      unfold Hid opLt
      grind
     rcases hcase with ⟨e1, HL⟩ | ⟨e1, e2, HL⟩ | ⟨e1, e2, e3, HL⟩ | ⟨e1, e2, e3, HL⟩
     ·go_wp2_with fail
      go_ret
      exact ⟨ret_bool (HNO.out (HJ.out.trans HL.out)).symm, hB3⟩
     ·have e2' : ¬p.name.toList = o.name.toList := by simpa using e2
      go_wp2_with fail
      go_roundw
      case rel => exact ⟨k + 1, by omega, by go_num, hB3, fun j hj => by
       rcases Nat.lt_or_ge j k with h | h
       ·exact HA.out j h
       ·have : j = k := by omega
        subst this; exact HJ.out.trans HL.out⟩
      case measure => simp [intOf] <;> omega
     ·have e2' : p.name.toList = o.name.toList := by simpa using e2
      have e3' : clsOp p.typ = 2 := by simpa using e3
      go_wp2_with fail
      refine (op_class_box hX2 p.typ).mono ?_; rintro e w3 ⟨rfl, hX3⟩
      go_wp2_with fail
      go_ret
      exact ⟨ret_bool (HNO.out (HJ.out.trans HL.out)).symm, hB.trans (hX3.bel.mono hbs)⟩
     ·have e2' : p.name.toList = o.name.toList := by simpa using e2
      have e3' : ¬clsOp p.typ = 2 := by simpa using e3
      go_wp2_with fail
      refine (op_class_box hX2 p.typ).mono ?_; rintro e w3 ⟨rfl, hX3⟩
      go_wp2_with fail
      go_roundw
      case rel => exact ⟨k + 1, by omega, by go_num, hB.trans (hX3.bel.mono hbs), fun j hj => by
       rcases Nat.lt_or_ge j k with h | h
       ·exact HA.out j h
       ·have : j = k := by omega
        subst this; exact HJ.out.trans HL.out⟩
      case measure => simp [intOf] <;> omega
  ·obtain rfl : k = n := by omega
   have HY := Lib.hid (opsValid_yes l (by have := HN.out; omega) (fun j hj => HA.out j (by have := HN.out; omega)))
   go_wp2_with fail
   go_ret
   exact ⟨ret_bool HY.out.symm, hB⟩
end Go.Proofs.YtfkhcpeahdkafaaGreat
namespace Hb
open Go Go.RowKit
def idxI (p : OpR → Bool) (l : List OpR) : Int := if l.any p = true then (l.findIdx p : Int) else -1
theorem idxI_hit (p : OpR → Bool) (l : List OpR) (k : Nat) (hk : k < l.length) (h : p l[k] = true) (hb : ∀ j (hj : j < k), p (l[j]'(by omega)) = false) : idxI p l = k := by
 unfold idxI
 rw [if_pos (List.any_eq_true.2 ⟨l[k], List.getElem_mem hk, h⟩), (List.findIdx_eq hk).2 ⟨h, hb⟩]
theorem idxI_miss (p : OpR → Bool) (l : List OpR) (hb : ∀ j (hj : j < l.length), p l[j] = false) : idxI p l = -1 := by
 unfold idxI
 rw [if_neg]
 rw [Bool.not_eq_true, List.any_eq_false]
 intro x hx
 obtain ⟨j, hj, rfl⟩ := List.getElem_of_mem hx
 simp [hb j hj]
theorem find_hit (p : OpR → Bool) (l : List OpR) (k : Nat) (hk : k < l.length) (h : p l[k] = true) (hb : ∀ j (hj : j < k), p (l[j]'(by omega)) = false) : l.find? p = some l[k] := by
 rw [List.find?_eq_some_iff_getElem]
 exact ⟨h, k, hk, rfl, fun j hj => by simp [hb j hj]⟩
theorem find_miss (p : OpR → Bool) (l : List OpR) (hb : ∀ j (hj : j < l.length), p l[j] = false) : l.find? p = none := by
 rw [List.find?_eq_none]
 intro x hx
 obtain ⟨j, hj, rfl⟩ := List.getElem_of_mem hx
 simp [hb j hj]
def isOp (name : ByteArray) (c : Int) (o : OpR) : Bool := o.name.toList == name.toList && clsOp o.typ == c
def op0 : OpR := ⟨⟨#[]⟩, 0, 0⟩
def findR (l : List OpR) (name : ByteArray) (c : Int) : Option OpR := if opsValid l = true then l.find? (isOp name c) else none
structure FHeld (w0 w : World) (o : OpR) (g1 g2 : Nat) (name : ByteArray) (c : Int) : Prop where
 bel : Below w0.heap.size w0 w
 lt : w0.heap.size < w.heap.size
 a0 : w.cell? ⟨w0.heap.size, 0, none⟩ = some (.string o.name)
 a1 : w.cell? ⟨w0.heap.size, 1, none⟩ = some (.int .i64 o.typ)
 n0 : w.cell? ⟨g1, 0, none⟩ = some (.string name)
 f0 : w.cell? ⟨g2, 0, none⟩ = some (.int .i64 c)
 l1 : g1 < w0.heap.size
 l2 : g2 < w0.heap.size
section
variable {w0 w w' : World} {o : OpR} {g1 g2 : Nat} {name : ByteArray} {c : Int}
theorem FHeld.keep (h : FHeld w0 w o g1 g2 name c) : w.cell? ⟨w0.heap.size, 0, none⟩ = some (.string o.name) ∧ w.cell? ⟨w0.heap.size, 1, none⟩ = some (.int .i64 o.typ) ∧ w.cell? ⟨g1, 0, none⟩ = some (.string name) ∧ w.cell? ⟨g2, 0, none⟩ = some (.int .i64 c) ∧ FHeld w0 w o g1 g2 name c := ⟨h.a0, h.a1, h.n0, h.f0, h⟩
theorem FHeld.of (h : w.cell? ⟨w0.heap.size, 0, none⟩ = some (.string o.name) ∧ w.cell? ⟨w0.heap.size, 1, none⟩ = some (.int .i64 o.typ) ∧ w.cell? ⟨g1, 0, none⟩ = some (.string name) ∧ w.cell? ⟨g2, 0, none⟩ = some (.int .i64 c) ∧ FHeld w0 w o g1 g2 name c) : FHeld w0 w o g1 g2 name c := h.2.2.2.2
theorem FHeld.call (hB : Below w.heap.size w w') (h : FHeld w0 w o g1 g2 name c) : FHeld w0 w' o g1 g2 name c where
 bel := h.bel.trans (hB.mono (by have := h.lt; omega))
 lt := Nat.lt_of_lt_of_le h.lt hB.size
 a0 := (hB.cell (p := ⟨_, _, none⟩) h.lt).trans h.a0
 a1 := (hB.cell (p := ⟨_, _, none⟩) h.lt).trans h.a1
 n0 := (hB.cell (p := ⟨_, _, none⟩) (Nat.lt_trans h.l1 h.lt)).trans h.n0
 f0 := (hB.cell (p := ⟨_, _, none⟩) (Nat.lt_trans h.l2 h.lt)).trans h.f0
 l1 := h.l1
 l2 := h.l2
theorem FHeld.drew (h : FHeld w0 w o g1 g2 name c) : FHeld w0 w.drew o g1 g2 name c := h.call (Below.refl w.heap.size w).drew
theorem FHeld.start (e : TypeId) (n0 : w.cell? ⟨g1, 0, none⟩ = some (.string name)) (f0 : w.cell? ⟨g2, 0, none⟩ = some (.int .i64 c)) (l1 : g1 < w.heap.size) (l2 : g2 < w.heap.size) : FHeld w (w.alloc (.cells #[.string o.name, .int .i64 o.typ, .int .i64 o.prec] e)) o g1 g2 name c where
 bel := (Below.refl _ _).alloc (Nat.le_refl _) _
 lt := by simp
 a0 := World.cell?_alloc_new _ _ _ 0
 a1 := World.cell?_alloc_new _ _ _ 1
 n0 := (World.grownBy_alloc _ _ none).cell n0 (by simp)
 f0 := (World.grownBy_alloc _ _ none).cell f0 (by simp)
 l1 := l1
 l2 := l2
end
structure RHeld (w0 w : World) (name : ByteArray) (c : Int) : Prop where
 bel : Below w0.heap.size w0 w
 lt : w0.heap.size + 1 + 1 < w.heap.size
 n0 : w.cell? ⟨w0.heap.size, 0, none⟩ = some (.string name)
 f0 : w.cell? ⟨w0.heap.size + 1, 0, none⟩ = some (.int .i64 c)
 r0 : ∃ v, w.cell? ⟨w0.heap.size + 1 + 1, 0, none⟩ = some v
 r1 : ∃ v, w.cell? ⟨w0.heap.size + 1 + 1, 1, none⟩ = some v
 r2 : ∃ v, w.cell? ⟨w0.heap.size + 1 + 1, 2, none⟩ = some v
 fr : ∀ o, w.frozen? ⟨w0.heap.size + 1 + 1, o, none⟩ = false
theorem RHeld.call {w0 w w' : World} {name : ByteArray} {c : Int} (h : RHeld w0 w name c) (hB : Below w.heap.size w w') : RHeld w0 w' name c where
 bel := h.bel.trans (hB.mono (by have := h.lt; omega))
 lt := Nat.lt_of_lt_of_le h.lt hB.size
 n0 := (hB.cell (p := ⟨_, _, none⟩) (by have := h.lt; show w0.heap.size < _; omega)).trans h.n0
 f0 := (hB.cell (p := ⟨_, _, none⟩) (by have := h.lt; show w0.heap.size + 1 < _; omega)).trans h.f0
 r0 := h.r0.imp fun _ hh => (hB.cell (p := ⟨_, _, none⟩) h.lt).trans hh
 r1 := h.r1.imp fun _ hh => (hB.cell (p := ⟨_, _, none⟩) h.lt).trans hh
 r2 := h.r2.imp fun _ hh => (hB.cell (p := ⟨_, _, none⟩) h.lt).trans hh
 fr := fun o => (hB.frozen (p := ⟨_, o, none⟩) h.lt).trans (h.fr o)
theorem RHeld.start (w : World) (name : ByteArray) (c : Int) (t1 t2 t3 : TypeId) : RHeld w (((w.alloc (.cells #[.string name] t1)).alloc (.cells #[.int .i64 c] t2)).alloc (.cells #[.string ⟨#[]⟩, .int .i64 0, .int .i64 0] t3)) name c where
 bel := (((Below.refl w.heap.size w).alloc (Nat.le_refl _) _).alloc (by simp) _).alloc (by simp; omega) _
 lt := by simp
 n0 := (World.grownBy_alloc _ _ none).cell ((World.grownBy_alloc _ _ none).cell (World.cell?_alloc_new _ _ _ 0) (by simp)) (by simp)
 f0 := (World.grownBy_alloc _ _ none).cell (by
  rw [show w.heap.size + 1 = (w.alloc (.cells #[.string name] t1)).heap.size by simp]
  exact World.cell?_alloc_new _ _ _ 0) (by simp)
 r0 := ⟨_, by
  rw [show w.heap.size + 1 + 1 = ((w.alloc (.cells #[.string name] t1)).alloc (.cells #[.int .i64 c] t2)).heap.size by simp]
  exact World.cell?_alloc_new _ _ _ 0⟩
 r1 := ⟨_, by
  rw [show w.heap.size + 1 + 1 = ((w.alloc (.cells #[.string name] t1)).alloc (.cells #[.int .i64 c] t2)).heap.size by simp]
  exact World.cell?_alloc_new _ _ _ 1⟩
 r2 := ⟨_, by
  rw [show w.heap.size + 1 + 1 = ((w.alloc (.cells #[.string name] t1)).alloc (.cells #[.int .i64 c] t2)).heap.size by simp]
  exact World.cell?_alloc_new _ _ _ 2⟩
 fr := fun o => by
  rw [show w.heap.size + 1 + 1 = ((w.alloc (.cells #[.string name] t1)).alloc (.cells #[.int .i64 c] t2)).heap.size by simp]
  exact World.frozen?_alloc_new _ _ _ _
end Hb
namespace Go.Proofs.YtfkhcpeahdkafaaGreat
open Go.RowKit Hb
set_option maxRecDepth 100000
set_option maxHeartbeats 1600000 in
theorem find_1 (o : OpR) (g1 g2 : Nat) (name : ByteArray) (c : Int) (w : World) (n0 : w.cell? ⟨g1, 0, none⟩ = some (.string name)) (f0 : w.cell? ⟨g2, 0, none⟩ = some (.int .i64 c)) (l1 : g1 < w.heap.size) (l2 : g2 < w.heap.size) :
  Calls Tryz.prog 212 #[opV o, .pointer (some ⟨g1, 0, none⟩), .pointer (some ⟨g2, 0, none⟩)] w fun e w' => e = .returned (.bool (isOp name c o)) ∧ Below w.heap.size w w' := by
 have H1 := FHeld.start (o := o) 82 n0 f0 l1 l2
 unfold opV
 have HS := Lib.hid (show isOp name c o = (o.name.toList == name.toList && clsOp o.typ == c) from rfl)
 cases h : (o.name.toList == name.toList)
 ·rw [h] at HS
  have h2 : ¬o.name.toList = name.toList := by simpa using h
  go_enter Tryz.func212, Tryz.ntmps212
  go_wp2_with fail
  go_quiet (fail)
  go_wp2_with fail
  go_ret
  exact ⟨ret_bool HS.out.symm, bl_drewN H1.bel _⟩
 ·rw [h] at HS
  have h2 : o.name.toList = name.toList := by simpa using h
  go_enter Tryz.func212, Tryz.ntmps212
  go_wp2_with fail
  go_region_held3 (fun w' => w'.cell? ⟨w.heap.size, 0, none⟩ = some (.string o.name) ∧ w'.cell? ⟨w.heap.size, 1, none⟩ = some (.int .i64 o.typ) ∧ w'.cell? ⟨g1, 0, none⟩ = some (.string name) ∧ w'.cell? ⟨g2, 0, none⟩ = some (.int .i64 c) ∧ FHeld w w' o g1 g2 name c)
   (first | with_reducible exact H1.drew.keep | with_reducible exact FHeld.keep (FHeld.of (by with_reducible assumption)) | with_reducible exact FHeld.keep (FHeld.call (by with_reducible assumption) (FHeld.of (by with_reducible assumption))))
   (first | (go_at_call 102; (with_reducible refine (op_class o.typ _).mono ?_); rintro e w2 ⟨rfl, hB2⟩))
  all_goals go_wp2_with fail
  all_goals go_ret
  all_goals exact ⟨ret_bool HS.out.symm, FHeld.bel (FHeld.of (by with_reducible assumption))⟩
set_option maxHeartbeats 1600000 in
theorem ops_index (A : Option Addr) (n cap : Nat) (l : List OpR) (g1 g2 : Nat) (name : ByteArray) (c : Int) (w : World) (hn : n = l.length) (hm : n ≤ 400) (hp : OpsAt w A l) (n0 : w.cell? ⟨g1, 0, none⟩ = some (.string name)) (f0 : w.cell? ⟨g2, 0, none⟩ = some (.int .i64 c)) (l1 : g1 < w.heap.size) (l2 : g2 < w.heap.size) :
  Calls Tryz.prog 205 #[.slice A n cap, .func (.func 212) #[] #[.pointer (some ⟨g1, 0, none⟩), .pointer (some ⟨g2, 0, none⟩)]] w fun e w' => e = .returned (.int .i64 (idxI (isOp name c) l)) ∧ Below w.heap.size w w' := by
 have HN := Lib.hid hn
 have HP := Lib.hid hp
 clear hn hp
 go_enter Tryz.func205, Tryz.ntmps205
 go_wp2_with fail
 go_loopw [8] (fun i wr => ∃ k : Nat, k ≤ n ∧ i = .int .i64 k ∧ Below w.heap.size w wr ∧ Hid (∀ j (hj : j < l.length), j < k → isOp name c l[j] = false)) (fun i _ => n - (intOf i).toNat)
 case atStart => exact ⟨0, Nat.zero_le _, rfl, Below.refl _ _, fun j _ hj => absurd hj (by omega)⟩
 case round =>
  obtain ⟨k, hk, rfl, hB, HA⟩ := hrel
  by_cases hlt : k < n
  ·have hbs := hB.size
   have hkl : k < l.length := by have := HN.out; omega
   obtain ⟨b, off, rfl, hb, c0, c1, c2⟩ := (HP.out.below hB) k hkl
   have HH := Lib.hid (fun h => idxI_hit (isOp name c) l k hkl h (fun j hj => HA.out j (by omega) hj))
   have HC := Lib.hid (find_1 l[k] g1 g2 name c wr ((hB.cell (p := ⟨g1, 0, none⟩) l1).trans n0) ((hB.cell (p := ⟨g2, 0, none⟩) l2).trans f0) (Nat.lt_of_lt_of_le l1 hbs) (Nat.lt_of_lt_of_le l2 hbs))
   have HR := Lib.hid (fun (h : isOp name c l[k] = false) => (show ∀ j (hj : j < l.length), j < k + 1 → isOp name c l[j] = false from fun j hj hjk => by
    rcases Nat.lt_or_ge j k with h' | h'
    ·exact HA.out j hj h'
    ·have : j = k := by omega
     subst this; exact h))
   generalize l[k] = o at *
   unfold opV at HC
   cases hi : isOp name c o
   ·rw [hi] at HC
    have HI := Lib.hid hi
    clear hi
    go_wp2_with fail
    refine HC.out.mono ?_; rintro e w1 ⟨rfl, hB1⟩
    go_wp2_with fail
    go_roundw
    case rel => exact ⟨k + 1, by omega, by go_num, hB.trans (hB1.mono hbs), HR.out HI.out⟩
    case measure => simp [intOf] <;> omega
   ·rw [hi] at HC
    have HI := Lib.hid hi
    clear hi
    go_wp2_with fail
    refine HC.out.mono ?_; rintro e w1 ⟨rfl, hB1⟩
    go_wp2_with fail
    go_ret
    exact ⟨ret_int (HH.out HI.out).symm, hB.trans (hB1.mono hbs)⟩
  ·obtain rfl : k = n := by omega
   have HM := Lib.hid (idxI_miss (isOp name c) l (fun j hj => HA.out j hj (by have := HN.out; omega)))
   go_wp2_with fail
   go_ret
   exact ⟨ret_int HM.out.symm, hB⟩
set_option maxHeartbeats 1600000 in
theorem ops_find (A : Option Addr) (n cap : Nat) (l : List OpR) (name : ByteArray) (c : Int) (w : World) (hn : n = l.length) (hm : n ≤ 400) (hp : OpsAt w A l) :
  Calls Tryz.prog 204 #[.slice A n cap, .string name, .int .i64 c] w fun e w' => e = .returned (.tuple #[opV ((findR l name c).getD op0), .bool (findR l name c).isSome]) ∧ Below w.heap.size w w' := by
 have HP := Lib.hid hp
 have HN := Lib.hid hn
 clear hp
 have hX := RHeld.start w name c 9 3 82
 have HV := Lib.hid (ops_valid A n cap l _ hn hm (HP.out.below hX.bel))
 clear hn
 cases hv : opsValid l
 ·rw [hv] at HV
  have HF := Lib.hid (show findR l name c = none by unfold findR; rw [hv]; rfl)
  clear hv
  go_enter Tryz.func204, Tryz.ntmps204
  go_wp2_with fail
  refine HV.out.mono ?_; rintro e w1 ⟨rfl, hB1⟩
  have hY := hX.call hB1
  obtain ⟨hb, lt, n0, f0, ⟨v0, r0⟩, ⟨v1, r1⟩, ⟨v2, r2⟩, fr⟩ := id hY
  have fr0 := fr 0
  go_wp2_with fail
  refine bodyPost_ret (v := .tuple #[opV op0, .bool false]) (by simp [opV, op0, results, Tryz.results204, go_sem, r0, r1, r2]) rfl ⟨by rw [HF.out]; rfl, by
   have hs : w.heap.size ≤ w.heap.size + 1 + 1 := by omega
   exact ((hb.setCell (p := ⟨_, _, none⟩) hs _).setCell (p := ⟨_, _, none⟩) hs _).setCell (p := ⟨_, _, none⟩) hs _⟩
 ·rw [hv] at HV
  have HF := Lib.hid (show findR l name c = l.find? (isOp name c) by unfold findR; rw [hv]; rfl)
  clear hv
  have HI := Lib.hid (fun (w1 : World) (hY : RHeld w w1 name c) => ops_index A n cap l w.heap.size (w.heap.size + 1) name c w1 HN.out hm (HP.out.below hY.bel) hY.n0 hY.f0 (by have := hY.lt; omega) (by have := hY.lt; omega))
  by_cases hex : ∃ k, ∃ hk : k < l.length, isOp name c l[k] = true ∧ ∀ j (hj : j < k), isOp name c (l[j]'(by omega)) = false
  ·obtain ⟨k, hkl, h1, h2⟩ := hex
   have hkn : k < n := by have := HN.out; omega
   have HE := Lib.hid (HF.out.trans (find_hit _ l k hkl h1 h2))
   rw [idxI_hit _ l k hkl h1 h2] at HI
   obtain ⟨b, off, rfl, hbb, q0, q1, q2⟩ := HP.out k hkl
   generalize l[k] = o at *
   clear h1 h2
   go_enter Tryz.func204, Tryz.ntmps204
   go_wp2_with fail
   refine HV.out.mono ?_; rintro e w1 ⟨rfl, hB1⟩
   have hY := hX.call hB1
   go_wp2_with fail
   refine (HI.out w1 hY).mono ?_; rintro e w2 ⟨rfl, hB2⟩
   have hZ := hY.call hB2
   obtain ⟨hb, lt, n0, f0, ⟨v0, r0⟩, ⟨v1, r1⟩, ⟨v2, r2⟩, fr⟩ := id hZ
   have fr0 := fr 0
   have q0' := (hb.cell (p := ⟨b, off + k * 3, none⟩) hbb).trans q0
   have q1' := (hb.cell (p := ⟨b, off + k * 3 + 1, none⟩) hbb).trans q1
   have q2' := (hb.cell (p := ⟨b, off + k * 3 + 2, none⟩) hbb).trans q2
   clear q0 q1 q2
   go_wp2_with fail
   refine bodyPost_ret (v := .tuple #[opV o, .bool true]) (by simp [opV, results, Tryz.results204, go_sem, r0, r1, r2]) rfl ⟨by rw [HE.out]; rfl, by
    have hs : w.heap.size ≤ w.heap.size + 1 + 1 := by omega
    exact ((hb.setCell (p := ⟨_, _, none⟩) hs _).setCell (p := ⟨_, _, none⟩) hs _).setCell (p := ⟨_, _, none⟩) hs _⟩
  ·have hno : ∀ j (hj : j < l.length), isOp name c l[j] = false := by
    intro j
    induction j using Nat.strongRecOn with
    | ind j ih =>
     intro hj
     cases hc : isOp name c l[j] with
     | false => rfl
     | true => exact absurd ⟨j, hj, hc, fun i hi => ih i hi (by omega)⟩ hex
   have HE := Lib.hid (HF.out.trans (find_miss _ l hno))
   rw [idxI_miss _ l hno] at HI
   clear hno hex
   go_enter Tryz.func204, Tryz.ntmps204
   go_wp2_with fail
   refine HV.out.mono ?_; rintro e w1 ⟨rfl, hB1⟩
   have hY := hX.call hB1
   go_wp2_with fail
   refine (HI.out w1 hY).mono ?_; rintro e w2 ⟨rfl, hB2⟩
   have hZ := hY.call hB2
   obtain ⟨hb, lt, n0, f0, ⟨v0, r0⟩, ⟨v1, r1⟩, ⟨v2, r2⟩, fr⟩ := id hZ
   have fr0 := fr 0
   go_wp2_with fail
   refine bodyPost_ret (v := .tuple #[opV op0, .bool false]) (by simp [opV, op0, results, Tryz.results204, go_sem, r0, r1, r2]) rfl ⟨by rw [HE.out]; rfl, by
    have hs : w.heap.size ≤ w.heap.size + 1 + 1 := by omega
    exact ((hb.setCell (p := ⟨_, _, none⟩) hs _).setCell (p := ⟨_, _, none⟩) hs _).setCell (p := ⟨_, _, none⟩) hs _⟩
end Go.Proofs.YtfkhcpeahdkafaaGreat
namespace Hb
open Go Go.RowKit
structure R3 (w0 w : World) : Prop where
 bel : Below w0.heap.size w0 w
 lt : w0.heap.size < w.heap.size
 r0 : ∃ v, w.cell? ⟨w0.heap.size, 0, none⟩ = some v
 r1 : ∃ v, w.cell? ⟨w0.heap.size, 1, none⟩ = some v
 r2 : ∃ v, w.cell? ⟨w0.heap.size, 2, none⟩ = some v
 fr : ∀ o, w.frozen? ⟨w0.heap.size, o, none⟩ = false
theorem R3.call {w0 w w' : World} (h : R3 w0 w) (hB : Below w.heap.size w w') : R3 w0 w' where
 bel := h.bel.trans (hB.mono (Nat.le_of_lt h.lt))
 lt := Nat.lt_of_lt_of_le h.lt hB.size
 r0 := h.r0.imp fun _ hh => (hB.cell (p := ⟨_, _, none⟩) h.lt).trans hh
 r1 := h.r1.imp fun _ hh => (hB.cell (p := ⟨_, _, none⟩) h.lt).trans hh
 r2 := h.r2.imp fun _ hh => (hB.cell (p := ⟨_, _, none⟩) h.lt).trans hh
 fr := fun o => (hB.frozen (p := ⟨_, o, none⟩) h.lt).trans (h.fr o)
theorem R3.start (w : World) (e : TypeId) : R3 w (w.alloc (.cells #[.string ⟨#[]⟩, .int .i64 0, .int .i64 0] e)) where
 bel := (Below.refl _ _).alloc (Nat.le_refl _) _
 lt := by simp
 r0 := ⟨_, World.cell?_alloc_new _ _ _ 0⟩
 r1 := ⟨_, World.cell?_alloc_new _ _ _ 1⟩
 r2 := ⟨_, World.cell?_alloc_new _ _ _ 2⟩
 fr := fun o => World.frozen?_alloc_new _ _ _ _
theorem R3.put {w0 w : World} (h : R3 w0 w) (x y z : Value) : Below w0.heap.size w0 (((w.setCell ⟨w0.heap.size, 0, none⟩ x).setCell ⟨w0.heap.size, 1, none⟩ y).setCell ⟨w0.heap.size, 2, none⟩ z) :=
 ((h.bel.setCell (p := ⟨_, _, none⟩) (Nat.le_refl _) _).setCell (p := ⟨_, _, none⟩) (Nat.le_refl _) _).setCell (p := ⟨_, _, none⟩) (Nat.le_refl _) _
end Hb
namespace Go.Proofs.YtfkhcpeahdkafaaGreat
open Go.RowKit Hb
set_option maxRecDepth 100000
end Go.Proofs.YtfkhcpeahdkafaaGreat
namespace Hb
open Go Go.RowKit
def isNm (name : ByteArray) (o : OpR) : Bool := o.name.toList == name.toList
end Hb
namespace Go.Proofs.YtfkhcpeahdkafaaGreat
open Go.RowKit Hb
set_option maxRecDepth 100000
end Go.Proofs.YtfkhcpeahdkafaaGreat
