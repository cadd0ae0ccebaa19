/- Operators: fixed. -/
import Derived.Test.YteddbeifnolklaaOpP
namespace Hb
open Go Go.RowKit
theorem cls_ge (t : Int) : 0 ≤ clsOp t := by unfold clsOp; grind
theorem cls_le (t : Int) : clsOp t ≤ 3 := by unfold clsOp; grind
end Hb
namespace Go.Proofs.Yteddbeifnolklaa
open Go.RowKit Hb
set_option maxRecDepth 100000
theorem find_box (A : Option Addr) (n cap : Nat) (l : List OpR) (c : Int) (w0 w1 : World) (o : OpR) (hX : BoxAt w0 w1 o) (hn : n = l.length) (hm : n ≤ 400) (hp : OpsAt w1 A l) :
    Calls Try.prog 47 #[.slice A n cap, .string o.name, .int .i64 c] w1 fun e w' => e = .returned (.tuple #[.agg #[.string ((findR l o.name c).getD op0).name, .int .i64 ((findR l o.name c).getD op0).typ, .int .i64 ((findR l o.name c).getD op0).prec], .bool (findR l o.name c).isSome]) ∧ BoxAt w0 w' o :=
  (ops_find A n cap l o.name c w1 hn hm hp).mono fun _ _ ⟨he, hb⟩ => ⟨he, hX.call hb⟩
set_option maxHeartbeats 3200000 in
theorem ops_fixed (A : Option Addr) (n cap : Nat) (l : List OpR) (o : OpR) (w : World) (hn : n = l.length) (hm : n ≤ 400) (hp : OpsAt w A l) :
    Calls Try.prog 39 #[.slice A n cap, opV o] w fun e w' => e = .returned (.bool (fixedS l o)) ∧ Below w.heap.size w w' := by
  have hX := BoxAt.start w o 34
  have HF := Lib.hid (fun (c : Int) (w1 : World) (hX : BoxAt w w1 o) => find_box A n cap l c w w1 o hX hn hm (hp.below hX.bel))
  have HC := Lib.hid (fun (w1 : World) (hX : BoxAt w w1 o) => op_class_box hX o.typ)
  unfold opV
  have hc0 := cls_ge o.typ
  have hc3 := cls_le o.typ
  clear hp hn
  generalize hcc : clsOp o.typ = c at *
  have HCC := Lib.hid hcc
  clear hcc
  go_enter Try.func39, Try.ntmps39
  go_wp2_with (first
    | (go_at_call 38; (with_reducible refine (HC.out _ (by with_reducible assumption)).mono ?_); rintro e w2 ⟨rfl, hX2⟩; have c0 := hX2.c0; have c1 := hX2.c1; have c2 := hX2.c2)
    | (go_at_call 47; (with_reducible refine (HF.out (5 - c) _ (by with_reducible assumption)).mono ?_); rintro e w3 ⟨rfl, hX3⟩)
    | (go_at_call 47; (with_reducible refine (HF.out 3 _ (by with_reducible assumption)).mono ?_); rintro e w3 ⟨rfl, hX3⟩))
  all_goals go_ret
  all_goals refine ⟨ret_bool ?_, by first | exact BoxAt.bel (o := o) (by with_reducible assumption) | (refine Below.alloc (BoxAt.bel (o := o) (by with_reducible assumption)) ?_ _; exact Nat.le_of_lt (BoxAt.lt (o := o) (by with_reducible assumption)))⟩
  all_goals have hcc := HCC.out
  all_goals unfold fixedS isN
  all_goals grind
end Go.Proofs.Yteddbeifnolklaa
