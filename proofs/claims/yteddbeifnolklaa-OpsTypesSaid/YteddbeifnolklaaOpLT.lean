/- Operators: the law OpsTypes. -/
import Derived.Test.YteddbeifnolklaaOpAw
import Derived.Test.YteddbeifnolklaaOpT2
import Derived.Test.YteddbeifnolklaaOpT3
namespace Go.Proofs.Yteddbeifnolklaa
open Go.RowKit Hb
set_option maxRecDepth 100000
set_option maxHeartbeats 3200000 in
theorem law_types (o : OpR) (t : Int) (s : ByteArray) (w : World) (hp : -9223372036854775808 ≤ o.prec ∧ o.prec ≤ 9223372036854775807) :
    Calls Try.prog 9 #[opV o, .int .i64 t, .string s] w fun e w' => e = .returned (.bool true) ∧ Below w.heap.size w w' := by
  have hX := BoxAt.start w o 34
  have H1 := Lib.hid (fun (w1 : World) (hX : BoxAt w w1 o) => (ops_sides o w1 hp).mono fun _ _ h => (⟨h.1, hX.call h.2⟩ : _ ∧ BoxAt w _ o))
  have H2 := Lib.hid (fun (w1 : World) (hX : BoxAt w w1 o) => (ref_sides o w1).mono fun _ _ h => (⟨h.1, hX.call h.2⟩ : _ ∧ BoxAt w _ o))
  unfold opV at *
  generalize sideL o = x at *
  generalize sideR o = y at *
  go_enter Try.func9, Try.ntmps9
  go_wp2_with fail
  refine (H1.out _ hX).mono ?_; rintro e w1 ⟨rfl, hX1⟩
  have c0 := hX1.c0
  have c1 := hX1.c1
  have c2 := hX1.c2
  go_wp2_with fail
  refine (H2.out _ hX1).mono ?_; rintro e w2 ⟨rfl, hX2⟩
  clear c0 c1 c2 hX hX1 H1 H2
  go_wp2_with fail
  refine (ops_typeName t w2).mono ?_; rintro e w3 ⟨rfl, hB3⟩
  have hX3 := hX2.call hB3
  clear hX2 hB3
  go_wp2_with fail
  refine (ref_typeName t w3).mono ?_; rintro e w4 ⟨rfl, hB4⟩
  have hX4 := hX3.call hB4
  clear hX3 hB4
  go_wp2_with fail
  refine (ops_typeOf s w4).mono ?_; rintro e w5 ⟨rfl, hB5⟩
  have hX5 := hX4.call hB5
  clear hX4 hB5
  go_wp2_with fail
  refine (ref_typeOf s w5).mono ?_; rintro e w6 ⟨rfl, hB6⟩
  have hX6 := hX5.call hB6
  clear hX5 hB6
  go_wp2_with fail
  refine (law_awake w6).mono ?_; rintro e w7 ⟨rfl, hB7⟩
  have hX7 := hX6.call hB7
  go_wp2_with fail
  go_ret
  exact ⟨rfl, hX7.bel⟩
end Go.Proofs.Yteddbeifnolklaa
