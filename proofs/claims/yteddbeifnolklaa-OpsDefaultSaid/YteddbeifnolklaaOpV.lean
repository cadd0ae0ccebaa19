/- Operators: Is. -/
import Derived.Test.YteddbeifnolklaaOp6
namespace Hb
open Go Go.RowKit
def isNm (name : ByteArray) (o : OpR) : Bool := o.name.toList == name.toList
theorem idxI_any (p : OpR → Bool) (l : List OpR) : decide (0 ≤ idxI p l) = l.any p := by
  unfold idxI
  cases h : l.any p
  · simp
  · simp
end Hb
namespace Go.Proofs.Yteddbeifnolklaa
open Go.RowKit Hb
set_option maxRecDepth 100000
theorem is_1 (o : OpR) (g1 : Nat) (name : ByteArray) (w : World) (n0 : w.cell? ⟨g1, 0, none⟩ = some (.string name)) (l1 : g1 < w.heap.size) :
    Calls Try.prog 51 #[opV o, .pointer (some ⟨g1, 0, none⟩)] w fun e w' => e = .returned (.bool (isNm name o)) ∧ Below w.heap.size w w' := by
  unfold opV
  have HS := Lib.hid (show isNm name o = (o.name.toList == name.toList) from rfl)
  go_enter Try.func51, Try.ntmps51
  go_wp2_with fail
  go_ret
  exact ⟨ret_bool HS.out.symm, (Below.refl _ _).alloc (Nat.le_refl _) _⟩
set_option maxHeartbeats 1600000 in
theorem ops_index1 (A : Option Addr) (n cap : Nat) (l : List OpR) (g1 : Nat) (name : ByteArray) (w : World) (hn : n = l.length) (hm : n ≤ 400) (hp : OpsAt w A l) (n0 : w.cell? ⟨g1, 0, none⟩ = some (.string name)) (l1 : g1 < w.heap.size) :
    Calls Try.prog 57 #[.slice A n cap, .func (.func 51) #[] #[.pointer (some ⟨g1, 0, none⟩)]] w fun e w' => e = .returned (.int .i64 (idxI (isNm name) l)) ∧ Below w.heap.size w w' := by
  have HN := Lib.hid hn
  have HP := Lib.hid hp
  clear hn hp
  go_enter Try.func57, Try.ntmps57
  go_wp2_with fail
  go_loopw [8] (fun i wr => ∃ k : Nat, k ≤ n ∧ i = .int .i64 k ∧ Below w.heap.size w wr ∧ Hid (∀ j (hj : j < l.length), j < k → isNm name l[j] = false)) (fun i _ => n - (intOf i).toNat)
  case atStart => exact ⟨0, Nat.zero_le _, rfl, Below.refl _ _, fun j _ hj => absurd hj (by omega)⟩
  case round =>
    obtain ⟨k, hk, rfl, hB, HA⟩ := hrel
    by_cases hlt : k < n
    · have hbs := hB.size
      have hkl : k < l.length := by have := HN.out; omega
      obtain ⟨b, off, rfl, hb, c0, c1, c2⟩ := (HP.out.below hB) k hkl
      have HH := Lib.hid (fun h => idxI_hit (isNm name) l k hkl h (fun j hj => HA.out j (by omega) hj))
      have HC := Lib.hid (is_1 l[k] g1 name wr ((hB.cell (p := ⟨g1, 0, none⟩) l1).trans n0) (Nat.lt_of_lt_of_le l1 hbs))
      have HR := Lib.hid (fun (h : isNm name l[k] = false) => (show ∀ j (hj : j < l.length), j < k + 1 → isNm name l[j] = false from fun j hj hjk => by
        rcases Nat.lt_or_ge j k with h' | h'
        · exact HA.out j hj h'
        · have : j = k := by omega
          subst this; exact h))
      generalize l[k] = o at *
      unfold opV at HC
      cases hi : isNm name o
      · rw [hi] at HC
        have HI := Lib.hid hi
        clear hi
        go_wp2_with fail
        refine HC.out.mono ?_; rintro e w1 ⟨rfl, hB1⟩
        go_wp2_with fail
        go_roundw
        case rel => exact ⟨k + 1, by omega, by go_num, hB.trans (hB1.mono hbs), HR.out HI.out⟩
        case measure => simp [intOf] <;> omega
      · rw [hi] at HC
        have HI := Lib.hid hi
        clear hi
        go_wp2_with fail
        refine HC.out.mono ?_; rintro e w1 ⟨rfl, hB1⟩
        go_wp2_with fail
        go_ret
        exact ⟨ret_int (HH.out HI.out).symm, hB.trans (hB1.mono hbs)⟩
    · obtain rfl : k = n := by omega
      have HM := Lib.hid (idxI_miss (isNm name) l (fun j hj => HA.out j hj (by have := HN.out; omega)))
      go_wp2_with fail
      go_ret
      exact ⟨ret_int HM.out.symm, hB⟩
theorem ops_contains (A : Option Addr) (n cap : Nat) (l : List OpR) (g1 : Nat) (name : ByteArray) (w : World) (hn : n = l.length) (hm : n ≤ 400) (hp : OpsAt w A l) (n0 : w.cell? ⟨g1, 0, none⟩ = some (.string name)) (l1 : g1 < w.heap.size) :
    Calls Try.prog 50 #[.slice A n cap, .func (.func 51) #[] #[.pointer (some ⟨g1, 0, none⟩)]] w fun e w' => e = .returned (.bool (l.any (isNm name))) ∧ Below w.heap.size w w' := by
  have HC := Lib.hid (ops_index1 A n cap l g1 name w hn hm hp n0 l1)
  have HA := Lib.hid (idxI_any (isNm name) l)
  clear hn hp
  generalize idxI (isNm name) l = x at *
  go_enter Try.func50, Try.ntmps50
  go_wp2_with fail
  refine HC.out.mono ?_; rintro e w1 ⟨rfl, hB1⟩
  go_wp2_with fail
  go_ret
  exact ⟨ret_bool HA.out, hB1⟩
set_option maxHeartbeats 800000 in
theorem ops_is (A : Option Addr) (n cap : Nat) (l : List OpR) (name : ByteArray) (w : World) (hn : n = l.length) (hm : n ≤ 400) (hp : OpsAt w A l) :
    Calls Try.prog 27 #[.slice A n cap, .string name] w fun e w' => e = .returned (.bool (opsValid l && l.any (isNm name))) ∧ Below w.heap.size w w' := by
  have hB0 := (Below.refl w.heap.size w).alloc (Nat.le_refl _) (.cells #[.string name] 9)
  have n0 : (w.alloc (.cells #[.string name] 9)).cell? ⟨w.heap.size, 0, none⟩ = some (.string name) := World.cell?_alloc_new _ _ _ 0
  have l1 : w.heap.size < (w.alloc (.cells #[.string name] 9)).heap.size := by simp
  have HV := Lib.hid (ops_valid A n cap l _ hn hm (hp.below hB0))
  have HC := Lib.hid (fun (w1 : World) (hB1 : Below (w.alloc (.cells #[.string name] 9)).heap.size (w.alloc (.cells #[.string name] 9)) w1) => ops_contains A n cap l w.heap.size name w1 hn hm ((hp.below hB0).below hB1) ((hB1.cell (p := ⟨_, _, none⟩) l1).trans n0) (Nat.lt_of_lt_of_le l1 hB1.size))
  clear hn hp n0
  cases hv : opsValid l
  · rw [hv] at HV
    go_enter Try.func27, Try.ntmps27
    go_wp2_with fail
    refine HV.out.mono ?_; rintro e w1 ⟨rfl, hB1⟩
    go_wp2_with fail
    go_ret
    exact ⟨rfl, hB0.trans (hB1.mono (Nat.le_of_lt l1))⟩
  · rw [hv] at HV
    go_enter Try.func27, Try.ntmps27
    go_wp2_with fail
    refine HV.out.mono ?_; rintro e w1 ⟨rfl, hB1⟩
    have HC1 := Lib.hid (HC.out w1 hB1)
    have hB2 := hB0.trans (hB1.mono (Nat.le_of_lt l1))
    obtain ⟨b, HBE⟩ : ∃ b, Hid (b = l.any (isNm name)) := ⟨_, Lib.hid rfl⟩
    rw [← HBE.out] at HC1
    go_wp2_with fail
    refine HC1.out.mono ?_; rintro e w2 ⟨rfl, hB3⟩
    go_wp2_with fail
    go_ret
    exact ⟨ret_bool (by rw [HBE.out]; rfl), hB2.trans (hB3.mono hB2.size)⟩
end Go.Proofs.Yteddbeifnolklaa
