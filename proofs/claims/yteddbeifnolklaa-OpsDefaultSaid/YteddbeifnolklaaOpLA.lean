/- Operators: the law OpsAgain. -/
import Derived.Test.YteddbeifnolklaaOpAw
import Derived.Test.YteddbeifnolklaaOpQ
import Derived.Test.YteddbeifnolklaaOpLC
import Derived.Test.YteddbeifnolklaaOpU
namespace Go.Proofs.Yteddbeifnolklaa
open Go.RowKit Hb
set_option maxRecDepth 100000
theorem same_tab {w : World} {A B : Option Addr} {n m c1 c2 : Nat} {l : List OpR} (h1 : Tab w A n c1 l) (h2 : Tab w B m c2 l) (hm : n ≤ 400) :
    Calls Try.prog 12 #[.slice A n c1, .slice B m c2] w fun e w' => e = .returned (.bool true) ∧ Below w.heap.size w w' := by
  obtain rfl : m = n := h2.len.trans h1.len.symm
  exact ref_same A B m c1 c2 l w h1.len hm h1.ops h2.ops
set_option maxHeartbeats 6400000 in
theorem law_again (A : Option Addr) (n cap : Nat) (l : List OpR) (prec typ : Int) (name : ByteArray) (w : World) (hn : n = l.length) (hm : n ≤ maxLen) (hp : OpsAt w A l) (hz : n = 0 → (Value.slice A n cap = .slice none 0 0 ∨ ∃ ad, A = some ad)) :
    Calls Try.prog 6 #[.slice A n cap, .int .i64 prec, .int .i64 typ, .string name] w fun e w' => e = .returned (.bool true) ∧ Below w.heap.size w w' := by
  unfold maxLen at hm
  by_cases h3 : 300 < n
  · have b1 : decide ((300 : Int) < (n : Int)) = true := by simp; omega
    clear hp hn hz
    go_enter Try.func6, Try.ntmps6
    go_wp2_with fail
    refine (law_awake w).mono ?_; rintro e w1 ⟨rfl, hB1⟩
    go_wp2_with fail
    go_ret
    exact ⟨rfl, hB1⟩
  have b1 : decide ((300 : Int) < (n : Int)) = false := by simp; omega
  have hm4 : n ≤ 400 := by omega
  have HT : Hid (Tab w A n cap l) := Lib.hid ⟨hn, hp, hz⟩
  clear hp hn hz h3
  have HS := Lib.hid (ops_set A n cap l prec typ name w hm4 HT.out)
  by_cases hok : (setR l ⟨name, typ, prec⟩).2 = 0
  · have hset := (setR_iff _ _).1 hok
    rw [setR_new hset] at HS
    have HLEN := Lib.hid hset.len
    have HA2 := Lib.hid hset.again_eq
    have HU2 : Hid (setR (newL l ⟨name, typ, prec⟩) ⟨name, typ, 0⟩ = (restL ⟨name, typ, prec⟩ l, 0)) := Lib.hid hset.undo
    have HUN : Hid (findR l name (clsOp typ) = none → restL ⟨name, typ, prec⟩ l = l) := Lib.hid hset.undone
    have hc0 := cls_ge typ
    have hc3 := cls_le typ
    have hcn : clsOp typ ≠ 0 := hset.cls
    have HCL := Lib.hid (ref_class typ)
    clear hset hok
    generalize newL l ⟨name, typ, prec⟩ = t at *
    generalize restL ⟨name, typ, prec⟩ l = v at *
    generalize clsOp typ = c at *
    go_enter Try.func6, Try.ntmps6
    go_wp2_with fail
    refine HS.out.mono ?_; rintro e w1 ⟨A1, n1, c1, rfl, hB1, hT1⟩
    have HT1 := Lib.hid hT1
    have hn1 : n1 ≤ 400 := by have h1 := hT1.len; have h2 := HLEN.out; omega
    have HS2 := Lib.hid (ops_set A1 n1 c1 t prec typ name w1 hn1 hT1)
    rw [HA2.out] at HS2
    clear hT1
    go_wp2_with fail
    refine HS2.out.mono ?_; rintro e w2 ⟨A2, n2, c2, rfl, hB2, hT2⟩
    have HT2 := Lib.hid hT2
    have HT12 := Lib.hid (HT1.out.below hB2)
    have HS3 := Lib.hid (ops_set A1 n1 c1 t 0 typ name w2 hn1 HT12.out)
    rw [HU2.out] at HS3
    clear hT2
    go_wp2_with fail
    refine HS3.out.mono ?_; rintro e w3 ⟨A3, n3, c3, rfl, hB3, hT3⟩
    have HT3 := Lib.hid hT3
    have HT13 := Lib.hid (HT12.out.below hB3)
    have HT23 := Lib.hid (HT2.out.below hB3)
    have hB13 := hB1.trans ((hB2.trans (hB3.mono hB2.size)).mono hB1.size)
    have HT03 := Lib.hid (HT.out.below hB13)
    clear hT3 HS HS2 HS3
    go_wp2_with fail
    refine (HCL.out w3).mono ?_; rintro e w3' ⟨rfl, rfl⟩
    have HF := Lib.hid (find_tab HT03.out hm4 c name (by omega))
    cases hf : findR l name c with
    | none =>
      rw [hf] at HF
      have HF1 : Hid (Calls Try.prog 20 #[.slice A n cap, .int .i64 c, .string name] w3' fun e w' => e = .returned (.tuple #[.agg #[.string ⟨#[]⟩, .int .i64 0, .int .i64 0], .bool false]) ∧ Below w3'.heap.size w3' w') := HF
      have HV := Lib.hid (HUN.out hf)
      clear hf HF
      go_wp2_with fail
      refine HF1.out.mono ?_; rintro e w4 ⟨rfl, hB4⟩
      have hB4' := hB4.trans ((BoxAt.start w4 op0 34).bel.mono hB4.size)
      go_wp2_with fail
      refine (same_tab (HT13.out.below hB4') (HT23.out.below hB4') hn1).mono ?_; rintro e w5 ⟨rfl, hB5⟩
      have hB5' := hB4'.trans (hB5.mono hB4'.size)
      have HT35 := Lib.hid (HT3.out.below hB5')
      rw [HV.out] at HT35
      have hn3 : n3 ≤ 400 := by have h1 := HT35.out.len; have h2 := HT.out.len; omega
      go_wp2_with fail
      refine (same_tab HT35.out (HT03.out.below hB5') hn3).mono ?_; rintro e w6 ⟨rfl, hB6⟩
      have hB6' := hB5'.trans (hB6.mono hB5'.size)
      go_wp2_with fail
      refine (law_awake _).mono ?_; rintro e w7 ⟨rfl, hB7⟩
      go_wp2_with fail
      go_ret
      exact ⟨rfl, hB13.trans ((hB6'.trans (hB7.mono hB6'.size)).mono hB13.size)⟩
    | some a =>
      rw [hf] at HF
      have HF1 : Hid (Calls Try.prog 20 #[.slice A n cap, .int .i64 c, .string name] w3' fun e w' => e = .returned (.tuple #[.agg #[.string a.name, .int .i64 a.typ, .int .i64 a.prec], .bool true]) ∧ Below w3'.heap.size w3' w') := HF
      clear hf HF
      go_wp2_with fail
      refine HF1.out.mono ?_; rintro e w4 ⟨rfl, hB4⟩
      have hB4' := hB4.trans ((BoxAt.start w4 a 34).bel.mono hB4.size)
      go_wp2_with fail
      refine (same_tab (HT13.out.below hB4') (HT23.out.below hB4') hn1).mono ?_; rintro e w5 ⟨rfl, hB5⟩
      have hB5' := hB4'.trans (hB5.mono hB4'.size)
      go_wp2_with fail
      refine (law_awake _).mono ?_; rintro e w7 ⟨rfl, hB7⟩
      go_wp2_with fail
      go_ret
      exact ⟨rfl, hB13.trans ((hB5'.trans (hB7.mono hB5'.size)).mono hB13.size)⟩
  · generalize (setR l ⟨name, typ, prec⟩) = r at *
    obtain ⟨r1, x⟩ := r
    simp only [] at HS hok
    have bx : (x == 0) = false := by rw [beq_eq_false_iff_ne]; exact hok
    go_enter Try.func6, Try.ntmps6
    go_wp2_with fail
    refine HS.out.mono ?_; rintro e w1 ⟨A1, n1, c1, rfl, hB1, hT1⟩
    clear hT1
    go_wp2_with fail
    refine (law_awake w1).mono ?_; rintro e w2 ⟨rfl, hB2⟩
    go_wp2_with fail
    go_ret
    exact ⟨rfl, hB1.trans (hB2.mono hB1.size)⟩
end Go.Proofs.Yteddbeifnolklaa
