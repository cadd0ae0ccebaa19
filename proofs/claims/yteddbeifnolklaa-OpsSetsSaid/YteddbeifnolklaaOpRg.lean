/- Operators: the reference's Find and Is. -/
import Derived.Test.YteddbeifnolklaaOpRf
namespace Go.Proofs.Yteddbeifnolklaa
open Go.RowKit Hb
set_option maxRecDepth 100000
set_option maxHeartbeats 3200000 in
theorem ref_find (A : Option Addr) (n cap : Nat) (l : List OpR) (c : Int) (name : ByteArray) (w : World) (hm : n ≤ 400) (hT : Tab w A n cap l) :
    Calls Try.prog 25 #[.slice A n cap, .int .i64 c, .string name] w fun e w' => e = .returned (.tuple #[opV ((findR l name c).getD op0), .bool (findR l name c).isSome]) ∧ Below w.heap.size w w' := by
  have hX := R3.start w 34
  have HT0 := Lib.hid (hT.below hX.bel)
  have HT := Lib.hid hT
  have HV := Lib.hid (ref_valid A n cap l _ HT0.out.len hm HT0.out.ops)
  clear hT
  cases hv : opsValid l
  · rw [hv] at HV
    have HF := Lib.hid (show findR l name c = none by unfold findR; rw [hv]; rfl)
    clear hv
    go_enter Try.func25, Try.ntmps25
    go_wp2_with fail
    refine HV.out.mono ?_; rintro e w1 ⟨rfl, hB1⟩
    have hY := hX.call hB1
    obtain ⟨v0, r0⟩ := hY.r0
    obtain ⟨v1, r1⟩ := hY.r1
    obtain ⟨v2, r2⟩ := hY.r2
    have fr := hY.fr
    have fr0 := fr 0
    go_wp2_with fail
    refine bodyPost_ret (v := .tuple #[opV op0, .bool false]) (by simp [opV, op0, results, Try.results25, go_sem, r0, r1, r2]) rfl ⟨by rw [HF.out]; rfl, hY.put _ _ _⟩
  · rw [hv] at HV
    have HF := Lib.hid (show findR l name c = l.find? (isOp name c) by unfold findR; rw [hv]; rfl)
    clear hv
    have HN := Lib.hid HT.out.len
    go_enter Try.func25, Try.ntmps25
    go_wp2_with fail
    refine HV.out.mono ?_; rintro e w1 ⟨rfl, hB1⟩
    have hY := Lib.hid (hX.call hB1)
    go_wp2_with fail
    go_loopw [8] (fun i wr => ∃ k : Nat, k ≤ n ∧ i = .int .i64 k ∧ Hid (R3 w wr) ∧ Hid (∀ j (hj : j < l.length), j < k → isOp name c l[j] = false)) (fun i _ => n - (intOf i).toNat)
    case atStart => exact ⟨0, Nat.zero_le _, rfl, hY, Lib.hid fun j _ hj => absurd hj (by omega)⟩
    case round =>
      clear hX hY HV HT0
      obtain ⟨k, hk, rfl, HY, HA⟩ := hrel
      by_cases hlt : k < n
      · have hkl : k < l.length := by have := HN.out; omega
        obtain ⟨b, off, rfl, hb, c0, c1, c2⟩ := (HT.out.ops.below HY.out.bel) k hkl
        have HH := Lib.hid (fun h => HF.out.trans (find_hit (isOp name c) l k hkl h (fun j hj => HA.out j (by omega) hj)))
        have HR := Lib.hid (fun (h : isOp name c l[k] = false) => (show ∀ j (hj : j < l.length), j < k + 1 → isOp name c l[j] = false from fun j hj hjk => by
          rcases Nat.lt_or_ge j k with h' | h'
          · exact HA.out j hj h'
          · have : j = k := by omega
            subst this; exact h))
        generalize l[k] = a at *
        have HC := Lib.hid (ref_class a.typ)
        by_cases hcl : clsOp a.typ = c
        · have e1 : (clsOp a.typ == c) = true := by simpa using hcl
          by_cases hnm : a.name.toList = name.toList
          · have HI : Hid (isOp name c a = true) := by unfold isOp; refine Lib.hid ?_; simp [hnm, hcl]
            have HE := Lib.hid (HH.out HI.out)
            have e2 : (a.name.toList == name.toList) = true := by simpa using hnm
            have hY := HY.out
            obtain ⟨v0, r0⟩ := hY.r0
            obtain ⟨v1, r1⟩ := hY.r1
            obtain ⟨v2, r2⟩ := hY.r2
            have fr := hY.fr
            have fr0 := fr 0
            go_wp2_with fail
            refine (HC.out _).mono ?_; rintro e w2 ⟨rfl, rfl⟩
            go_wp2_with fail
            refine bodyPost_ret (v := .tuple #[opV a, .bool true]) (by simp [opV, results, Try.results25, go_sem, r0, r1, r2]) rfl ⟨by rw [HE.out]; rfl, hY.put _ _ _⟩
          · have HI : Hid (isOp name c a = false) := by unfold isOp; refine Lib.hid ?_; simp [hnm]
            have e2 : (a.name.toList == name.toList) = false := by simpa using hnm
            go_wp2_with fail
            refine (HC.out _).mono ?_; rintro e w2 ⟨rfl, rfl⟩
            go_wp2_with fail
            go_roundw
            case rel => exact ⟨k + 1, by omega, by go_num, HY, Lib.hid (HR.out HI.out)⟩
            case measure => simp [intOf] <;> omega
        · have HI : Hid (isOp name c a = false) := by unfold isOp; refine Lib.hid ?_; simp [hcl]
          have e1 : (clsOp a.typ == c) = false := by simpa using hcl
          go_wp2_with fail
          refine (HC.out _).mono ?_; rintro e w2 ⟨rfl, rfl⟩
          go_wp2_with fail
          go_roundw
          case rel => exact ⟨k + 1, by omega, by go_num, HY, Lib.hid (HR.out HI.out)⟩
          case measure => simp [intOf] <;> omega
      · have HE := Lib.hid (HF.out.trans (find_miss (isOp name c) l (fun j hj => HA.out j hj (by have := HN.out; omega))))
        have hY := HY.out
        obtain ⟨v0, r0⟩ := hY.r0
        obtain ⟨v1, r1⟩ := hY.r1
        obtain ⟨v2, r2⟩ := hY.r2
        have fr := hY.fr
        have fr0 := fr 0
        go_wp2_with fail
        refine bodyPost_ret (v := .tuple #[opV op0, .bool false]) (by simp [opV, op0, results, Try.results25, go_sem, r0, r1, r2]) rfl ⟨by rw [HE.out]; rfl, hY.put _ _ _⟩
theorem ref_find_tab {w : World} {A : Option Addr} {n cap : Nat} {l : List OpR} (hT : Tab w A n cap l) (hm : n ≤ 400) (c : Int) (name : ByteArray) :
    Calls Try.prog 25 #[.slice A n cap, .int .i64 c, .string name] w fun e w' => e = .returned (.tuple #[.agg #[.string ((findR l name c).getD op0).name, .int .i64 ((findR l name c).getD op0).typ, .int .i64 ((findR l name c).getD op0).prec], .bool (findR l name c).isSome]) ∧ Below w.heap.size w w' :=
  ref_find A n cap l c name w hm hT
end Go.Proofs.Yteddbeifnolklaa
