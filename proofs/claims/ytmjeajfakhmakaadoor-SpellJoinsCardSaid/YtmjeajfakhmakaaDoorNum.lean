/- Contracts of layer 2: Parse, behind a minus sign. -/
import Derived.Test.YtmjeajfakhmakaaDoorNumS
import Derived.Test.YtmjeajfakhmakaaDoorBase
import Derived.Test.YtmjeajfakhmakaaDoorProg
import Derived.Lib.Strings
namespace Go.Proofs.YtmjeajfakhmakaaDoor
open Go.RowKit Hb
set_option maxRecDepth 100000

set_option maxHeartbeats 400000 in
theorem ints_digit (c : Int) (w : World) (h0 : 0 ≤ c) (h1 : c ≤ 255) :
    Calls Tryd.prog 97 #[.int .u8 c] w fun e w' => e = .returned (.int .i64 (dgt c)) ∧ w = w' := by
  go_enter Tryd.func97, Tryd.ntmps97
  go_wp2
  all_goals (go_ret; exact ⟨ret_int (by unfold dgt; grind), rfl⟩)

def parseN (base : Int) (ds : List UInt8) : Int := if natOf base ds ≤ 9223372036854775808 then -(natOf base ds : Int) else 0
def parseE (base : Int) (ds : List UInt8) : Int := if natOf base ds ≤ 9223372036854775808 then 0 else 10

set_option maxHeartbeats 1000000 in
theorem ints_parse (s : ByteArray) (base : Int) (ds : List UInt8) (w : World) (hs : s.data.toList = 45 :: ds) (hne : 0 < ds.length) (hsz : ds.length ≤ 16384) (h0 : 2 ≤ base) (h1 : base ≤ 36)
    (hok : ∀ k, k < ds.length → dgt (bAt ds k) < base) :
    Calls Tryd.prog 94 #[.string s, .int .i64 base] w fun e w' => e = .returned (.tuple #[.int .i64 (parseN base ds), .int .i64 (parseE base ds)]) ∧ w = w' := by
  have hl : s.size = ds.length + 1 := by rw [← size_data, hs]; rfl
  have hl1 : 1 < s.size := by omega
  have hl0 : 0 < s.size := by omega
  have b0 := bAt_mk s 0 hl0
  have b0' : bAt s.data.toList 0 = 45 := by rw [hs]; rfl
  rw [b0'] at b0
  have HS := Lib.hid hs
  have HOK := Lib.hid hok
  have HSL := Lib.hid hl
  have hl2 : s.size ≤ 16385 := by omega
  have hx : (s.extract 1 s.size).data.toList = ds := by rw [Lib.extract_data, hs]; simp [hl]
  have hem : (s.extract 1 s.size).toList.isEmpty = false := by
    rw [Go.ByteArray.toList_eq, hx]; cases ds <;> simp at hne ⊢
  have HX := Lib.hid hx
  clear hs hok b0' hl hx
  go_enter Tryd.func94, Tryd.ntmps94
  go_wp2
  generalize hd : s.extract 1 s.size = d at *
  have hdl : d.size = ds.length := by rw [← size_data, HX.out]
  have hds : s.size - 1 = d.size := by have := HSL.out; omega
  rw [hds]
  have HDL := Lib.hid hdl
  have hd1 : d.size ≤ 16384 := by omega
  clear hd hdl hds b0 hem
  go_loop [4, 31] (fun n i => ∃ k : Nat, k ≤ d.size ∧ i = .int .i64 k ∧ n = .int .i64 0) (fun _ i => d.size - (intOf i).toNat)
  case atStart => exact ⟨0, Nat.zero_le _, rfl, rfl⟩
  case round =>
    obtain ⟨k, hk, rfl, rfl⟩ := hrel
    by_cases hlt : k < d.size
    · have hb := bAt_mk d k hlt
      rw [HX.out] at hb
      have hb0 := bAt_lo ds k
      have hb1 := bAt_hi ds k
      have hdg : dgt (bAt ds k) < base := HOK.out k (by have := HDL.out; omega)
      go_wp2_with (go_at_call 97; refine (ints_digit _ _ hb0 hb1).mono ?_; rintro e w' ⟨rfl, rfl⟩)
      go_round
      case rel => exact ⟨k + 1, by omega, by go_num, rfl⟩
      case measure => simp [intOf]; omega
    · go_wp2_with fail
      go_loop [4, 43] (fun n i => ∃ k : Nat, k ≤ d.size ∧ i = .int .i64 k ∧ n = .int .i64 (-(natOf base (ds.take k) : Int)) ∧ natOf base (ds.take k) ≤ 9223372036854775808) (fun _ i => d.size - (intOf i).toNat)
      case atStart => exact ⟨0, Nat.zero_le _, rfl, rfl, by simp [natOf]⟩
      case round =>
        obtain ⟨k', hk', rfl, rfl, hn⟩ := hrel
        by_cases hlt' : k' < d.size
        · have hb' := bAt_mk d k' hlt'
          rw [HX.out] at hb'
          have hb0' := bAt_lo ds k'
          have hb1' := bAt_hi ds k'
          have hkl : k' < ds.length := by have := HDL.out; omega
          have hdg := HOK.out k' hkl
          have hd0 := dgt_lo (bAt ds k')
          have hd2 := dgt_hi (bAt ds k')
          have HT := Lib.hid (show (natOf base (ds.take (k' + 1)) : Int) = natOf base (ds.take k') * base + dgt (bAt ds k') by
            rw [natOf_take base ds k' hkl, digV_dgt _ _ h0 h1 hdg]
            push_cast
            rw [Int.toNat_of_nonneg (by omega), Int.toNat_of_nonneg hd0])
          have HM := Lib.hid (natOf_mono base (by omega) ds (k' + 1))
          have HP := Lib.hid (parse_step (natOf base (ds.take k')) (dgt (bAt ds k')) base (by omega) hd0 hd2)
          generalize hN : natOf base (ds.take k') = N at *
          have HN := Lib.hid hN
          clear hN
          go_wp2_with (go_at_call 97; refine (ints_digit _ _ hb0' hb1').mono ?_; rintro e w' ⟨rfl, rfl⟩)
          · have hlt2 := HP.out.1 (by assumption)
            go_ret2
            refine ⟨ret_val ?_, rfl⟩
            have h1 := HT.out
            have h2 := HM.out
            have h3 : ¬ natOf base ds ≤ 9223372036854775808 := by omega
            unfold parseN parseE
            rw [if_neg h3, if_neg h3]
            rfl
          · have hlt2 : (N : Int) * base + dgt (bAt ds k') ≤ 9223372036854775808 := by
              have h2 := HP.out.2
              rcases Int.lt_or_le 9223372036854775808 ((N : Int) * base + dgt (bAt ds k')) with h | h
              · have := h2 h; omega
              · exact h
            have hx0 : 0 ≤ (N : Int) * base := Int.mul_nonneg (by omega) (by omega)
            have e1 : wrap64 (-(N : Int) * base) = -((N : Int) * base) := by rw [Int.neg_mul]; exact IntWalk.wrap64_in _ (by omega)
            have e2 : wrap64 (-((N : Int) * base) - dgt (bAt ds k')) = -((N : Int) * base) - dgt (bAt ds k') := IntWalk.wrap64_in _ (by omega)
            rw [e1, e2]
            have h1 := HT.out
            go_round
            case rel => exact ⟨k' + 1, by omega, by go_num, congrArg (Value.int IntKind.i64) (by omega), by omega⟩
            case measure => simp [intOf]; omega
        · have HE := Lib.hid (show ds.take k' = ds from List.take_of_length_le (by have := HDL.out; omega))
          rw [HE.out] at hn ⊢
          go_wp2
          go_ret2
          refine ⟨ret_val ?_, rfl⟩
          unfold parseN parseE
          rw [if_pos hn, if_pos hn]
          rfl
end Go.Proofs.YtmjeajfakhmakaaDoor
