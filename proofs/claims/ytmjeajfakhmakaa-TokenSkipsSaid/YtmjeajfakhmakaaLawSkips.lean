/- The law TokenSkips. -/
import Derived.Test.YtmjeajfakhmakaaRefE
import Derived.Test.YtmjeajfakhmakaaSkipS
import Derived.Test.YtmjeajfakhmakaaAwake
namespace Go.Proofs.Ytmjeajfakhmakaa
open Go.RowKit Hb
set_option maxRecDepth 100000

set_option maxHeartbeats 1600000 in
theorem law_skips (s : ByteArray) (at_ : Int) (A : Option Addr) (n cap : Nat) (l : List (Int × Int)) (w : World) (hn : n = l.length) (hm : n ≤ maxLen) (hs : s.size ≤ maxLen) (hp : Pairs w A l) :
    Calls Try.prog 8 #[.string s, .int .i64 at_, .slice A n cap] w fun e w' => e = .returned (.bool true) ∧ Below w.heap.size w w' := by
  by_cases c1 : 400 < s.size
  · have b1 : decide ((400 : Int) < s.size) = true := by simp; omega
    clear hp hn hs c1
    go_enter Try.func8, Try.ntmps8
    go_wp2_with fail
    refine (law_awake _).mono ?_; rintro e w1 ⟨rfl, hB1⟩
    go_wp2_with fail
    go_ret
    exact ⟨rfl, hB1⟩
  have b1 : decide ((400 : Int) < s.size) = false := by simp; omega
  by_cases c2 : 400 < n
  · have b2 : decide ((400 : Int) < n) = true := by simp; omega
    clear hp hn hs c1
    go_enter Try.func8, Try.ntmps8
    go_wp2_with fail
    refine (law_awake _).mono ?_; rintro e w1 ⟨rfl, hB1⟩
    go_wp2_with fail
    go_ret
    exact ⟨rfl, hB1⟩
  have b2 : decide ((400 : Int) < n) = false := by simp; omega
  have HA := Lib.hid (token_skip s at_ A n cap l w hn hm hs hp)
  have HP := Lib.hid hp
  have HV := Lib.hid (fun w' h => chars_valid A n cap l w' hn hm h)
  have HR := Lib.hid (fun w' h => ref_skip s at_ A n cap l w' hn hm h)
  clear hn hp
  by_cases ho : openOk s at_ l
  · obtain ⟨o1, o2, o3, o4⟩ := ho
    obtain ⟨k, hk⟩ := Int.eq_ofNat_of_zero_le o2
    subst hk
    obtain ⟨v, hv, hv2, hv3⟩ := skipTok_ok (cvt (convT l) s.data.toList) s.data.toList (cvt_len _ _) k (by rw [size_data]; omega)
    rw [size_data] at hv2 hv3
    have HK := Lib.hid (show skipTop s.data.toList k l = v by unfold skipTop; rw [if_pos ((okArgs_iff s k l).2 ⟨o1, by omega, o3, o4⟩), Int.toNat_natCast, hv])
    have O4 := Lib.hid o4
    have e0 : decide ((k : Int) ≥ 0) = true := by simp
    have e1 : decide (k ≤ s.size) = true := by simp; omega
    have e3 : decide (v ≤ s.size) = true := by simp; omega
    clear hv o4 o2 o3
    rcases hv3 with hv3 | hv3
    · have e4 : decide (k < v) = true := by simp; omega
      go_enter Try.func8, Try.ntmps8
      go_wp2_with fail
      refine HA.out.mono ?_; rintro e w1 ⟨rfl, hB1⟩; rw [HK.out]
      have HP1 := Lib.hid (HP.out.below hB1)
      go_wp2_with fail
      refine (HV.out _ HP1.out).mono ?_; rintro e w2 ⟨rfl, hB2⟩; rw [O4.out]
      have HP2 := Lib.hid (HP1.out.below hB2)
      have hs1 := hB1.size
      have hs2 := hB2.size
      go_wp2_with fail
      refine (HR.out _ HP2.out).mono ?_; rintro e w3 ⟨rfl, hB3⟩; rw [HK.out]
      have hs3 := hB3.size
      go_wp2_with fail
      refine (law_awake _).mono ?_; rintro e w4 ⟨rfl, hB4⟩
      go_wp2_with fail
      go_ret
      exact ⟨rfl, hB1.trans ((hB2.mono (by omega)).trans ((hB3.mono (by omega)).trans (hB4.mono (by omega))))⟩
    · have hev := Lib.hid hv3
      have e5 : ((v : Int) == (s.size : Int)) = true := by simp; omega
      have e6 : (v == s.size) = true := by simp; omega
      clear hv3
      cases e4 : decide (k < v)
      all_goals
        go_enter Try.func8, Try.ntmps8
        go_wp2_with fail
        refine HA.out.mono ?_; rintro e w1 ⟨rfl, hB1⟩; rw [HK.out]
        have HP1 := Lib.hid (HP.out.below hB1)
        go_wp2_with fail
        refine (HV.out _ HP1.out).mono ?_; rintro e w2 ⟨rfl, hB2⟩; rw [O4.out]
        have HP2 := Lib.hid (HP1.out.below hB2)
        have hs1 := hB1.size
        have hs2 := hB2.size
        go_wp2_with fail
        refine (HR.out _ HP2.out).mono ?_; rintro e w3 ⟨rfl, hB3⟩; rw [HK.out]
        have hs3 := hB3.size
        go_wp2_with fail
        refine (law_awake _).mono ?_; rintro e w4 ⟨rfl, hB4⟩
        go_wp2_with fail
        go_ret
        exact ⟨rfl, hB1.trans ((hB2.mono (by omega)).trans ((hB3.mono (by omega)).trans (hB4.mono (by omega))))⟩
  · have HK := Lib.hid (show skipTop s.data.toList at_ l = 0 by unfold skipTop; rw [if_neg (fun h => ho ((okArgs_iff s at_ l).1 h))])
    have hd : at_ < 0 ∨ (0 ≤ at_ ∧ (s.size : Int) < at_) ∨ (0 ≤ at_ ∧ at_ ≤ s.size ∧ pvalid l = false) := by
      by_cases c3 : 0 ≤ at_
      · by_cases c4 : at_ ≤ s.size
        · refine .inr (.inr ⟨c3, c4, ?_⟩)
          cases hv : pvalid l
          · rfl
          · exact absurd ⟨by omega, c3, c4, hv⟩ ho
        · exact .inr (.inl ⟨c3, by omega⟩)
      · exact .inl (by omega)
    clear ho
    rcases hd with d1 | ⟨d1, d2⟩ | ⟨d1, d2, d3⟩
    · have e0 : decide (at_ ≥ 0) = false := by simp; omega
      go_enter Try.func8, Try.ntmps8
      go_wp2_with fail
      refine HA.out.mono ?_; rintro e w1 ⟨rfl, hB1⟩; rw [HK.out]
      have HP1 := Lib.hid (HP.out.below hB1)
      have hs1 := hB1.size
      go_wp2_with fail
      refine (HR.out _ HP1.out).mono ?_; rintro e w3 ⟨rfl, hB3⟩; rw [HK.out]
      have hs3 := hB3.size
      go_wp2_with fail
      refine (law_awake _).mono ?_; rintro e w4 ⟨rfl, hB4⟩
      go_wp2_with fail
      go_ret
      exact ⟨rfl, hB1.trans ((hB3.mono (by omega)).trans (hB4.mono (by omega)))⟩
    · have e0 : decide (at_ ≥ 0) = true := by simp; omega
      have e1 : decide (at_ ≤ s.size) = false := by simp; omega
      go_enter Try.func8, Try.ntmps8
      go_wp2_with fail
      refine HA.out.mono ?_; rintro e w1 ⟨rfl, hB1⟩; rw [HK.out]
      have HP1 := Lib.hid (HP.out.below hB1)
      have hs1 := hB1.size
      go_wp2_with fail
      refine (HR.out _ HP1.out).mono ?_; rintro e w3 ⟨rfl, hB3⟩; rw [HK.out]
      have hs3 := hB3.size
      go_wp2_with fail
      refine (law_awake _).mono ?_; rintro e w4 ⟨rfl, hB4⟩
      go_wp2_with fail
      go_ret
      exact ⟨rfl, hB1.trans ((hB3.mono (by omega)).trans (hB4.mono (by omega)))⟩
    · have e0 : decide (at_ ≥ 0) = true := by simp; omega
      have e1 : decide (at_ ≤ s.size) = true := by simp; omega
      have D3 := Lib.hid d3
      clear d3
      go_enter Try.func8, Try.ntmps8
      go_wp2_with fail
      refine HA.out.mono ?_; rintro e w1 ⟨rfl, hB1⟩; rw [HK.out]
      have HP1 := Lib.hid (HP.out.below hB1)
      have hs1 := hB1.size
      go_wp2_with fail
      refine (HV.out _ HP1.out).mono ?_; rintro e w2 ⟨rfl, hB2⟩; rw [D3.out]
      have HP2 := Lib.hid (HP1.out.below hB2)
      have hs2 := hB2.size
      go_wp2_with fail
      refine (HR.out _ HP2.out).mono ?_; rintro e w3 ⟨rfl, hB3⟩; rw [HK.out]
      have hs3 := hB3.size
      go_wp2_with fail
      refine (law_awake _).mono ?_; rintro e w4 ⟨rfl, hB4⟩
      go_wp2_with fail
      go_ret
      exact ⟨rfl, hB1.trans ((hB2.mono (by omega)).trans ((hB3.mono (by omega)).trans (hB4.mono (by omega))))⟩
end Go.Proofs.Ytmjeajfakhmakaa
