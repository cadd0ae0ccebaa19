/- The law TokenAll. -/
import Derived.Test.YtmjeajfakhmakaaRefD
import Derived.Test.YtmjeajfakhmakaaSame
import Derived.Test.YtmjeajfakhmakaaAwake
namespace Go.Proofs.Ytmjeajfakhmakaa
open Go.RowKit Hb
set_option maxRecDepth 100000

theorem own_le2 {w : World} {base e size : Nat} {v : Value} {n : Nat} {xs : List Value} (h : w.ownsRow base e size v n xs) : n ≤ maxLen := by
  rcases h.2 with ⟨_, rfl⟩ | ⟨g, cap, cur, _, _, _, h1, h2, _⟩
  · exact Nat.zero_le _
  · omega

set_option maxHeartbeats 1600000 in
theorem law_all (s : ByteArray) (at_ : Int) (A : Option Addr) (n cap : Nat) (l : List (Int × Int)) (w : World) (hn : n = l.length) (hm : n ≤ maxLen) (hs : s.size ≤ maxLen) (hp : Pairs w A l) :
    Calls Try.prog 3 #[.string s, .int .i64 at_, .slice A n cap] w fun e w' => e = .returned (.bool true) ∧ Below w.heap.size w w' := by
  by_cases c1 : 400 < s.size
  · have b1 : decide ((400 : Int) < s.size) = true := by simp; omega
    clear hp hn hs c1
    go_enter Try.func3, Try.ntmps3
    go_wp2_with fail
    refine (law_awake _).mono ?_; rintro e w1 ⟨rfl, hB1⟩
    go_wp2_with fail
    go_ret
    exact ⟨rfl, hB1⟩
  have b1 : decide ((400 : Int) < s.size) = false := by simp; omega
  by_cases c2 : 400 < n
  · have b2 : decide ((400 : Int) < n) = true := by simp; omega
    clear hp hn hs c1
    go_enter Try.func3, Try.ntmps3
    go_wp2_with fail
    refine (law_awake _).mono ?_; rintro e w1 ⟨rfl, hB1⟩
    go_wp2_with fail
    go_ret
    exact ⟨rfl, hB1⟩
  have b2 : decide ((400 : Int) < n) = false := by simp; omega
  have HA := Lib.hid (token_all s at_ A n cap l w hn hm hs hp)
  have HN := Lib.hid hn
  have HP := Lib.hid hp
  have HR := Lib.hid (fun w' h => ref_all s at_ A n cap l w' hn hm h)
  generalize hr : allTop s.data.toList at_ l = r at *
  clear hr hn hp
  have d1 : (r.where_ == r.where_) = true := by simp
  have d2 : (r.err == r.err) = true := by simp
  go_enter Try.func3, Try.ntmps3
  go_wp2_with fail
  refine HA.out.mono ?_; rintro e w1 ⟨v, rfl, hB1, hown⟩
  obtain ⟨A1, cap1, rfl, hT⟩ := toks_own hown
  have hlm := own_le2 hown
  have HT1 := Lib.hid hT
  have HP1 := Lib.hid (HP.out.below hB1)
  clear hT hown
  go_wp2_with fail
  refine (HR.out _ HP1.out).mono ?_; rintro e w2 ⟨v, rfl, hB2, hown⟩
  obtain ⟨A2, cap2, rfl, hT⟩ := toks_own hown
  have HT2 := Lib.hid hT
  have HT3 := Lib.hid (HT1.out.below hB2)
  clear hT hown
  have hs1 := hB1.size
  have hs2 := hB2.size
  go_wp2_with fail
  refine (ref_same A1 A2 r.l.length cap1 cap2 r.l _ rfl hlm HT3.out HT2.out).mono ?_; rintro e w3 ⟨rfl, hB3⟩
  have hs3 := hB3.size
  go_wp2_with fail
  refine (law_awake _).mono ?_; rintro e w4 ⟨rfl, hB4⟩
  go_wp2_with fail
  go_ret
  exact ⟨rfl, hB1.trans ((hB2.mono (by omega)).trans ((hB3.mono (by omega)).trans (hB4.mono (by omega))))⟩
end Go.Proofs.Ytmjeajfakhmakaa
