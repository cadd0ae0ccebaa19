/- The law TokenQuotes. -/
import Derived.Test.YtmjeajfakhmakaaBetween
import Derived.Test.YtmjeajfakhmakaaQuoN
import Derived.Test.YtmjeajfakhmakaaAwake
namespace Go.Proofs.Ytmjeajfakhmakaa
open Go.RowKit Hb
set_option maxRecDepth 100000

theorem bytes_back (s : ByteArray) : (⟨s.data.toList.toArray⟩ : ByteArray) = s := by simp

set_option maxHeartbeats 1600000 in
theorem law_quotes (s : ByteArray) (_hs : s.size ≤ maxLen) (w : World) :
    Calls Try.prog 6 #[.string s] w fun e w' => e = .returned (.bool true) ∧ Below w.heap.size w w' := by
  by_cases c1 : 1000 < s.size
  · have b1 : decide ((1000 : Int) < s.size) = true := by simp; omega
    clear c1
    go_enter Try.func6, Try.ntmps6
    go_wp2_with fail
    refine (law_awake _).mono ?_; rintro e w1 ⟨rfl, hB1⟩
    go_wp2_with fail
    go_ret
    exact ⟨rfl, hB1⟩
  have b1 : decide ((1000 : Int) < s.size) = false := by simp; omega
  have hle : s.size ≤ 1000 := by omega
  have hsl : s.data.toList.length ≤ 1000 := by rw [size_data]; exact hle
  have HX1 := Lib.hid (law_between_34 s hle)
  have HX2 := Lib.hid (law_between_39 s hle)
  have hl1 := btws_len 34 s.data.toList
  have hl2 := btws_len 39 s.data.toList
  obtain ⟨x, hx⟩ : ∃ x : ByteArray, x = ⟨(34 :: (btws 34 s.data.toList ++ [34])).toArray⟩ := ⟨_, rfl⟩
  obtain ⟨y, hy⟩ : ∃ y : ByteArray, y = ⟨(39 :: (btws 39 s.data.toList ++ [39])).toArray⟩ := ⟨_, rfl⟩
  have hxl : x.data.toList = 34 :: (btws 34 s.data.toList ++ [34]) := by rw [hx]
  have hyl : y.data.toList = 39 :: (btws 39 s.data.toList ++ [39]) := by rw [hy]
  have hxs : x.size ≤ maxLen := by rw [← size_data, hxl]; unfold maxLen; simp; omega
  have hys : y.size ≤ maxLen := by rw [← size_data, hyl]; unfold maxLen; simp; omega
  have HN1 := Lib.hid (next_dq s.data.toList hsl _ hxl)
  have HN2 := Lib.hid (next_sq s.data.toList hsl _ hyl)
  rw [size_data] at HN1 HN2
  have HT1 := Lib.hid (fun w' => token_next x 0 none 0 0 [] w' rfl (by decide) hxs (Pairs.nil _ _))
  have HT2 := Lib.hid (fun w' => token_next y 0 none 0 0 [] w' rfl (by decide) hys (Pairs.nil _ _))
  rw [HN1.out] at HT1
  rw [HN2.out] at HT2
  rw [← hx] at HX1
  rw [← hy] at HX2
  clear hx hy hxl hyl HN1 HN2 hl1 hl2 hsl
  by_cases c2 : 100 < s.size
  · have b2 : decide ((100 : Int) < s.size) = true := by simp; omega
    rw [if_pos c2] at HT2
    clear c1 c2
    go_enter Try.func6, Try.ntmps6
    go_wp2_with fail
    refine (HX1.out _).mono ?_; rintro e w1 ⟨rfl, hB1⟩
    go_wp2_with fail
    refine (HT1.out _).mono ?_; rintro e w2 ⟨he, hB2⟩
    unfold GivesN nxtTup at he; simp only [] at he; rw [bytes_back] at he; subst he
    have hs1 := hB1.size
    have hs2 := hB2.size
    go_wp2_with fail
    have hBx := (hB1.trans (hB2.mono hs1)).alloc (Nat.le_trans hs1 hs2) (.cells #[.int .i64 5, .string s, .int .i64 0, .int .i64 0, .int .i64 x.size, .bool false] 32)
    have hsx := hBx.size
    refine (HX2.out _).mono ?_; rintro e w3 ⟨rfl, hB3⟩
    have hs3 := hB3.size
    go_wp2_with fail
    refine (HT2.out _).mono ?_; rintro e w4 ⟨he, hB4⟩
    unfold GivesN nxtTup errR at he; simp only [] at he; subst he
    have hs4 := hB4.size
    go_wp2_with fail
    have hBy := ((hBx.trans (hB3.mono hsx)).trans (hB4.mono (Nat.le_trans hsx hs3))).alloc (Nat.le_trans hsx (Nat.le_trans hs3 hs4)) (.cells #[.int .i64 0, .string ⟨#[]⟩, .int .i64 0, .int .i64 0, .int .i64 0, .bool false] 32)
    have hsy := hBy.size
    refine (law_awake _).mono ?_; rintro e w5 ⟨rfl, hB5⟩
    go_wp2_with fail
    go_ret
    exact ⟨rfl, hBy.trans (hB5.mono hsy)⟩
  · have b2 : decide ((100 : Int) < s.size) = false := by simp; omega
    rw [if_neg c2] at HT2
    clear c1 c2
    go_enter Try.func6, Try.ntmps6
    go_wp2_with fail
    refine (HX1.out _).mono ?_; rintro e w1 ⟨rfl, hB1⟩
    go_wp2_with fail
    refine (HT1.out _).mono ?_; rintro e w2 ⟨he, hB2⟩
    unfold GivesN nxtTup at he; simp only [] at he; rw [bytes_back] at he; subst he
    have hs1 := hB1.size
    have hs2 := hB2.size
    go_wp2_with fail
    have hBx := (hB1.trans (hB2.mono hs1)).alloc (Nat.le_trans hs1 hs2) (.cells #[.int .i64 5, .string s, .int .i64 0, .int .i64 0, .int .i64 x.size, .bool false] 32)
    have hsx := hBx.size
    refine (HX2.out _).mono ?_; rintro e w3 ⟨rfl, hB3⟩
    have hs3 := hB3.size
    go_wp2_with fail
    refine (HT2.out _).mono ?_; rintro e w4 ⟨he, hB4⟩
    unfold GivesN nxtTup at he; simp only [] at he; rw [bytes_back] at he; subst he
    have hs4 := hB4.size
    go_wp2_with fail
    have hBy := ((hBx.trans (hB3.mono hsx)).trans (hB4.mono (Nat.le_trans hsx hs3))).alloc (Nat.le_trans hsx (Nat.le_trans hs3 hs4)) (.cells #[.int .i64 2, .string s, .int .i64 0, .int .i64 0, .int .i64 y.size, .bool false] 32)
    have hsy := hBy.size
    refine (law_awake _).mono ?_; rintro e w5 ⟨rfl, hB5⟩
    go_wp2_with fail
    go_ret
    exact ⟨rfl, hBy.trans (hB5.mono hsy)⟩
end Go.Proofs.Ytmjeajfakhmakaa
