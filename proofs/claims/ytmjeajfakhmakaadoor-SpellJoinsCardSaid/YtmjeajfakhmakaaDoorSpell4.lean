/- Contracts: chars.Escape; spell.Plain. -/
import Derived.Test.YtmjeajfakhmakaaDoorSpell3
import Derived.Test.YtmjeajfakhmakaaDoorFmt
import Derived.Laws.EntriesVeiled
namespace Go.Proofs.YtmjeajfakhmakaaDoor
open Go.RowKit Hb
set_option maxRecDepth 100000

/-- The table that FormatInt reads. -/
def Tab15 (w : World) : Prop := 3 < w.heap.size ∧ w.cell? ⟨3, 15, none⟩ = some (.int .u8 4)
theorem Tab15.below {w w' : World} (h : Tab15 w) (hB : Below w.heap.size w w') : Tab15 w' := ⟨Nat.lt_of_lt_of_le h.1 hB.size, (hB.cell (p := ⟨_, 15, none⟩) h.1).trans h.2⟩
theorem esc_hexN : ∀ n : Nat, n < 256 → (n < 7 ∨ (13 < n ∧ n < 32) ∨ 126 < n) → [92, 120] ++ hex2 n ++ [92] = esc n := by decide +kernel
theorem bytes_app (a b : List UInt8) : (⟨a.toArray⟩ : ByteArray) ++ ⟨b.toArray⟩ = ⟨(a ++ b).toArray⟩ := by
  apply ByteArray.ext; simp

set_option maxHeartbeats 1000000 in
theorem chars_escape_hex (c : Int) (w : World) (h0 : 0 ≤ c) (h1 : c ≤ 255) (h2 : c < 7 ∨ (13 < c ∧ c < 32) ∨ 126 < c) (hT : Tab15 w) :
    Calls Tryd.prog 41 #[.int .i64 c] w fun e w' => e = .returned (.tuple #[.string ⟨(esc c).toArray⟩, .bool (isCh c)]) ∧ Below w.heap.size w w' := by
  have HE := Lib.hid (show [92, 120] ++ hex2 c ++ [92] = esc c by
    obtain ⟨n, rfl⟩ := Int.eq_ofNat_of_zero_le h0
    exact esc_hexN n (by omega) (by omega))
  have HI := Lib.hid (show isCh c = true from (isCh_iff c).2 ⟨h0, h1⟩)
  have q1 : (c == 39) = false := by simp; omega
  have q2 : (c == 92) = false := by simp; omega
  have HT := Lib.hid hT
  clear hT
  have hxs : (hex2 c).length ≤ 2 := by unfold hex2; split <;> simp
  generalize hx : hex2 c = x at *
  have HX := Lib.hid hx
  clear hx
  rcases h2 with h2 | h2 | h2
  all_goals
    go_enter Tryd.func41, Tryd.ntmps41
    go_wp2_with fail
    refine (chars_is _ _).mono ?_; rintro e w1 ⟨rfl, rfl⟩; rw [HI.out]
    go_wp2_with fail
    refine (fmt16 c _ h0 h1 HT.out.2 HT.out.1).mono ?_; rintro e w1 ⟨rfl, hB1⟩; rw [HX.out]
    go_wp2_with fail
    go_ret2
    refine ⟨ret_sb ?_ HI.out.symm, hB1⟩
    rw [← HE.out]
    apply ByteArray.ext
    simp

set_option maxHeartbeats 1000000 in
theorem chars_escape_plain (c : Int) (w : World) (h0 : 32 ≤ c) (h1 : c ≤ 126) (h2 : ¬ c = 39) (h3 : ¬ c = 92) :
    Calls Tryd.prog 41 #[.int .i64 c] w fun e w' => e = .returned (.tuple #[.string ⟨(esc c).toArray⟩, .bool (isCh c)]) ∧ Below w.heap.size w w' := by
  have HE := Lib.hid (show esc c = [c.toNat.toUInt8] by unfold esc; grind)
  have HC := Lib.hid (show isCh c = true by simp [isCh]; omega)
  have q2 : (c == 39) = false := by grind
  have q3 : (c == 92) = false := by grind
  clear h2 h3
  have hk := fun (w : World) => conv_new1 (P := Tryd.prog) 54 9 5 Tryd.underlying54 Tryd.underlying5 Tryd.underlying9 c (by omega) (by omega) w
  go_enter Tryd.func41, Tryd.ntmps41
  go_wp2_with (first | (go_at_call 51; refine (chars_is _ _).mono ?_; rintro e w' ⟨rfl, rfl⟩; rw [HC.out]))
  go_ret2
  exact ⟨ret_sb (by rw [HE.out]) HC.out.symm, (Below.refl _ _).alloc (Nat.le_refl _) _⟩

set_option maxHeartbeats 1000000 in
theorem chars_escape_quote (c : Int) (w : World) (h2 : c = 39 ∨ c = 92) :
    Calls Tryd.prog 41 #[.int .i64 c] w fun e w' => e = .returned (.tuple #[.string ⟨(esc c).toArray⟩, .bool (isCh c)]) ∧ Below w.heap.size w w' := by
  rcases h2 with rfl | rfl
  all_goals
    have hk := fun (n : Int) (h0 : 0 ≤ n) (h1 : n ≤ 255) (w : World) => conv_new1 (P := Tryd.prog) 54 9 5 Tryd.underlying54 Tryd.underlying5 Tryd.underlying9 n h0 h1 w
    have hk1 := hk 39 (by decide) (by decide)
    have hk2 := hk 92 (by decide) (by decide)
    clear hk
    go_enter Tryd.func41, Tryd.ntmps41
    go_wp2_with (first | (go_at_call 51; refine (chars_is _ _).mono ?_; rintro e w' ⟨rfl, rfl⟩; rw [show isCh _ = true from rfl]))
    go_ret2
    exact ⟨ret_sb rfl rfl, (Below.refl _ _).alloc (Nat.le_refl _) _⟩

set_option maxHeartbeats 1000000 in
theorem chars_escape_letter (c : Int) (w : World) (h0 : 7 ≤ c) (h1 : c ≤ 13) :
    Calls Tryd.prog 41 #[.int .i64 c] w fun e w' => e = .returned (.tuple #[.string ⟨(esc c).toArray⟩, .bool (isCh c)]) ∧ Below w.heap.size w w' := by
  have hc : c = 7 ∨ c = 8 ∨ c = 9 ∨ c = 10 ∨ c = 11 ∨ c = 12 ∨ c = 13 := by omega
  rcases hc with rfl | rfl | rfl | rfl | rfl | rfl | rfl
  all_goals
    go_enter Tryd.func41, Tryd.ntmps41
    go_wp2_with (first | (go_at_call 51; refine (chars_is _ _).mono ?_; rintro e w' ⟨rfl, rfl⟩; rw [show isCh _ = true from rfl]))
    go_ret2
    exact ⟨ret_sb rfl rfl, Below.refl _ _⟩
theorem chars_escape (c : Int) (w : World) (h0 : 0 ≤ c) (h1 : c ≤ 255) (hT : Tab15 w) :
    Calls Tryd.prog 41 #[.int .i64 c] w fun e w' => e = .returned (.tuple #[.string ⟨(esc c).toArray⟩, .bool (isCh c)]) ∧ Below w.heap.size w w' := by
  by_cases a : 7 ≤ c ∧ c ≤ 13
  · exact chars_escape_letter c w a.1 a.2
  by_cases b : c = 39 ∨ c = 92
  · exact chars_escape_quote c w b
  by_cases d : 32 ≤ c ∧ c ≤ 126
  · exact chars_escape_plain c w d.1 d.2 (by omega) (by omega)
  · exact chars_escape_hex c w h0 h1 (by omega) hT

/-- The tests of Plain, in order. -/
def plainT : Nat → List UInt8 → Bool
  | 0 => plain1
  | 1 => plain2
  | _ => plain3
def plainF : Nat → FuncId
  | 0 => 30
  | 1 => 31
  | _ => 35
set_option maxHeartbeats 400000 in
theorem sp_plain4 (k : Nat) (hk : k < 3) (s : ByteArray) (b : Nat) (w : World) (hp : w.cell? ⟨b, 0, none⟩ = some (.string s)) (hb : b < w.heap.size) (hs : s.size ≤ maxLen) :
    Calls Tryd.prog 39 #[.func (.func (plainF k)) #[] #[.pointer (some ⟨b, 0, none⟩)]] w fun e w' => e = .returned (.bool (plainT k s.data.toList)) ∧ Below w.heap.size w w' := by
  have H1 := Lib.hid (sp_plain1 s b w hp)
  have H2 := Lib.hid (sp_plain2 s b w hp hb hs)
  have H3 := Lib.hid (sp_plain3 s b w hp hb hs)
  match k, hk with
  | 0, _ =>
    unfold plainF plainT
    go_enter Tryd.func39, Tryd.ntmps39
    go_wp2_with fail
    refine H1.out.mono ?_; rintro e w1 ⟨rfl, hB1⟩
    go_wp2_with fail
    go_ret
    exact ⟨rfl, hB1⟩
  | 1, _ =>
    unfold plainF plainT
    go_enter Tryd.func39, Tryd.ntmps39
    go_wp2_with fail
    refine H2.out.mono ?_; rintro e w1 ⟨rfl, hB1⟩
    go_wp2_with fail
    go_ret
    exact ⟨rfl, hB1⟩
  | 2, _ =>
    unfold plainF plainT
    go_enter Tryd.func39, Tryd.ntmps39
    go_wp2_with fail
    refine H3.out.mono ?_; rintro e w1 ⟨rfl, hB1⟩
    go_wp2_with fail
    go_ret
    exact ⟨rfl, hB1⟩
/-- The first test that says yes. -/
def plainIx (s : List UInt8) : Int := if plain1 s = true then 0 else if plain2 s = true then 1 else if plain3 s = true then 2 else -1
set_option maxHeartbeats 800000 in
theorem sp_ixFunc (g : Nat) (s : ByteArray) (b : Nat) (w : World) (hp : w.cell? ⟨b, 0, none⟩ = some (.string s)) (hb : b < w.heap.size) (hs : s.size ≤ maxLen) (hg : g < w.heap.size)
    (hc : ∀ k : Nat, k < 3 → w.cell? ⟨g, k, none⟩ = some (.func (.func (plainF k)) #[] #[.pointer (some ⟨b, 0, none⟩)])) :
    Calls Tryd.prog 56 #[.slice (some ⟨g, 0, none⟩) 3 3, .func (.func 39) #[] #[]] w fun e w' => e = .returned (.int .i64 (plainIx s.data.toList)) ∧ Below w.heap.size w w' := by
  have HC := Lib.hid hc
  have HP := Lib.hid hp
  clear hc hp
  go_enter Tryd.func56, Tryd.ntmps56
  go_wp2_with fail
  go_loopw [8] (fun i wr => ∃ k : Nat, k ≤ 3 ∧ i = .int .i64 k ∧ Hid (∀ j, j < k → plainT j s.data.toList = false) ∧ Below w.heap.size w wr) (fun i _ => 3 - (intOf i).toNat)
  case atStart => exact ⟨0, Nat.zero_le _, rfl, fun j h => absurd h (by omega), Below.refl _ _⟩
  case round =>
    obtain ⟨k, hk, rfl, HJ, hB⟩ := hrel
    have hbs := hB.size
    by_cases hlt : k < 3
    · have c1 := (hB.cell (p := ⟨g, k, none⟩) hg).trans (HC.out k hlt)
      have H4 := Lib.hid (carry hB (sp_plain4 k hlt s b wr ((hB.cell (p := ⟨b, 0, none⟩) hb).trans HP.out) (by omega) hs))
      generalize hf : plainF k = F at *
      have HF := Lib.hid hf
      clear hf
      cases hq : plainT k s.data.toList
      all_goals
        have Hq := Lib.hid hq
        clear hq
        go_wp2_with fail
        refine H4.out.mono ?_; rintro e w1 ⟨rfl, hB1⟩; rw [Hq.out]
        go_wp2_with fail
      · go_roundw
        case rel => exact ⟨k + 1, by omega, by go_num, fun j hj => (by
          by_cases hjk : j = k
          · rw [hjk]; exact Hq.out
          · exact HJ.out j (by omega)), hB1⟩
        case measure => simp [intOf]; omega
      · go_ret
        refine ⟨ret_int ?_, hB1⟩
        unfold plainIx
        match k, hlt, HJ, Hq with
        | 0, _, HJ, Hq => rw [if_pos (show plain1 _ = true from Hq.out)]; rfl
        | 1, _, HJ, Hq => rw [if_neg (by have := HJ.out 0 (by omega); exact fun h => by rw [show plain1 _ = false from this] at h; cases h), if_pos (show plain2 _ = true from Hq.out)]; rfl
        | 2, _, HJ, Hq => rw [if_neg (by have := HJ.out 0 (by omega); exact fun h => by rw [show plain1 _ = false from this] at h; cases h), if_neg (by have := HJ.out 1 (by omega); exact fun h => by rw [show plain2 _ = false from this] at h; cases h), if_pos (show plain3 _ = true from Hq.out)]; rfl
    · have h3 : k = 3 := by omega
      subst h3
      go_wp2_with fail
      go_ret
      refine ⟨ret_int ?_, hB⟩
      unfold plainIx
      rw [if_neg (by have := HJ.out 0 (by omega); exact fun h => by rw [show plain1 _ = false from this] at h; cases h), if_neg (by have := HJ.out 1 (by omega); exact fun h => by rw [show plain2 _ = false from this] at h; cases h), if_neg (by have := HJ.out 2 (by omega); exact fun h => by rw [show plain3 _ = false from this] at h; cases h)]
theorem plain_parts (s : List UInt8) : plainN s = (decide (s.length ≤ 100) && decide (0 ≤ plainIx s)) := by
  have e1 : decide (0 ≤ plainIx s) = (plain1 s || (plain2 s || plain3 s)) := by
    unfold plainIx
    cases plain1 s <;> cases plain2 s <;> cases plain3 s <;> rfl
  rw [e1]
  unfold plainN special plain1 plain2 plain3 allN Lib.hasPrefix
  have h1 : ∀ a : List UInt8, (s == a) = decide (s = a) := fun a => by rw [Bool.eq_iff_iff]; simp
  have h2 : (([47, 42] : List UInt8).isPrefixOf s) = (s.take 2 == [47, 42]) := by
    match s with
    | [] => rfl
    | [a] => simp [List.isPrefixOf]
    | a :: b :: l => rw [Bool.eq_iff_iff]; simp [List.isPrefixOf]; constructor <;> (rintro ⟨h, h'⟩; exact ⟨h.symm, h'.symm⟩)
  rw [h2, h1, h1, h1, h1, h1]
  cases hs : s with
  | nil => decide +kernel
  | cons a l =>
    have h3 : rawAt (a :: l) 0 = bAt (a :: l) 0 := rawAt_in _ _ (by simp)
    rw [h3]
    simp only [List.isEmpty_cons, Bool.not_false, Bool.and_true, Bool.true_and]
set_option maxHeartbeats 400000 in
theorem sp_contains (g : Nat) (s : ByteArray) (b : Nat) (w : World) (hp : w.cell? ⟨b, 0, none⟩ = some (.string s)) (hb : b < w.heap.size) (hs : s.size ≤ maxLen) (hg : g < w.heap.size)
    (hc : ∀ k : Nat, k < 3 → w.cell? ⟨g, k, none⟩ = some (.func (.func (plainF k)) #[] #[.pointer (some ⟨b, 0, none⟩)])) :
    Calls Tryd.prog 38 #[.slice (some ⟨g, 0, none⟩) 3 3, .func (.func 39) #[] #[]] w fun e w' => e = .returned (.bool (decide (0 ≤ plainIx s.data.toList))) ∧ Below w.heap.size w w' := by
  have H := Lib.hid (sp_ixFunc g s b w hp hb hs hg hc)
  clear hc hp
  generalize plainIx s.data.toList = r at *
  go_enter Tryd.func38, Tryd.ntmps38
  go_wp2_with fail
  refine H.out.mono ?_; rintro e w1 ⟨rfl, hB1⟩
  go_wp2_with fail
  go_ret
  exact ⟨rfl, hB1⟩
set_option maxHeartbeats 800000 in
theorem sp_plain (s : ByteArray) (w : World) (hs : s.size ≤ maxLen) :
    Calls Tryd.prog 11 #[.string s] w fun e w' => e = .returned (.bool (plainN s.data.toList)) ∧ Below w.heap.size w w' := by
  have HP := Lib.hid (plain_parts s.data.toList)
  rw [size_data] at HP
  by_cases h1 : 100 < s.size
  · have b1 : decide ((100 : Int) < s.size) = true := by simp; omega
    have HQ := Lib.hid (show decide (s.size ≤ 100) = false by simp; omega)
    clear h1
    go_enter Tryd.func11, Tryd.ntmps11
    go_wp2_with fail
    go_ret
    exact ⟨ret_bool (by rw [HP.out, HQ.out]; rfl), (Below.refl _ _).alloc (Nat.le_refl _) _⟩
  · have b1 : decide ((100 : Int) < s.size) = false := by simp; omega
    have HQ := Lib.hid (show decide (s.size ≤ 100) = true by simp; omega)
    clear h1
    go_enter Tryd.func11, Tryd.ntmps11
    go_wp2_with fail
    refine (sp_contains (w.heap.size + 1) s w.heap.size _ ?_ ?_ hs ?_ ?_).mono ?_
    · rw [World.cell?_alloc_lt _ _ _ (by simp), World.cell?_alloc_new]; rfl
    · simp; omega
    · simp
    · intro k hk
      have e : (w.alloc (.cells #[.string s] 9)).heap.size = w.heap.size + 1 := by simp
      rw [← e, World.cell?_alloc_new]
      match k, hk with
      | 0, _ => rfl
      | 1, _ => rfl
      | 2, _ => rfl
    rintro e w1 ⟨rfl, hB1⟩
    go_wp2_with fail
    go_ret
    exact ⟨ret_bool (by rw [HP.out, HQ.out]; rfl), (((Below.refl _ _).alloc (Nat.le_refl _) _).alloc (by simp) _).trans (hB1.mono (by simp; omega))⟩
end Go.Proofs.YtmjeajfakhmakaaDoor
