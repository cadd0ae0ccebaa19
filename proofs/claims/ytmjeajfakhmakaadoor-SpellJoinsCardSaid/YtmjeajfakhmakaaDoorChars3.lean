/- Contracts of layer 1: escapes. -/
import Derived.Test.YtmjeajfakhmakaaDoorChars2
import Derived.Laws.Strings
namespace Go.Proofs.YtmjeajfakhmakaaDoor
open Go.RowKit Hb
set_option maxRecDepth 100000

theorem une_lib : ∀ n : Nat, n < 256 → (¬((n : Int) = 92 ∨ (n : Int) = 39 ∨ (n : Int) = 34 ∨ (n : Int) = 96)) → une n = if Lib.indexByte letters n.toUInt8 < 0 then none else some (7 + Lib.indexByte letters n.toUInt8) := by decide +kernel
theorem une_lib' (c : Int) (h : isCh c = true) (h2 : ¬(c = 92 ∨ c = 39 ∨ c = 34 ∨ c = 96)) : une c = if Lib.indexByte letters c.toNat.toUInt8 < 0 then none else some (7 + Lib.indexByte letters c.toNat.toUInt8) := by
  obtain ⟨h0, h1⟩ := (isCh_iff c).1 h
  obtain ⟨n, rfl⟩ := Int.eq_ofNat_of_zero_le h0
  exact une_lib n (by omega) h2

def lix (c : Int) : Int := Lib.indexByte letters c.toNat.toUInt8
theorem lix_hi : ∀ n : Nat, n < 256 → Lib.indexByte letters n.toUInt8 ≤ 6 := by decide +kernel

set_option maxHeartbeats 1000000 in
theorem chars_unescape (c : Int) (w : World) :
    Calls Tryd.prog 91 #[.int .i64 c] w fun e w' => e = .returned (.tuple #[.int .i64 (uneV c), .bool (uneOk c)]) ∧ w = w' := by
  by_cases hq : c = 92 ∨ c = 39 ∨ c = 34 ∨ c = 96
  · have HU := Lib.hid (show une c = some c by unfold une; rw [if_pos hq])
    go_enter Tryd.func91, Tryd.ntmps91
    go_wp2
    all_goals (first | (exfalso; grind) | (go_ret2; exact ⟨ret_ib (by unfold uneV; rw [HU.out]; rfl) (by unfold uneOk; rw [HU.out]; rfl), rfl⟩))
  · have q1 : (c == 92) = false := by grind
    have q2 : (c == 39) = false := by grind
    have q3 : (c == 34) = false := by grind
    have q4 : (c == 96) = false := by grind
    cases hc : isCh c
    · have HU := Lib.hid (show une c = none by have := isCh_iff c; unfold une; grind)
      have HQ := Lib.hid hq
      clear hq
      go_enter Tryd.func91, Tryd.ntmps91
      go_wp2_with (first | (go_at_call 51; refine (chars_is _ _).mono ?_; rintro e w' ⟨rfl, rfl⟩))
      go_ret2
      exact ⟨ret_ib (by unfold uneV; rw [HU.out]; rfl) (by unfold uneOk; rw [HU.out]; rfl), rfl⟩
    · have HU := Lib.hid (une_lib' c hc hq)
      obtain ⟨h0, h1⟩ := (isCh_iff c).1 hc
      have hl0 : -1 ≤ lix c := Lib.indexByte_ge _ _
      have hl1 : lix c ≤ 6 := by
        obtain ⟨n, rfl⟩ := Int.eq_ofNat_of_zero_le h0
        exact lix_hi n (by omega)
      have HQ := Lib.hid hq
      clear hq
      go_enter Tryd.func91, Tryd.ntmps91
      go_wp2_with (first | (go_at_call 51; refine (chars_is _ _).mono ?_; rintro e w' ⟨rfl, rfl⟩) | (go_at_call 54; refine (strings_indexByte _ _ _).mono ?_; rintro e w' ⟨rfl, rfl⟩; rw [show Lib.indexByte (ByteArray.mk #[97, 98, 116, 110, 118, 102, 114]).data.toList c.toNat.toUInt8 = lix c from rfl]))
      all_goals
        go_ret2
        exact ⟨ret_ib (by unfold uneV; rw [HU.out]; show _ = (if lix c < 0 then none else some (7 + lix c)).getD 0; grind) (by unfold uneOk; rw [HU.out]; show _ = (if lix c < 0 then none else some (7 + lix c)).isSome; grind), rfl⟩

theorem esc_hex2 : ∀ n : Nat, n < 256 → 16 ≤ n → (n < 32 ∨ 126 < n) → (ByteArray.mk #[92, 120] ++ (ByteArray.mk #[48, 49, 50, 51, 52, 53, 54, 55, 56, 57, 97, 98, 99, 100, 101, 102]).extract (n / 16) (n / 16 + 1) ++ (ByteArray.mk #[48, 49, 50, 51, 52, 53, 54, 55, 56, 57, 97, 98, 99, 100, 101, 102]).extract (n % 16) (n % 16 + 1) ++ ByteArray.mk #[92]) = ⟨(esc n).toArray⟩ := by decide +kernel
theorem esc_hex1 : ∀ n : Nat, n < 16 → (n < 7 ∨ 13 < n) → (ByteArray.mk #[92, 120] ++ (ByteArray.mk #[48, 49, 50, 51, 52, 53, 54, 55, 56, 57, 97, 98, 99, 100, 101, 102]).extract n (n + 1) ++ ByteArray.mk #[92]) = ⟨(esc n).toArray⟩ := by decide +kernel

set_option maxHeartbeats 1000000 in
theorem ref_escape_hex (c : Int) (w : World) (h0 : 16 ≤ c) (h1 : c ≤ 255) (h2 : c < 32 ∨ 126 < c) :
    Calls Tryd.prog 23 #[.int .i64 c] w fun e w' => e = .returned (.tuple #[.string ⟨(esc c).toArray⟩, .bool (isCh c)]) ∧ Below w.heap.size w w' := by
  obtain ⟨n, rfl⟩ := Int.eq_ofNat_of_zero_le (show 0 ≤ c by omega)
  have HE := Lib.hid (esc_hex2 n (by omega) (by omega) (by omega))
  have HC := Lib.hid (show isCh n = true by simp [isCh]; omega)
  have q2 : ((n : Int) == 39) = false := by grind
  have q3 : ((n : Int) == 92) = false := by grind
  rcases h2 with h2 | h2
  all_goals
    go_enter Tryd.func23, Tryd.ntmps23
    go_wp2_with (first | (go_at_call 47; refine (ref_is _ _).mono ?_; rintro e w' ⟨rfl, rfl⟩; rw [HC.out]))
    go_ret2
    exact ⟨ret_sb HE.out HC.out.symm, Below.refl _ _⟩

set_option maxHeartbeats 1000000 in
theorem ref_escape_hex1 (c : Int) (w : World) (h0 : 0 ≤ c) (h1 : c < 16) (h2 : c < 7 ∨ 13 < c) :
    Calls Tryd.prog 23 #[.int .i64 c] w fun e w' => e = .returned (.tuple #[.string ⟨(esc c).toArray⟩, .bool (isCh c)]) ∧ Below w.heap.size w w' := by
  obtain ⟨n, rfl⟩ := Int.eq_ofNat_of_zero_le (show 0 ≤ c by omega)
  have HE := Lib.hid (esc_hex1 n (by omega) (by omega))
  have HC := Lib.hid (show isCh n = true by simp [isCh]; omega)
  have q2 : ((n : Int) == 39) = false := by grind
  have q3 : ((n : Int) == 92) = false := by grind
  have q4 : (n : Int) % 16 = n := by omega
  rcases h2 with h2 | h2
  all_goals
    go_enter Tryd.func23, Tryd.ntmps23
    go_wp2_with (first | (go_at_call 47; refine (ref_is _ _).mono ?_; rintro e w' ⟨rfl, rfl⟩; rw [HC.out]))
    go_ret2
    exact ⟨ret_sb HE.out HC.out.symm, Below.refl _ _⟩

set_option maxHeartbeats 1000000 in
theorem ref_escape_plain (c : Int) (w : World) (h0 : 32 ≤ c) (h1 : c ≤ 126) (h2 : ¬ c = 39) (h3 : ¬ c = 92) :
    Calls Tryd.prog 23 #[.int .i64 c] w fun e w' => e = .returned (.tuple #[.string ⟨(esc c).toArray⟩, .bool (isCh c)]) ∧ Below w.heap.size w w' := by
  have HE := Lib.hid (show esc c = [c.toNat.toUInt8] by unfold esc; grind)
  have HC := Lib.hid (show isCh c = true by simp [isCh]; omega)
  have q2 : (c == 39) = false := by grind
  have q3 : (c == 92) = false := by grind
  clear h2 h3
  have hk := fun (w : World) => conv_new1 (P := Tryd.prog) 54 9 5 Tryd.underlying54 Tryd.underlying5 Tryd.underlying9 c (by omega) (by omega) w
  go_enter Tryd.func23, Tryd.ntmps23
  go_wp2_with (first | (go_at_call 47; refine (ref_is _ _).mono ?_; rintro e w' ⟨rfl, rfl⟩; rw [HC.out]))
  go_ret2
  exact ⟨ret_sb (by rw [HE.out]) HC.out.symm, (Below.refl _ _).alloc (Nat.le_refl _) _⟩

set_option maxHeartbeats 1000000 in
theorem ref_escape_quote (c : Int) (w : World) (h2 : c = 39 ∨ c = 92) :
    Calls Tryd.prog 23 #[.int .i64 c] w fun e w' => e = .returned (.tuple #[.string ⟨(esc c).toArray⟩, .bool (isCh c)]) ∧ Below w.heap.size w w' := by
  rcases h2 with rfl | rfl
  all_goals
    have hk := fun (n : Int) (h0 : 0 ≤ n) (h1 : n ≤ 255) (w : World) => conv_new2 (P := Tryd.prog) 54 9 5 Tryd.underlying54 Tryd.underlying5 Tryd.underlying9 92 n (by decide) (by decide) h0 h1 w
    have hk1 := hk 39 (by decide) (by decide)
    have hk2 := hk 92 (by decide) (by decide)
    clear hk
    go_enter Tryd.func23, Tryd.ntmps23
    go_wp2_with (first | (go_at_call 47; refine (ref_is _ _).mono ?_; rintro e w' ⟨rfl, rfl⟩; rw [show isCh _ = true from rfl]))
    go_ret2
    exact ⟨ret_sb rfl rfl, (Below.refl _ _).alloc (Nat.le_refl _) _⟩

set_option maxHeartbeats 1000000 in
theorem ref_escape_letter (c : Int) (w : World) (h0 : 7 ≤ c) (h1 : c ≤ 13) :
    Calls Tryd.prog 23 #[.int .i64 c] w fun e w' => e = .returned (.tuple #[.string ⟨(esc c).toArray⟩, .bool (isCh c)]) ∧ Below w.heap.size w w' := by
  have hc : c = 7 ∨ c = 8 ∨ c = 9 ∨ c = 10 ∨ c = 11 ∨ c = 12 ∨ c = 13 := by omega
  rcases hc with rfl | rfl | rfl | rfl | rfl | rfl | rfl
  all_goals
    go_enter Tryd.func23, Tryd.ntmps23
    go_wp2_with (first | (go_at_call 47; refine (ref_is _ _).mono ?_; rintro e w' ⟨rfl, rfl⟩; rw [show isCh _ = true from rfl]))
    go_ret2
    exact ⟨ret_sb rfl rfl, Below.refl _ _⟩

theorem ref_escape (c : Int) (w : World) (h0 : 0 ≤ c) (h1 : c ≤ 255) :
    Calls Tryd.prog 23 #[.int .i64 c] w fun e w' => e = .returned (.tuple #[.string ⟨(esc c).toArray⟩, .bool (isCh c)]) ∧ Below w.heap.size w w' := by
  by_cases a : 7 ≤ c ∧ c ≤ 13
  · exact ref_escape_letter c w a.1 a.2
  by_cases b : c = 39 ∨ c = 92
  · exact ref_escape_quote c w b
  by_cases d : 32 ≤ c ∧ c ≤ 126
  · exact ref_escape_plain c w d.1 d.2 (by omega) (by omega)
  by_cases e : 16 ≤ c
  · exact ref_escape_hex c w e h1 (by omega)
  · exact ref_escape_hex1 c w h0 (by omega) (by omega)
end Go.Proofs.YtmjeajfakhmakaaDoor
