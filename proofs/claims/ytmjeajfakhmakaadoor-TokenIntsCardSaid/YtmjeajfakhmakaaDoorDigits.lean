/- The law's helper digits: an integer's digits in a base. -/
import Derived.Test.YtmjeajfakhmakaaDoorTopS
import Derived.Test.YtmjeajfakhmakaaDoorBase
import Derived.Test.YtmjeajfakhmakaaDoorProg
import Derived.RegionTactic
namespace Hb
open Go Go.RowKit
def strLen : Value → Nat | .string s => s.size | _ => 0
/-- What is still to be written. -/
def restD (b k : Nat) (acc : List UInt8) : List UInt8 := if k = 0 ∧ ¬acc = [] then [] else digsN b k
theorem restD_step (b : Nat) (hb : 2 ≤ b) (k : Nat) (acc : List UInt8) (h : ¬(k = 0 ∧ ¬acc = [])) : restD b k acc ++ acc = restD b (k / b) (hexd (k % b) :: acc) ++ hexd (k % b) :: acc := by
  unfold restD
  rw [if_neg h]
  by_cases hk : k < b
  · rw [digsN_lt _ _ hk, Nat.div_eq_of_lt hk, Nat.mod_eq_of_lt hk, if_pos ⟨rfl, by simp⟩]; rfl
  · have : 0 < k / b := Nat.div_pos (by omega) (by omega)
    rw [digsN_ge b k hb hk, if_neg (fun h => by omega)]; simp
theorem hex_extract : ∀ d : Nat, d < 16 → (ByteArray.mk #[48, 49, 50, 51, 52, 53, 54, 55, 56, 57, 97, 98, 99, 100, 101, 102]).extract d (d + 1) = ⟨#[hexd d]⟩ := by decide +kernel
theorem cons_mk (b : UInt8) (l : List UInt8) : (⟨#[b]⟩ : ByteArray) ++ ⟨l.toArray⟩ = ⟨(b :: l).toArray⟩ := by
  apply ByteArray.ext; simp
theorem empty_mk (l : List UInt8) : (⟨l.toArray⟩ : ByteArray).toList = l := by rw [tl_data]
end Hb
namespace Go.Proofs.YtmjeajfakhmakaaDoor
open Go.RowKit Hb
set_option maxRecDepth 100000

set_option maxHeartbeats 800000 in
theorem law_digits10 (n : Nat) (hn : n ≤ 9223372036854775807) (w : World) :
    Calls Tryd.prog 26 #[.int .i64 n, .int .i64 10] w fun e w' => e = .returned (.string ⟨(digsN 10 n).toArray⟩) ∧ Below w.heap.size w w' := by
  have HL := Lib.hid (digsN_len 10 n (by decide) hn)
  go_enter Tryd.func26, Tryd.ntmps26
  go_wp2_with fail
  go_loopw [0, 5] (fun i v wr => ∃ k : Nat, ∃ acc : List UInt8, i = .int .i64 k ∧ v = .string ⟨acc.toArray⟩ ∧ k ≤ n ∧ Hid (digsN 10 n = restD 10 k acc ++ acc) ∧ Below w.heap.size w wr) (fun i v _ => (intOf i).toNat + (1 - strLen v))
  case atStart => exact ⟨n, [], rfl, rfl, Nat.le_refl _, by show _ = _; unfold restD; rw [if_neg (by simp)]; simp, Below.refl _ _⟩
  case round =>
    obtain ⟨k, acc, rfl, rfl, hk, HE, hB⟩ := hrel
    have hl : acc.length ≤ 63 := by
      have h1 := HE.out
      have h2 := HL.out
      rw [h1, List.length_append] at h2; omega
    have HT := Lib.hid (empty_mk acc)
    by_cases hx : k = 0 ∧ ¬acc = []
    · obtain ⟨rfl, hx2⟩ := hx
      have HR := Lib.hid (show digsN 10 n = acc by rw [HE.out]; unfold restD; rw [if_pos ⟨rfl, hx2⟩]; rfl)
      have ea : ¬(⟨acc.toArray⟩ : ByteArray).toList = [] := by rw [HT.out]; exact hx2
      have ea2 : (⟨acc.toArray⟩ : ByteArray).toList.isEmpty = false := by simpa using ea
      have ea3 : acc.isEmpty = false := by simpa using hx2
      go_wp2_with fail
      go_ret
      exact ⟨ret_str (by rw [HR.out]), hB⟩
    · have HS := Lib.hid (restD_step 10 (by decide) k acc hx)
      by_cases h0 : k = 0
      · have hacc : acc = [] := by
          rcases Classical.em (acc = []) with h | h
          · exact h
          · exact absurd ⟨h0, h⟩ hx
        subst h0
        subst hacc
        have HX := Lib.hid (hex_extract 0 (by decide))
        clear hx
        go_wp2_with fail
        go_region
        go_wp2_with fail
        go_roundw
        case rel => exact ⟨0, [hexd 0], rfl, congrArg Value.string (by rw [HX.out]; exact cons_mk _ _), by omega, HE.out.trans HS.out, hB.drew⟩
        case measure => simp [intOf, strLen, ByteArray.size_append, HX.out]; decide
      · have hmod : (k : Int) % 10 = ((k % 10 : Nat) : Int) := by omega
        have hdiv : (k : Int) / 10 = ((k / 10 : Nat) : Int) := by omega
        have hd : k % 10 < 16 := by omega
        have hq2 : k / 10 < k := Nat.div_lt_self (by omega) (by decide)
        have HX := Lib.hid (hex_extract (k % 10) hd)
        have hpos : 0 < k := by omega
        have hk10 : decide ((0 : Int) < k) = true := by simp; omega
        generalize k % 10 = d at *
        generalize k / 10 = q at *
        clear hx h0
        go_wp2_with fail
        go_region
        go_wp2_with fail
        go_roundw
        case rel => exact ⟨q, hexd d :: acc, rfl, congrArg Value.string (by rw [HX.out]; exact cons_mk _ _), by omega, HE.out.trans HS.out, hB.drew⟩
        case measure => simp [intOf, strLen]; omega
set_option maxHeartbeats 800000 in
theorem law_digits16 (n : Nat) (hn : n ≤ 9223372036854775807) (w : World) :
    Calls Tryd.prog 26 #[.int .i64 n, .int .i64 16] w fun e w' => e = .returned (.string ⟨(digsN 16 n).toArray⟩) ∧ Below w.heap.size w w' := by
  have HL := Lib.hid (digsN_len 16 n (by decide) hn)
  go_enter Tryd.func26, Tryd.ntmps26
  go_wp2_with fail
  go_loopw [0, 5] (fun i v wr => ∃ k : Nat, ∃ acc : List UInt8, i = .int .i64 k ∧ v = .string ⟨acc.toArray⟩ ∧ k ≤ n ∧ Hid (digsN 16 n = restD 16 k acc ++ acc) ∧ Below w.heap.size w wr) (fun i v _ => (intOf i).toNat + (1 - strLen v))
  case atStart => exact ⟨n, [], rfl, rfl, Nat.le_refl _, by show _ = _; unfold restD; rw [if_neg (by simp)]; simp, Below.refl _ _⟩
  case round =>
    obtain ⟨k, acc, rfl, rfl, hk, HE, hB⟩ := hrel
    have hl : acc.length ≤ 63 := by
      have h1 := HE.out
      have h2 := HL.out
      rw [h1, List.length_append] at h2; omega
    have HT := Lib.hid (empty_mk acc)
    by_cases hx : k = 0 ∧ ¬acc = []
    · obtain ⟨rfl, hx2⟩ := hx
      have HR := Lib.hid (show digsN 16 n = acc by rw [HE.out]; unfold restD; rw [if_pos ⟨rfl, hx2⟩]; rfl)
      have ea : ¬(⟨acc.toArray⟩ : ByteArray).toList = [] := by rw [HT.out]; exact hx2
      have ea2 : (⟨acc.toArray⟩ : ByteArray).toList.isEmpty = false := by simpa using ea
      have ea3 : acc.isEmpty = false := by simpa using hx2
      go_wp2_with fail
      go_ret
      exact ⟨ret_str (by rw [HR.out]), hB⟩
    · have HS := Lib.hid (restD_step 16 (by decide) k acc hx)
      by_cases h0 : k = 0
      · have hacc : acc = [] := by
          rcases Classical.em (acc = []) with h | h
          · exact h
          · exact absurd ⟨h0, h⟩ hx
        subst h0
        subst hacc
        have HX := Lib.hid (hex_extract 0 (by decide))
        clear hx
        go_wp2_with fail
        go_region
        go_wp2_with fail
        go_roundw
        case rel => exact ⟨0, [hexd 0], rfl, congrArg Value.string (by rw [HX.out]; exact cons_mk _ _), by omega, HE.out.trans HS.out, hB.drew⟩
        case measure => simp [intOf, strLen, ByteArray.size_append, HX.out]; decide
      · have hmod : (k : Int) % 16 = ((k % 16 : Nat) : Int) := by omega
        have hdiv : (k : Int) / 16 = ((k / 16 : Nat) : Int) := by omega
        have hd : k % 16 < 16 := by omega
        have hq2 : k / 16 < k := Nat.div_lt_self (by omega) (by decide)
        have HX := Lib.hid (hex_extract (k % 16) hd)
        have hpos : 0 < k := by omega
        have hk10 : decide ((0 : Int) < k) = true := by simp; omega
        generalize k % 16 = d at *
        generalize k / 16 = q at *
        clear hx h0
        go_wp2_with fail
        go_region
        go_wp2_with fail
        go_roundw
        case rel => exact ⟨q, hexd d :: acc, rfl, congrArg Value.string (by rw [HX.out]; exact cons_mk _ _), by omega, HE.out.trans HS.out, hB.drew⟩
        case measure => simp [intOf, strLen]; omega
set_option maxHeartbeats 800000 in
theorem law_digits8 (n : Nat) (hn : n ≤ 9223372036854775807) (w : World) :
    Calls Tryd.prog 26 #[.int .i64 n, .int .i64 8] w fun e w' => e = .returned (.string ⟨(digsN 8 n).toArray⟩) ∧ Below w.heap.size w w' := by
  have HL := Lib.hid (digsN_len 8 n (by decide) hn)
  go_enter Tryd.func26, Tryd.ntmps26
  go_wp2_with fail
  go_loopw [0, 5] (fun i v wr => ∃ k : Nat, ∃ acc : List UInt8, i = .int .i64 k ∧ v = .string ⟨acc.toArray⟩ ∧ k ≤ n ∧ Hid (digsN 8 n = restD 8 k acc ++ acc) ∧ Below w.heap.size w wr) (fun i v _ => (intOf i).toNat + (1 - strLen v))
  case atStart => exact ⟨n, [], rfl, rfl, Nat.le_refl _, by show _ = _; unfold restD; rw [if_neg (by simp)]; simp, Below.refl _ _⟩
  case round =>
    obtain ⟨k, acc, rfl, rfl, hk, HE, hB⟩ := hrel
    have hl : acc.length ≤ 63 := by
      have h1 := HE.out
      have h2 := HL.out
      rw [h1, List.length_append] at h2; omega
    have HT := Lib.hid (empty_mk acc)
    by_cases hx : k = 0 ∧ ¬acc = []
    · obtain ⟨rfl, hx2⟩ := hx
      have HR := Lib.hid (show digsN 8 n = acc by rw [HE.out]; unfold restD; rw [if_pos ⟨rfl, hx2⟩]; rfl)
      have ea : ¬(⟨acc.toArray⟩ : ByteArray).toList = [] := by rw [HT.out]; exact hx2
      have ea2 : (⟨acc.toArray⟩ : ByteArray).toList.isEmpty = false := by simpa using ea
      have ea3 : acc.isEmpty = false := by simpa using hx2
      go_wp2_with fail
      go_ret
      exact ⟨ret_str (by rw [HR.out]), hB⟩
    · have HS := Lib.hid (restD_step 8 (by decide) k acc hx)
      by_cases h0 : k = 0
      · have hacc : acc = [] := by
          rcases Classical.em (acc = []) with h | h
          · exact h
          · exact absurd ⟨h0, h⟩ hx
        subst h0
        subst hacc
        have HX := Lib.hid (hex_extract 0 (by decide))
        clear hx
        go_wp2_with fail
        go_region
        go_wp2_with fail
        go_roundw
        case rel => exact ⟨0, [hexd 0], rfl, congrArg Value.string (by rw [HX.out]; exact cons_mk _ _), by omega, HE.out.trans HS.out, hB.drew⟩
        case measure => simp [intOf, strLen, ByteArray.size_append, HX.out]; decide
      · have hmod : (k : Int) % 8 = ((k % 8 : Nat) : Int) := by omega
        have hdiv : (k : Int) / 8 = ((k / 8 : Nat) : Int) := by omega
        have hd : k % 8 < 16 := by omega
        have hq2 : k / 8 < k := Nat.div_lt_self (by omega) (by decide)
        have HX := Lib.hid (hex_extract (k % 8) hd)
        have hpos : 0 < k := by omega
        have hk10 : decide ((0 : Int) < k) = true := by simp; omega
        generalize k % 8 = d at *
        generalize k / 8 = q at *
        clear hx h0
        go_wp2_with fail
        go_region
        go_wp2_with fail
        go_roundw
        case rel => exact ⟨q, hexd d :: acc, rfl, congrArg Value.string (by rw [HX.out]; exact cons_mk _ _), by omega, HE.out.trans HS.out, hB.drew⟩
        case measure => simp [intOf, strLen]; omega
set_option maxHeartbeats 800000 in
theorem law_digits2 (n : Nat) (hn : n ≤ 9223372036854775807) (w : World) :
    Calls Tryd.prog 26 #[.int .i64 n, .int .i64 2] w fun e w' => e = .returned (.string ⟨(digsN 2 n).toArray⟩) ∧ Below w.heap.size w w' := by
  have HL := Lib.hid (digsN_len 2 n (by decide) hn)
  go_enter Tryd.func26, Tryd.ntmps26
  go_wp2_with fail
  go_loopw [0, 5] (fun i v wr => ∃ k : Nat, ∃ acc : List UInt8, i = .int .i64 k ∧ v = .string ⟨acc.toArray⟩ ∧ k ≤ n ∧ Hid (digsN 2 n = restD 2 k acc ++ acc) ∧ Below w.heap.size w wr) (fun i v _ => (intOf i).toNat + (1 - strLen v))
  case atStart => exact ⟨n, [], rfl, rfl, Nat.le_refl _, by show _ = _; unfold restD; rw [if_neg (by simp)]; simp, Below.refl _ _⟩
  case round =>
    obtain ⟨k, acc, rfl, rfl, hk, HE, hB⟩ := hrel
    have hl : acc.length ≤ 63 := by
      have h1 := HE.out
      have h2 := HL.out
      rw [h1, List.length_append] at h2; omega
    have HT := Lib.hid (empty_mk acc)
    by_cases hx : k = 0 ∧ ¬acc = []
    · obtain ⟨rfl, hx2⟩ := hx
      have HR := Lib.hid (show digsN 2 n = acc by rw [HE.out]; unfold restD; rw [if_pos ⟨rfl, hx2⟩]; rfl)
      have ea : ¬(⟨acc.toArray⟩ : ByteArray).toList = [] := by rw [HT.out]; exact hx2
      have ea2 : (⟨acc.toArray⟩ : ByteArray).toList.isEmpty = false := by simpa using ea
      have ea3 : acc.isEmpty = false := by simpa using hx2
      go_wp2_with fail
      go_ret
      exact ⟨ret_str (by rw [HR.out]), hB⟩
    · have HS := Lib.hid (restD_step 2 (by decide) k acc hx)
      by_cases h0 : k = 0
      · have hacc : acc = [] := by
          rcases Classical.em (acc = []) with h | h
          · exact h
          · exact absurd ⟨h0, h⟩ hx
        subst h0
        subst hacc
        have HX := Lib.hid (hex_extract 0 (by decide))
        clear hx
        go_wp2_with fail
        go_region
        go_wp2_with fail
        go_roundw
        case rel => exact ⟨0, [hexd 0], rfl, congrArg Value.string (by rw [HX.out]; exact cons_mk _ _), by omega, HE.out.trans HS.out, hB.drew⟩
        case measure => simp [intOf, strLen, ByteArray.size_append, HX.out]; decide
      · have hmod : (k : Int) % 2 = ((k % 2 : Nat) : Int) := by omega
        have hdiv : (k : Int) / 2 = ((k / 2 : Nat) : Int) := by omega
        have hd : k % 2 < 16 := by omega
        have hq2 : k / 2 < k := Nat.div_lt_self (by omega) (by decide)
        have HX := Lib.hid (hex_extract (k % 2) hd)
        have hpos : 0 < k := by omega
        have hk10 : decide ((0 : Int) < k) = true := by simp; omega
        generalize k % 2 = d at *
        generalize k / 2 = q at *
        clear hx h0
        go_wp2_with fail
        go_region
        go_wp2_with fail
        go_roundw
        case rel => exact ⟨q, hexd d :: acc, rfl, congrArg Value.string (by rw [HX.out]; exact cons_mk _ _), by omega, HE.out.trans HS.out, hB.drew⟩
        case measure => simp [intOf, strLen]; omega
end Go.Proofs.YtmjeajfakhmakaaDoor
