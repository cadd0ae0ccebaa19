/- Operators: types of names. -/
import Derived.Test.YteddbeifnolklaaOpT
namespace Hb
open Go Go.RowKit
/-- The first type from k on whose name is s (d types are left), or 0. -/
def tyFrom (s : ByteArray) : Nat → Nat → Int
  | _, 0 => 0
  | k, d + 1 => if ((tyNm k).toList == s.toList) = true then k else tyFrom s (k + 1) d
def tyOf (s : ByteArray) : Int := tyFrom s 1 7
theorem tyFrom_step (s : ByteArray) (k : Nat) (hk : k ≤ 7) : tyFrom s k (8 - k) = if ((tyNm k).toList == s.toList) = true then (k : Int) else tyFrom s (k + 1) (8 - (k + 1)) := by
  rw [show 8 - k = (8 - (k + 1)) + 1 by omega]; rfl
end Hb
namespace Go.Proofs.Yteddbeifnolklaa
open Go.RowKit Hb
set_option maxRecDepth 100000
set_option maxHeartbeats 1600000 in
theorem ops_typeOf (s : ByteArray) (w : World) : Calls Try.prog 32 #[.string s] w fun e w' => e = .returned (.tuple #[.int .i64 (tyOf s), .bool (decide (0 < tyOf s))]) ∧ Below w.heap.size w w' := by
  go_enter Try.func32, Try.ntmps32
  go_wp2_with fail
  go_loopw [4] (fun i wr => ∃ k : Nat, 1 ≤ k ∧ k ≤ 8 ∧ i = .int .i64 k ∧ Below w.heap.size w wr ∧ Hid (tyOf s = tyFrom s k (8 - k))) (fun i _ => 8 - (intOf i).toNat)
  case atStart => exact ⟨1, by omega, by omega, rfl, Below.refl _ _, rfl⟩
  case round =>
    obtain ⟨k, hk1, hk, rfl, hB, HA⟩ := hrel
    by_cases hlt : k ≤ 7
    · have HC := Lib.hid (carry (w0 := w) hB (ops_typeName k wr))
      have HS := Lib.hid (HA.out.trans (tyFrom_step s k hlt))
      clear HA
      generalize tyNm (k : Int) = m at *
      generalize tyOk (k : Int) = ok at *
      cases hm : (m.toList == s.toList)
      · have hm2 : ¬m.toList = s.toList := by simpa using hm
        rw [hm] at HS
        go_wp2_with fail
        refine HC.out.mono ?_; rintro e w1 ⟨rfl, hB1⟩
        go_wp2_with fail
        go_roundw
        case rel => exact ⟨k + 1, by omega, by omega, by go_num, hB1, HS.out⟩
        case measure => simp [intOf] <;> omega
      · have hm2 : m.toList = s.toList := by simpa using hm
        rw [hm] at HS
        have h0 : decide (0 < tyOf s) = true := by rw [HS.out]; simp; omega
        have HV := Lib.hid (show tyOf s = (k : Int) from HS.out)
        have H0 := Lib.hid h0
        clear h0
        go_wp2_with fail
        refine HC.out.mono ?_; rintro e w1 ⟨rfl, hB1⟩
        go_wp2_with fail
        exact bodyPost_ret (v := .tuple #[.int .i64 k, .bool true]) (by simp [results, Try.results32, go_sem]) rfl ⟨by rw [H0.out, HV.out], hB1⟩
    · have hk8 : k = 8 := by omega
      subst hk8
      have HV := Lib.hid (show tyOf s = 0 from HA.out)
      go_wp2_with fail
      exact bodyPost_ret (v := .tuple #[.int .i64 0, .bool false]) (by simp [results, Try.results32, go_sem]) rfl ⟨by rw [HV.out]; rfl, hB⟩
set_option maxHeartbeats 1600000 in
theorem ref_typeOf (s : ByteArray) (w : World) : Calls Try.prog 33 #[.string s] w fun e w' => e = .returned (.tuple #[.int .i64 (tyOf s), .bool (decide (0 < tyOf s))]) ∧ Below w.heap.size w w' := by
  go_enter Try.func33, Try.ntmps33
  go_wp2_with fail
  go_loopw [4] (fun i wr => ∃ k : Nat, 1 ≤ k ∧ k ≤ 8 ∧ i = .int .i64 k ∧ Below w.heap.size w wr ∧ Hid (tyOf s = tyFrom s k (8 - k))) (fun i _ => 8 - (intOf i).toNat)
  case atStart => exact ⟨1, by omega, by omega, rfl, Below.refl _ _, rfl⟩
  case round =>
    obtain ⟨k, hk1, hk, rfl, hB, HA⟩ := hrel
    by_cases hlt : k ≤ 7
    · have HC := Lib.hid (carry (w0 := w) hB (ref_typeName k wr))
      have HS := Lib.hid (HA.out.trans (tyFrom_step s k hlt))
      clear HA
      generalize tyNm (k : Int) = m at *
      generalize tyOk (k : Int) = ok at *
      cases hm : (m.toList == s.toList)
      · have hm2 : ¬m.toList = s.toList := by simpa using hm
        rw [hm] at HS
        go_wp2_with fail
        refine HC.out.mono ?_; rintro e w1 ⟨rfl, hB1⟩
        go_wp2_with fail
        go_roundw
        case rel => exact ⟨k + 1, by omega, by omega, by go_num, hB1, HS.out⟩
        case measure => simp [intOf] <;> omega
      · have hm2 : m.toList = s.toList := by simpa using hm
        rw [hm] at HS
        have h0 : decide (0 < tyOf s) = true := by rw [HS.out]; simp; omega
        have HV := Lib.hid (show tyOf s = (k : Int) from HS.out)
        have H0 := Lib.hid h0
        clear h0
        go_wp2_with fail
        refine HC.out.mono ?_; rintro e w1 ⟨rfl, hB1⟩
        go_wp2_with fail
        exact bodyPost_ret (v := .tuple #[.int .i64 k, .bool true]) (by simp [results, Try.results33, go_sem]) rfl ⟨by rw [H0.out, HV.out], hB1⟩
    · have hk8 : k = 8 := by omega
      subst hk8
      have HV := Lib.hid (show tyOf s = 0 from HA.out)
      go_wp2_with fail
      exact bodyPost_ret (v := .tuple #[.int .i64 0, .bool false]) (by simp [results, Try.results33, go_sem]) rfl ⟨by rw [HV.out]; rfl, hB⟩
end Go.Proofs.Yteddbeifnolklaa
