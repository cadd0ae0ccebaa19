/- Flags: the reference, the small functions. -/
import Derived.Test.YtfkhcpeahdkafaaGreatZFkW
namespace Hb
open Go Go.RowKit
/-- A name is that of a flag, or of none. -/
theorem nm_cases (s : ByteArray) : (∃ k, k < 9 ∧ fIx s = k ∧ s.toList = (fN k).toList) ∨ (fIx s = 9 ∧ ∀ j, j < 9 → ¬ s.toList = (fN j).toList) := by
  by_cases h : fIx s < 9
  · exact .inl ⟨fIx s, h, rfl, fIx_lt h⟩
  · right
    have h2 : ∀ j, j < 9 → ¬ s.toList = (fN j).toList := fun j hj e => h (by
      rw [show s = fN j from ba_ext e, fIx_fN j hj]; exact hj)
    exact ⟨fIx_no (fun j hj e => h2 j hj e.symm), h2⟩
end Hb
namespace Go.Proofs.YtfkhcpeahdkafaaGreat
open Go.RowKit Hb
set_option maxRecDepth 100000
theorem r8_default (w : World) : Calls Tryz.prog 11 #[] w fun e w' => e = .returned (.agg #[.int .i64 1, .int .i64 1, .bool false, .bool false]) ∧ Below w.heap.size w w' := by
  have hB := (Below.refl w.heap.size w).alloc (Nat.le_refl _) (.cells #[.int .i64 1, .int .i64 1, .bool false, .bool false] 23)
  go_enter Tryz.func11, Tryz.ntmps11
  go_wp2_with fail
  exact bodyPost_ret (v := .agg #[.int .i64 1, .int .i64 1, .bool false, .bool false]) (by simp [results, Tryz.results11, go_sem]) rfl ⟨rfl, hB⟩
theorem r8_valid (f : FlR) (w : World) : Calls Tryz.prog 13 #[.agg #[.int .i64 f.q, .int .i64 f.u, .bool f.c, .bool f.d]] w fun e w' => e = .returned (.bool (flOk f)) ∧ Below w.heap.size w w' := by
  have hB := (Below.refl w.heap.size w).alloc (Nat.le_refl _) (.cells #[.int .i64 f.q, .int .i64 f.u, .bool f.c, .bool f.d] 23)
  have HF : Hid (flOk f = (decide (1 ≤ f.q) && (decide (f.q ≤ 3) && (f.u == 1 || f.u == 2)))) := Lib.hid rfl
  generalize flOk f = r at *
  generalize f.q = q at *
  generalize f.u = u at *
  generalize f.c = c at *
  generalize f.d = d at *
  have d0 : q < 1 ∨ 3 < q ∨ (1 ≤ q ∧ q ≤ 3) := by omega
  have d1 : u < 1 ∨ 2 < u ∨ (1 ≤ u ∧ u ≤ 2) := by omega
  rcases d0 with d0 | d0 | ⟨d0, d0'⟩ <;> rcases d1 with d1 | d1 | ⟨d1, d1'⟩
  all_goals
    go_enter Tryz.func13, Tryz.ntmps13
    go_wp2_with fail
    go_ret
    refine ⟨ret_bool ?_, hB⟩
    rw [HF.out, Bool.eq_iff_iff]
    simp
    omega
theorem r8_atom (s : ByteArray) (w : World) : Calls Tryz.prog 47 #[.string s] w fun e w' => e = .returned (.agg #[.int .i64 2, .int .i64 0, .string s, .slice none 0 0]) ∧ Below w.heap.size w w' := by
  have hB := (Below.refl w.heap.size w).alloc (Nat.le_refl _) (.cells #[.int .i64 2, .int .i64 0, .string s, .slice none 0 0] 26)
  go_enter Tryz.func47, Tryz.ntmps47
  go_wp2_with fail
  exact bodyPost_ret (v := .agg #[.int .i64 2, .int .i64 0, .string s, .slice none 0 0]) (by simp [results, Tryz.results47, go_sem]) rfl ⟨rfl, hB⟩
theorem r8_number (n : Int) (w : World) : Calls Tryz.prog 48 #[.int .i64 n] w fun e w' => e = .returned (.agg #[.int .i64 1, .int .i64 n, .string ⟨#[]⟩, .slice none 0 0]) ∧ Below w.heap.size w w' := by
  have hB := (Below.refl w.heap.size w).alloc (Nat.le_refl _) (.cells #[.int .i64 1, .int .i64 n, .string ⟨#[]⟩, .slice none 0 0] 26)
  go_enter Tryz.func48, Tryz.ntmps48
  go_wp2_with fail
  exact bodyPost_ret (v := .agg #[.int .i64 1, .int .i64 n, .string ⟨#[]⟩, .slice none 0 0]) (by simp [results, Tryz.results48, go_sem]) rfl ⟨rfl, hB⟩
theorem r8_names (w : World) : Calls Tryz.prog 15 #[] w fun e w' => ∃ g, e = .returned (.slice (some ⟨g, 0, none⟩) 9 9) ∧ Below w.heap.size w w' ∧ NmAt w' g := by
  have hB := (Below.refl w.heap.size w).alloc (Nat.le_refl _) (.cells #[.string ⟨#[98, 111, 117, 110, 100, 101, 100]⟩, .string ⟨#[99, 104, 97, 114, 95, 99, 111, 110, 118, 101, 114, 115, 105, 111, 110]⟩, .string ⟨#[100, 101, 98, 117, 103]⟩, .string ⟨#[100, 111, 117, 98, 108, 101, 95, 113, 117, 111, 116, 101, 115]⟩, .string ⟨#[105, 110, 116, 101, 103, 101, 114, 95, 114, 111, 117, 110, 100, 105, 110, 103, 95, 102, 117, 110, 99, 116, 105, 111, 110]⟩, .string ⟨#[109, 97, 120, 95, 97, 114, 105, 116, 121]⟩, .string ⟨#[109, 97, 120, 95, 105, 110, 116, 101, 103, 101, 114]⟩, .string ⟨#[109, 105, 110, 95, 105, 110, 116, 101, 103, 101, 114]⟩, .string ⟨#[117, 110, 107, 110, 111, 119, 110]⟩] 9)
  have hN : NmAt (w.alloc (.cells #[.string ⟨#[98, 111, 117, 110, 100, 101, 100]⟩, .string ⟨#[99, 104, 97, 114, 95, 99, 111, 110, 118, 101, 114, 115, 105, 111, 110]⟩, .string ⟨#[100, 101, 98, 117, 103]⟩, .string ⟨#[100, 111, 117, 98, 108, 101, 95, 113, 117, 111, 116, 101, 115]⟩, .string ⟨#[105, 110, 116, 101, 103, 101, 114, 95, 114, 111, 117, 110, 100, 105, 110, 103, 95, 102, 117, 110, 99, 116, 105, 111, 110]⟩, .string ⟨#[109, 97, 120, 95, 97, 114, 105, 116, 121]⟩, .string ⟨#[109, 97, 120, 95, 105, 110, 116, 101, 103, 101, 114]⟩, .string ⟨#[109, 105, 110, 95, 105, 110, 116, 101, 103, 101, 114]⟩, .string ⟨#[117, 110, 107, 110, 111, 119, 110]⟩] 9)) w.heap.size := ⟨by simp, fun j hj => by
    rw [World.cell?_alloc_new]
    rcases (show j = 0 ∨ j = 1 ∨ j = 2 ∨ j = 3 ∨ j = 4 ∨ j = 5 ∨ j = 6 ∨ j = 7 ∨ j = 8 by omega) with rfl | rfl | rfl | rfl | rfl | rfl | rfl | rfl | rfl <;> rfl⟩
  have HN := Lib.hid hN
  clear hN
  go_enter Tryz.func15, Tryz.ntmps15
  go_wp2_with fail
  go_ret
  exact ⟨_, rfl, hB, HN.out⟩
set_option maxHeartbeats 1600000 in
theorem r8_known (s : ByteArray) (w : World) : Calls Tryz.prog 49 #[.string s] w fun e w' => e = .returned (.bool (decide (fIx s < 9))) ∧ Below w.heap.size w w' := by
  go_enter Tryz.func49, Tryz.ntmps49
  go_wp2_with fail
  refine (r8_names _).mono ?_; rintro e w1 ⟨g, rfl, hB1, hN1⟩
  have HB1 := Lib.hid hB1
  have HN1 := Lib.hid hN1
  clear hB1 hN1
  go_wp2_with fail
  go_loopw [4] (fun i wr => ∃ k : Nat, k ≤ 9 ∧ i = .int .i64 k ∧ Hid (Below w.heap.size w wr) ∧ Hid (NmAt wr g) ∧ Hid (∀ j, j < k → ¬ (fN j).toList = s.toList)) (fun i _ => 9 - (intOf i).toNat)
  case atStart => exact ⟨0, by decide, rfl, HB1, HN1, Lib.hid fun j hj => absurd hj (by omega)⟩
  case round =>
    obtain ⟨k, hk, rfl, HB, HNM, HN⟩ := hrel
    by_cases hlt : k < 9
    · have hk0 : (0 : Int) ≤ (k : Int) := by omega
      have hk1 : (k : Int) < 9 := by omega
      have c := HNM.out.2 k hlt
      have HAT := Lib.hid (fIx_at (s := s) hlt HN.out)
      have HNX : Hid (¬ (fN k).toList = s.toList → ∀ j, j < k + 1 → ¬ (fN j).toList = s.toList) := Lib.hid (fun hne j hj => by
        by_cases e : j = k
        · subst e; exact hne
        · exact HN.out j (by omega))
      generalize hnm : fN k = nm at *
      clear hnm
      by_cases he : nm.toList = s.toList
      · have he2 : (nm.toList == s.toList) = true := by simpa using he
        have HI := Lib.hid (HAT.out he)
        clear HAT HNX HN
        go_wp2_with fail
        go_ret
        exact ⟨ret_bool (by rw [HI.out, decide_eq_true hlt]), HB.out⟩
      · have he2 : (nm.toList == s.toList) = false := by simpa using he
        have HNY := Lib.hid (HNX.out he)
        clear HAT HNX HN
        go_wp2_with fail
        go_roundw
        case rel => exact ⟨k + 1, by omega, by go_num, HB, HNM, HNY⟩
        case measure => simp [intOf] <;> omega
    · have hk9 : k = 9 := by omega
      subst hk9
      have HI := Lib.hid (fIx_no HN.out)
      go_wp2_with fail
      go_ret
      exact ⟨ret_bool (by rw [HI.out]; rfl), HB.out⟩
set_option maxHeartbeats 3200000 in
theorem r8_values (s : ByteArray) (w : World) : Calls Tryz.prog 50 #[.string s] w fun e w' => ∃ v, e = .returned v ∧ Below w.heap.size w w' ∧ VRow w.heap.size w' (fIx s) v := by
  rcases nm_cases s with ⟨k, hk, hi, hs⟩ | ⟨hi, hn⟩
  · rw [hi]
    have HS := Lib.hid hs
    clear hs hi
    rcases (show k = 0 ∨ k = 1 ∨ k = 2 ∨ k = 3 ∨ k = 4 ∨ k = 5 ∨ k = 6 ∨ k = 7 ∨ k = 8 by omega) with rfl | rfl | rfl | rfl | rfl | rfl | rfl | rfl | rfl
    · have q1 : (s.toList == [99, 104, 97, 114, 95, 99, 111, 110, 118, 101, 114, 115, 105, 111, 110]) = false := by rw [HS.out]; kernel_rfl
      have q2 : (s.toList == [100, 101, 98, 117, 103]) = false := by rw [HS.out]; kernel_rfl
      have q3 : (s.toList == [100, 111, 117, 98, 108, 101, 95, 113, 117, 111, 116, 101, 115]) = false := by rw [HS.out]; kernel_rfl
      have q8 : (s.toList == [117, 110, 107, 110, 111, 119, 110]) = false := by rw [HS.out]; kernel_rfl
      clear HS
      go_enter Tryz.func50, Tryz.ntmps50
      go_wp2_with fail
      go_ret
      exact ⟨_, rfl, Below.refl _ _, .inl ⟨rfl, rfl⟩⟩
    · have q1 : (s.toList == [99, 104, 97, 114, 95, 99, 111, 110, 118, 101, 114, 115, 105, 111, 110]) = true := by rw [HS.out]; kernel_rfl
      have q2 : (s.toList == [100, 101, 98, 117, 103]) = false := by rw [HS.out]; kernel_rfl
      have q3 : (s.toList == [100, 111, 117, 98, 108, 101, 95, 113, 117, 111, 116, 101, 115]) = false := by rw [HS.out]; kernel_rfl
      have q8 : (s.toList == [117, 110, 107, 110, 111, 119, 110]) = false := by rw [HS.out]; kernel_rfl
      clear HS
      have hB := (Below.refl w.heap.size w).alloc (Nat.le_refl _) (.cells #[.string ⟨#[111, 102, 102]⟩, .string ⟨#[111, 110]⟩] 9)
      have hV : VRow w.heap.size (w.alloc (.cells #[.string ⟨#[111, 102, 102]⟩, .string ⟨#[111, 110]⟩] 9)) 1 (.slice (some ⟨w.heap.size, 0, none⟩) 2 2) := .inr ⟨w.heap.size, Nat.le_refl _, rfl, by decide, by simp, fun j hj => by
        have hj : j < 2 := hj
        rw [World.cell?_alloc_new]
        rcases (show j = 0 ∨ j = 1 by omega) with rfl | rfl <;> rfl⟩
      have HV := Lib.hid hV
      clear hV
      go_enter Tryz.func50, Tryz.ntmps50
      go_wp2_with fail
      go_ret
      exact ⟨_, rfl, hB, HV.out⟩
    · have q1 : (s.toList == [99, 104, 97, 114, 95, 99, 111, 110, 118, 101, 114, 115, 105, 111, 110]) = false := by rw [HS.out]; kernel_rfl
      have q2 : (s.toList == [100, 101, 98, 117, 103]) = true := by rw [HS.out]; kernel_rfl
      have q3 : (s.toList == [100, 111, 117, 98, 108, 101, 95, 113, 117, 111, 116, 101, 115]) = false := by rw [HS.out]; kernel_rfl
      have q8 : (s.toList == [117, 110, 107, 110, 111, 119, 110]) = false := by rw [HS.out]; kernel_rfl
      clear HS
      have hB := (Below.refl w.heap.size w).alloc (Nat.le_refl _) (.cells #[.string ⟨#[111, 102, 102]⟩, .string ⟨#[111, 110]⟩] 9)
      have hV : VRow w.heap.size (w.alloc (.cells #[.string ⟨#[111, 102, 102]⟩, .string ⟨#[111, 110]⟩] 9)) 2 (.slice (some ⟨w.heap.size, 0, none⟩) 2 2) := .inr ⟨w.heap.size, Nat.le_refl _, rfl, by decide, by simp, fun j hj => by
        have hj : j < 2 := hj
        rw [World.cell?_alloc_new]
        rcases (show j = 0 ∨ j = 1 by omega) with rfl | rfl <;> rfl⟩
      have HV := Lib.hid hV
      clear hV
      go_enter Tryz.func50, Tryz.ntmps50
      go_wp2_with fail
      go_ret
      exact ⟨_, rfl, hB, HV.out⟩
    · have q1 : (s.toList == [99, 104, 97, 114, 95, 99, 111, 110, 118, 101, 114, 115, 105, 111, 110]) = false := by rw [HS.out]; kernel_rfl
      have q2 : (s.toList == [100, 101, 98, 117, 103]) = false := by rw [HS.out]; kernel_rfl
      have q3 : (s.toList == [100, 111, 117, 98, 108, 101, 95, 113, 117, 111, 116, 101, 115]) = true := by rw [HS.out]; kernel_rfl
      have q8 : (s.toList == [117, 110, 107, 110, 111, 119, 110]) = false := by rw [HS.out]; kernel_rfl
      clear HS
      have hB := (Below.refl w.heap.size w).alloc (Nat.le_refl _) (.cells #[.string ⟨#[99, 111, 100, 101, 115]⟩, .string ⟨#[99, 104, 97, 114, 115]⟩, .string ⟨#[97, 116, 111, 109]⟩] 9)
      have hV : VRow w.heap.size (w.alloc (.cells #[.string ⟨#[99, 111, 100, 101, 115]⟩, .string ⟨#[99, 104, 97, 114, 115]⟩, .string ⟨#[97, 116, 111, 109]⟩] 9)) 3 (.slice (some ⟨w.heap.size, 0, none⟩) 3 3) := .inr ⟨w.heap.size, Nat.le_refl _, rfl, by decide, by simp, fun j hj => by
        have hj : j < 3 := hj
        rw [World.cell?_alloc_new]
        rcases (show j = 0 ∨ j = 1 ∨ j = 2 by omega) with rfl | rfl | rfl <;> rfl⟩
      have HV := Lib.hid hV
      clear hV
      go_enter Tryz.func50, Tryz.ntmps50
      go_wp2_with fail
      go_ret
      exact ⟨_, rfl, hB, HV.out⟩
    · have q1 : (s.toList == [99, 104, 97, 114, 95, 99, 111, 110, 118, 101, 114, 115, 105, 111, 110]) = false := by rw [HS.out]; kernel_rfl
      have q2 : (s.toList == [100, 101, 98, 117, 103]) = false := by rw [HS.out]; kernel_rfl
      have q3 : (s.toList == [100, 111, 117, 98, 108, 101, 95, 113, 117, 111, 116, 101, 115]) = false := by rw [HS.out]; kernel_rfl
      have q8 : (s.toList == [117, 110, 107, 110, 111, 119, 110]) = false := by rw [HS.out]; kernel_rfl
      clear HS
      go_enter Tryz.func50, Tryz.ntmps50
      go_wp2_with fail
      go_ret
      exact ⟨_, rfl, Below.refl _ _, .inl ⟨rfl, rfl⟩⟩
    · have q1 : (s.toList == [99, 104, 97, 114, 95, 99, 111, 110, 118, 101, 114, 115, 105, 111, 110]) = false := by rw [HS.out]; kernel_rfl
      have q2 : (s.toList == [100, 101, 98, 117, 103]) = false := by rw [HS.out]; kernel_rfl
      have q3 : (s.toList == [100, 111, 117, 98, 108, 101, 95, 113, 117, 111, 116, 101, 115]) = false := by rw [HS.out]; kernel_rfl
      have q8 : (s.toList == [117, 110, 107, 110, 111, 119, 110]) = false := by rw [HS.out]; kernel_rfl
      clear HS
      go_enter Tryz.func50, Tryz.ntmps50
      go_wp2_with fail
      go_ret
      exact ⟨_, rfl, Below.refl _ _, .inl ⟨rfl, rfl⟩⟩
    · have q1 : (s.toList == [99, 104, 97, 114, 95, 99, 111, 110, 118, 101, 114, 115, 105, 111, 110]) = false := by rw [HS.out]; kernel_rfl
      have q2 : (s.toList == [100, 101, 98, 117, 103]) = false := by rw [HS.out]; kernel_rfl
      have q3 : (s.toList == [100, 111, 117, 98, 108, 101, 95, 113, 117, 111, 116, 101, 115]) = false := by rw [HS.out]; kernel_rfl
      have q8 : (s.toList == [117, 110, 107, 110, 111, 119, 110]) = false := by rw [HS.out]; kernel_rfl
      clear HS
      go_enter Tryz.func50, Tryz.ntmps50
      go_wp2_with fail
      go_ret
      exact ⟨_, rfl, Below.refl _ _, .inl ⟨rfl, rfl⟩⟩
    · have q1 : (s.toList == [99, 104, 97, 114, 95, 99, 111, 110, 118, 101, 114, 115, 105, 111, 110]) = false := by rw [HS.out]; kernel_rfl
      have q2 : (s.toList == [100, 101, 98, 117, 103]) = false := by rw [HS.out]; kernel_rfl
      have q3 : (s.toList == [100, 111, 117, 98, 108, 101, 95, 113, 117, 111, 116, 101, 115]) = false := by rw [HS.out]; kernel_rfl
      have q8 : (s.toList == [117, 110, 107, 110, 111, 119, 110]) = false := by rw [HS.out]; kernel_rfl
      clear HS
      go_enter Tryz.func50, Tryz.ntmps50
      go_wp2_with fail
      go_ret
      exact ⟨_, rfl, Below.refl _ _, .inl ⟨rfl, rfl⟩⟩
    · have q1 : (s.toList == [99, 104, 97, 114, 95, 99, 111, 110, 118, 101, 114, 115, 105, 111, 110]) = false := by rw [HS.out]; kernel_rfl
      have q2 : (s.toList == [100, 101, 98, 117, 103]) = false := by rw [HS.out]; kernel_rfl
      have q3 : (s.toList == [100, 111, 117, 98, 108, 101, 95, 113, 117, 111, 116, 101, 115]) = false := by rw [HS.out]; kernel_rfl
      have q8 : (s.toList == [117, 110, 107, 110, 111, 119, 110]) = true := by rw [HS.out]; kernel_rfl
      clear HS
      have hB := (Below.refl w.heap.size w).alloc (Nat.le_refl _) (.cells #[.string ⟨#[101, 114, 114, 111, 114]⟩, .string ⟨#[102, 97, 105, 108]⟩] 9)
      have hV : VRow w.heap.size (w.alloc (.cells #[.string ⟨#[101, 114, 114, 111, 114]⟩, .string ⟨#[102, 97, 105, 108]⟩] 9)) 8 (.slice (some ⟨w.heap.size, 0, none⟩) 2 2) := .inr ⟨w.heap.size, Nat.le_refl _, rfl, by decide, by simp, fun j hj => by
        have hj : j < 2 := hj
        rw [World.cell?_alloc_new]
        rcases (show j = 0 ∨ j = 1 by omega) with rfl | rfl <;> rfl⟩
      have HV := Lib.hid hV
      clear hV
      go_enter Tryz.func50, Tryz.ntmps50
      go_wp2_with fail
      go_ret
      exact ⟨_, rfl, hB, HV.out⟩
  · rw [hi]
    have HN := Lib.hid hn
    clear hn hi
    have q1 : (s.toList == [99, 104, 97, 114, 95, 99, 111, 110, 118, 101, 114, 115, 105, 111, 110]) = false := by
      have := HN.out 1 (by omega)
      rw [show (fN 1).toList = [99, 104, 97, 114, 95, 99, 111, 110, 118, 101, 114, 115, 105, 111, 110] by kernel_rfl] at this
      simpa using this
    have q2 : (s.toList == [100, 101, 98, 117, 103]) = false := by
      have := HN.out 2 (by omega)
      rw [show (fN 2).toList = [100, 101, 98, 117, 103] by kernel_rfl] at this
      simpa using this
    have q3 : (s.toList == [100, 111, 117, 98, 108, 101, 95, 113, 117, 111, 116, 101, 115]) = false := by
      have := HN.out 3 (by omega)
      rw [show (fN 3).toList = [100, 111, 117, 98, 108, 101, 95, 113, 117, 111, 116, 101, 115] by kernel_rfl] at this
      simpa using this
    have q8 : (s.toList == [117, 110, 107, 110, 111, 119, 110]) = false := by
      have := HN.out 8 (by omega)
      rw [show (fN 8).toList = [117, 110, 107, 110, 111, 119, 110] by kernel_rfl] at this
      simpa using this
    clear HN
    go_enter Tryz.func50, Tryz.ntmps50
    go_wp2_with fail
    go_ret
    exact ⟨_, rfl, Below.refl _ _, .inl ⟨rfl, rfl⟩⟩
set_option maxHeartbeats 3200000 in
theorem r8_position (f : FlR) (s : ByteArray) (k : Nat) (hk : k = 1 ∨ k = 2 ∨ k = 3 ∨ k = 8) (hs : s.toList = (fN k).toList) (hf : flOk f = true) (w : World) : Calls Tryz.prog 51 #[.agg #[.int .i64 f.q, .int .i64 f.u, .bool f.c, .bool f.d], .string s] w fun e w' => e = .returned (.int .i64 (fGet f k)) ∧ Below w.heap.size w w' := by
  have HS := Lib.hid hs
  have hB := (Below.refl w.heap.size w).alloc (Nat.le_refl _) (.cells #[.int .i64 f.q, .int .i64 f.u, .bool f.c, .bool f.d] 23)
  have hq : 1 ≤ f.q ∧ f.q ≤ 3 ∧ 1 ≤ f.u ∧ f.u ≤ 2 := by
    obtain ⟨c, d, h⟩ := flOk_cases hf
    rcases h with rfl | rfl | rfl | rfl | rfl | rfl <;> simp
  obtain ⟨h1, h2, h3, h4⟩ := hq
  clear hs hf
  rcases hk with rfl | rfl | rfl | rfl
  · have q1 : (s.toList == [99, 104, 97, 114, 95, 99, 111, 110, 118, 101, 114, 115, 105, 111, 110]) = true := by rw [HS.out]; kernel_rfl
    have q2 : (s.toList == [100, 101, 98, 117, 103]) = false := by rw [HS.out]; kernel_rfl
    have q3 : (s.toList == [100, 111, 117, 98, 108, 101, 95, 113, 117, 111, 116, 101, 115]) = false := by rw [HS.out]; kernel_rfl
    have q8 : (s.toList == [117, 110, 107, 110, 111, 119, 110]) = false := by rw [HS.out]; kernel_rfl
    have HG : Hid (fGet f 1 = (if f.c = true then 1 else 0)) := Lib.hid rfl
    clear HS
    generalize fGet f 1 = gv at *
    generalize f.q = q at *
    generalize f.u = u at *
    generalize f.c = cc at *
    generalize f.d = dd at *
    cases cc
    all_goals
      go_enter Tryz.func51, Tryz.ntmps51
      go_wp2_with fail
      go_ret
      exact ⟨by rw [HG.out]; rfl, hB⟩
  · have q1 : (s.toList == [99, 104, 97, 114, 95, 99, 111, 110, 118, 101, 114, 115, 105, 111, 110]) = false := by rw [HS.out]; kernel_rfl
    have q2 : (s.toList == [100, 101, 98, 117, 103]) = true := by rw [HS.out]; kernel_rfl
    have q3 : (s.toList == [100, 111, 117, 98, 108, 101, 95, 113, 117, 111, 116, 101, 115]) = false := by rw [HS.out]; kernel_rfl
    have q8 : (s.toList == [117, 110, 107, 110, 111, 119, 110]) = false := by rw [HS.out]; kernel_rfl
    have HG : Hid (fGet f 2 = (if f.d = true then 1 else 0)) := Lib.hid rfl
    clear HS
    generalize fGet f 2 = gv at *
    generalize f.q = q at *
    generalize f.u = u at *
    generalize f.c = cc at *
    generalize f.d = dd at *
    cases dd
    all_goals
      go_enter Tryz.func51, Tryz.ntmps51
      go_wp2_with fail
      go_ret
      exact ⟨by rw [HG.out]; rfl, hB⟩
  · have q1 : (s.toList == [99, 104, 97, 114, 95, 99, 111, 110, 118, 101, 114, 115, 105, 111, 110]) = false := by rw [HS.out]; kernel_rfl
    have q2 : (s.toList == [100, 101, 98, 117, 103]) = false := by rw [HS.out]; kernel_rfl
    have q3 : (s.toList == [100, 111, 117, 98, 108, 101, 95, 113, 117, 111, 116, 101, 115]) = true := by rw [HS.out]; kernel_rfl
    have q8 : (s.toList == [117, 110, 107, 110, 111, 119, 110]) = false := by rw [HS.out]; kernel_rfl
    have HG : Hid (fGet f 3 = f.q - 1) := Lib.hid rfl
    clear HS
    generalize fGet f 3 = gv at *
    generalize f.q = q at *
    generalize f.u = u at *
    generalize f.c = cc at *
    generalize f.d = dd at *
    go_enter Tryz.func51, Tryz.ntmps51
    go_wp2_with fail
    go_ret
    exact ⟨by rw [HG.out] <;> go_num, hB⟩
  · have q1 : (s.toList == [99, 104, 97, 114, 95, 99, 111, 110, 118, 101, 114, 115, 105, 111, 110]) = false := by rw [HS.out]; kernel_rfl
    have q2 : (s.toList == [100, 101, 98, 117, 103]) = false := by rw [HS.out]; kernel_rfl
    have q3 : (s.toList == [100, 111, 117, 98, 108, 101, 95, 113, 117, 111, 116, 101, 115]) = false := by rw [HS.out]; kernel_rfl
    have q8 : (s.toList == [117, 110, 107, 110, 111, 119, 110]) = true := by rw [HS.out]; kernel_rfl
    have HG : Hid (fGet f 8 = f.u - 1) := Lib.hid rfl
    clear HS
    generalize fGet f 8 = gv at *
    generalize f.q = q at *
    generalize f.u = u at *
    generalize f.c = cc at *
    generalize f.d = dd at *
    go_enter Tryz.func51, Tryz.ntmps51
    go_wp2_with fail
    go_ret
    exact ⟨by rw [HG.out] <;> go_num, hB⟩
end Go.Proofs.YtfkhcpeahdkafaaGreat
