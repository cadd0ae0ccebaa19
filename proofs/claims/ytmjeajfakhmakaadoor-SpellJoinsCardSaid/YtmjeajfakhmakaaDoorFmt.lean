/- Contracts of strconv: FormatInt in base 16 of a character. -/
import Derived.Test.YtmjeajfakhmakaaDoorChars3
import Derived.LoopN
import Derived.Laws.IdiomStrings
namespace Go.Proofs.YtmjeajfakhmakaaDoor
open Go.RowKit Hb
set_option maxRecDepth 100000

set_option maxHeartbeats 400000 in
theorem tz64 (w : World) (hT : w.cell? ⟨3, 15, none⟩ = some (.int .u8 4)) :
    Calls Tryd.prog 96 #[.int .u64 16] w fun e w' => e = .returned (.int .i64 4) ∧ w = w' := by
  have hx : IntKind.u64.wrap (bits BinOp.and IntKind.u64 16 (IntKind.u64.wrap (-16)) * 285870213051353865) / 288230376151711744 = 15 := by decide +kernel
  go_enter Tryd.func96, Tryd.ntmps96
  go_wp2
  go_ret
  exact ⟨rfl, rfl⟩
set_option maxHeartbeats 400000 in
theorem tz (w : World) (hT : w.cell? ⟨3, 15, none⟩ = some (.int .u8 4)) :
    Calls Tryd.prog 90 #[.int .u64 16] w fun e w' => e = .returned (.int .i64 4) ∧ w = w' := by
  go_enter Tryd.func90, Tryd.ntmps90
  go_wp2_with fail
  refine (tz64 _ hT).mono ?_; rintro e w1 ⟨rfl, rfl⟩
  go_wp2_with fail
  go_ret
  exact ⟨rfl, rfl⟩
set_option maxHeartbeats 400000 in
theorem pow2 (w : World) :
    Calls Tryd.prog 89 #[.int .i64 16] w fun e w' => e = .returned (.bool true) ∧ w = w' := by
  have hx : bits BinOp.and IntKind.i64 16 15 = 0 := by decide +kernel
  go_enter Tryd.func89, Tryd.ntmps89
  go_wp2_with fail
  go_ret
  exact ⟨rfl, rfl⟩
theorem conv_b1 (W : World) (b off : Nat) (x : UInt8) (h : W.cell? ⟨b, off, none⟩ = some (.int .u8 (x.toNat : Int))) :
    (convert 54 9 (.slice (some ⟨b, off, none⟩) 1 1)).run Tryd.prog W = .ok (.string ⟨#[x]⟩) W := by
  refine run_convert_bytes_back W 54 9 5 ⟨b, off, none⟩ 1 [x] Tryd.underlying54 Tryd.underlying5 Tryd.underlying9 fun j hj => ?_
  have : j = 0 := by simp at hj; omega
  subst this
  simpa [Addr.add] using h
theorem conv_b2 (W : World) (b off : Nat) (x y : UInt8) (h : W.cell? ⟨b, off, none⟩ = some (.int .u8 (x.toNat : Int))) (h2 : W.cell? ⟨b, off + 1, none⟩ = some (.int .u8 (y.toNat : Int))) :
    (convert 54 9 (.slice (some ⟨b, off, none⟩) 2 2)).run Tryd.prog W = .ok (.string ⟨#[x, y]⟩) W := by
  refine run_convert_bytes_back W 54 9 5 ⟨b, off, none⟩ 2 [x, y] Tryd.underlying54 Tryd.underlying5 Tryd.underlying9 fun j hj => ?_
  match j, hj with
  | 0, _ => simpa [Addr.add] using h
  | 1, _ => simpa [Addr.add] using h2
theorem digs16 : ∀ n : Nat, n < 16 → ∀ h : n < (ByteArray.mk #[48, 49, 50, 51, 52, 53, 54, 55, 56, 57, 97, 98, 99, 100, 101, 102, 103, 104, 105, 106, 107, 108, 109, 110, 111, 112, 113, 114, 115, 116, 117, 118, 119, 120, 121, 122]).size, ((ByteArray.mk #[48, 49, 50, 51, 52, 53, 54, 55, 56, 57, 97, 98, 99, 100, 101, 102, 103, 104, 105, 106, 107, 108, 109, 110, 111, 112, 113, 114, 115, 116, 117, 118, 119, 120, 121, 122])[n]'h).toNat = (hexd n).toNat := by decide +kernel
theorem and15 : ∀ n : Nat, n < 256 → bits BinOp.and IntKind.u64 (n : Int) 15 = ((n % 16 : Nat) : Int) := by decide +kernel
theorem zsize : Tryd.zeroCells109.size = 65 := by kernel_rfl
set_option maxHeartbeats 1000000 in
theorem fmtBits_lo (c : Int) (w : World) (h0 : 0 ≤ c) (h1 : c < 16) (hT : w.cell? ⟨3, 15, none⟩ = some (.int .u8 4)) (hg : 3 < w.heap.size) :
    Calls Tryd.prog 74 #[.slice none 0 0, .int .u64 c, .int .i64 16, .bool false, .bool false] w fun e w' => e = .returned (.tuple #[.slice none 0 0, .string ⟨#[hexd c.toNat]⟩]) ∧ Below w.heap.size w w' := by
  have hb : decide ((16 : Int) ≤ c) = false := by simp; omega
  go_enter Tryd.func74, Tryd.ntmps74
  go_wp2_with fail
  refine (pow2 _).mono ?_; rintro e w1 ⟨rfl, rfl⟩
  go_wp2_with fail
  refine (tz _ ?_).mono ?_
  · rw [World.cell?_alloc_lt _ _ _ (by simpa using hg)]; exact hT
  rintro e w1 ⟨rfl, rfl⟩
  go_wp2_with fail
  refine wp_loop_rounds 1 ?_
  rw [rounds_succ]
  go_wp2_with fail
  rw [conv_b1 _ _ _ (hexd c.toNat) (by
    rw [World.cell?_alloc_new, digs16 _ (by omega)]
    simp)]
  simp only [Result.andThen]
  rw [Oper.upon_value]
  go_wp2_with fail
  go_ret2
  exact ⟨rfl, (Below.refl _ _).alloc (Nat.le_refl _) _⟩
set_option maxHeartbeats 1000000 in
theorem fmtBits_hi (c : Int) (w : World) (h0 : 16 ≤ c) (h1 : c ≤ 255) (hT : w.cell? ⟨3, 15, none⟩ = some (.int .u8 4)) (hg : 3 < w.heap.size) :
    Calls Tryd.prog 74 #[.slice none 0 0, .int .u64 c, .int .i64 16, .bool false, .bool false] w fun e w' => e = .returned (.tuple #[.slice none 0 0, .string ⟨#[hexd (c.toNat / 16), hexd (c.toNat % 16)]⟩]) ∧ Below w.heap.size w w' := by
  have hb : decide ((16 : Int) ≤ c) = true := by simp; omega
  obtain ⟨n, rfl⟩ := Int.eq_ofNat_of_zero_le (show 0 ≤ c by omega)
  have hand := and15 n (by omega)
  have Hm := Lib.hid (show n % 16 < 16 from Nat.mod_lt _ (by decide))
  have hm := Hm.out
  generalize hd : n % 16 = d at *
  have Hd := Lib.hid hd
  clear hd
  have hq : (n : Int) / 16 = ((n / 16 : Nat) : Int) := by omega
  have hq2 : n / 16 < 16 := by omega
  have hb2 : decide ((16 : Int) ≤ ((n / 16 : Nat) : Int)) = false := by simp; omega
  generalize hx : n / 16 = q at *
  have Hx := Lib.hid hx
  clear hx
  go_enter Tryd.func74, Tryd.ntmps74
  go_wp2_with fail
  refine (pow2 _).mono ?_; rintro e w1 ⟨rfl, rfl⟩
  go_wp2_with fail
  refine (tz _ ?_).mono ?_
  · rw [World.cell?_alloc_lt _ _ _ (by simpa using hg)]; exact hT
  rintro e w1 ⟨rfl, rfl⟩
  go_wp2_with fail
  refine wp_loop_rounds 2 ?_
  rw [rounds_succ]
  go_wp2_with fail
  rw [rounds_succ]
  go_wp2_with fail
  rw [conv_b2 _ _ _ (hexd q) (hexd d) (by
    rw [World.cell?_alloc_new, digs16 q hq2]
    simp) (by
    rw [World.cell?_alloc_new, digs16 d hm]
    simp)]
  simp only [Result.andThen]
  rw [Oper.upon_value]
  go_wp2_with fail
  go_ret2
  exact ⟨ret_val (congrArg (fun l : Array UInt8 => Value.tuple #[.slice none 0 0, .string ⟨l⟩]) (by rw [Int.toNat_natCast, Hx.out, Hd.out])), (Below.refl _ _).alloc (Nat.le_refl _) _⟩
/-- A character's digits in base 16. -/
def hex2 (c : Int) : List UInt8 := if 16 ≤ c then [hexd (c.toNat / 16), hexd (c.toNat % 16)] else [hexd c.toNat]
theorem fmtBits (c : Int) (w : World) (h0 : 0 ≤ c) (h1 : c ≤ 255) (hT : w.cell? ⟨3, 15, none⟩ = some (.int .u8 4)) (hg : 3 < w.heap.size) :
    Calls Tryd.prog 74 #[.slice none 0 0, .int .u64 c, .int .i64 16, .bool false, .bool false] w fun e w' => e = .returned (.tuple #[.slice none 0 0, .string ⟨(hex2 c).toArray⟩]) ∧ Below w.heap.size w w' := by
  unfold hex2
  by_cases h : 16 ≤ c
  · rw [if_pos h]; exact fmtBits_hi c w h h1 hT hg
  · rw [if_neg h]; exact fmtBits_lo c w h0 (by omega) hT hg
set_option maxHeartbeats 400000 in
theorem int_fmt16 (c : Int) (w : World) (h0 : 0 ≤ c) (h1 : c ≤ 255) (hT : w.cell? ⟨3, 15, none⟩ = some (.int .u8 4)) (hg : 3 < w.heap.size) :
    Calls Tryd.prog 59 #[.int .i64 c, .int .i64 16] w fun e w' => e = .returned (.string ⟨(hex2 c).toArray⟩) ∧ Below w.heap.size w w' := by
  have hb : decide (c < 0) = false := by simp; omega
  go_enter Tryd.func59, Tryd.ntmps59
  go_wp2_with fail
  refine (fmtBits c _ h0 h1 hT hg).mono ?_; rintro e w1 ⟨rfl, hB1⟩
  go_wp2_with fail
  go_ret
  exact ⟨rfl, hB1⟩
set_option maxHeartbeats 400000 in
theorem fmt16 (c : Int) (w : World) (h0 : 0 ≤ c) (h1 : c ≤ 255) (hT : w.cell? ⟨3, 15, none⟩ = some (.int .u8 4)) (hg : 3 < w.heap.size) :
    Calls Tryd.prog 48 #[.int .i64 c, .int .i64 16] w fun e w' => e = .returned (.string ⟨(hex2 c).toArray⟩) ∧ Below w.heap.size w w' := by
  go_enter Tryd.func48, Tryd.ntmps48
  go_wp2_with fail
  refine (int_fmt16 c _ h0 h1 hT hg).mono ?_; rintro e w1 ⟨rfl, hB1⟩
  go_wp2_with fail
  go_ret
  exact ⟨rfl, hB1⟩
end Go.Proofs.YtmjeajfakhmakaaDoor
