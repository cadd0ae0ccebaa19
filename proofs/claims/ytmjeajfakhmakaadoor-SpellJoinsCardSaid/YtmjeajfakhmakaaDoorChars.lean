/- Contracts of layer 1: classes, digits, escapes; the reference's too. -/
import Derived.Test.YtmjeajfakhmakaaDoorProg
import Derived.Test.YtmjeajfakhmakaaDoorPlain
import Derived.Test.YtmjeajfakhmakaaDoorBase
import Derived.Lib.Bytealg
namespace Go.Proofs.YtmjeajfakhmakaaDoor
open Go.RowKit Hb

set_option maxHeartbeats 400000 in
theorem chars_is (c : Int) (w : World) :
    Calls Tryd.prog 51 #[.int .i64 c] w fun e w' => e = .returned (.bool (isCh c)) ∧ w = w' := by
  by_cases h1 : 0 ≤ c
  · go_enter Tryd.func51, Tryd.ntmps51
    go_wp2
    go_ret
    exact ⟨by simp [isCh, h1], rfl⟩
  · go_enter Tryd.func51, Tryd.ntmps51
    go_wp2
    go_ret
    exact ⟨by simp [isCh]; omega, rfl⟩

set_option maxHeartbeats 400000 in
theorem ref_is (c : Int) (w : World) :
    Calls Tryd.prog 47 #[.int .i64 c] w fun e w' => e = .returned (.bool (isCh c)) ∧ w = w' := by
  by_cases h1 : 0 ≤ c
  · go_enter Tryd.func47, Tryd.ntmps47
    go_wp2
    go_ret
    exact ⟨by simp [isCh, h1], rfl⟩
  · go_enter Tryd.func47, Tryd.ntmps47
    go_wp2
    go_ret
    exact ⟨by simp [isCh]; omega, rfl⟩

set_option maxHeartbeats 400000 in
theorem ref_among (s : ByteArray) (c : Int) (w : World) (hs : s.size ≤ maxLen) :
    Calls Tryd.prog 58 #[.string s, .int .i64 c] w fun e w' => e = .returned (.bool (among s.data.toList c)) ∧ w = w' := by
  unfold maxLen at hs
  go_enter Tryd.func58, Tryd.ntmps58
  go_wp2
  go_loop [5] (fun i => ∃ k : Nat, k ≤ s.size ∧ i = .int .i64 k ∧ among (s.data.toList.take k) c = false) (fun i => s.size - (intOf i).toNat)
  case atStart => exact ⟨0, Nat.zero_le _, rfl, rfl⟩
  case round =>
    obtain ⟨k, hk, rfl, hf⟩ := hrel
    have Hf := Lib.hid hf
    clear hf
    by_cases hlt : k < s.size
    · have hb := bAt_mk s k hlt
      have hb0 := bAt_lo s.data.toList k
      have hb1 := bAt_hi s.data.toList k
      have Hs := Lib.hid (among_snoc s.data.toList k c (by simpa using hlt))
      by_cases he : bAt s.data.toList k = c
      · have Hr := Lib.hid (among_stop s.data.toList k c (by simpa using hlt) he)
        have he' : (bAt s.data.toList k == c) = true := by simp [he]
        have He := Lib.hid he
        clear he
        go_wp2
        go_ret
        exact ⟨by rw [Hr.out]; rfl, rfl⟩
      · have he' : (bAt s.data.toList k == c) = false := by simp [he]
        clear he
        go_wp2
        go_round
        case rel => exact ⟨k + 1, by omega, by go_num, by rw [Hs.out, Hf.out, he']; rfl⟩
        case measure => simp [intOf]; omega
    · have Hr := Lib.hid (among_all s.data.toList k c (by simpa using hlt) Hf.out)
      go_wp2
      go_ret
      exact ⟨by rw [Hr.out]; rfl, rfl⟩

set_option maxHeartbeats 1000000 in
theorem ref_class (c : Int) (w : World) :
    Calls Tryd.prog 43 #[.int .i64 c] w fun e w' => e = .returned (.int .i64 (cls c)) ∧ w = w' := by
  go_enter Tryd.func43, Tryd.ntmps43
  go_wp2_with (first | (go_at_call 47; refine (ref_is _ _).mono ?_; rintro e w' ⟨rfl, rfl⟩) | (go_at_call 58; refine (ref_among _ _ _ (by decide)).mono ?_; rintro e w' ⟨rfl, rfl⟩))
  all_goals (go_ret; exact ⟨ret_int (by grind [cls, isCh]), rfl⟩)

theorem call_indexByteString (s : ByteArray) (c : Int) (w : World) : (callFunc 85 #[.string s, .int .u8 c]).run Tryd.prog w = .ok (.value (.int .i64 (Lib.indexByte s.data.toList c.toNat.toUInt8))) w := by
  rw [run_callFunc_extern Tryd.func85 (by kernel_rfl) (by kernel_rfl) (by kernel_rfl) (e := Extern.BytealgIndexByte.indexByte) (by kernel_rfl), Lib.run_indexByteString]
  rfl

set_option maxHeartbeats 400000 in
theorem lite_indexByte (s : ByteArray) (c : Int) (w : World) :
    Calls Tryd.prog 69 #[.string s, .int .u8 c] w fun e w' => e = .returned (.int .i64 (Lib.indexByte s.data.toList c.toNat.toUInt8)) ∧ w = w' := by
  have hx := call_indexByteString s c
  go_enter Tryd.func69, Tryd.ntmps69
  go_wp2
  go_ret
  exact ⟨rfl, rfl⟩

set_option maxHeartbeats 400000 in
theorem strings_indexByte (s : ByteArray) (c : Int) (w : World) :
    Calls Tryd.prog 54 #[.string s, .int .u8 c] w fun e w' => e = .returned (.int .i64 (Lib.indexByte s.data.toList c.toNat.toUInt8)) ∧ w = w' := by
  go_enter Tryd.func54, Tryd.ntmps54
  go_wp2_with (go_at_call 69; refine (lite_indexByte _ _ _).mono ?_; rintro e w' ⟨rfl, rfl⟩)
  go_ret
  exact ⟨rfl, rfl⟩

theorem indexByte_among (c : Int) (h0 : 0 ≤ c) (h1 : c ≤ 255) : ∀ l : List UInt8, decide (0 ≤ Lib.indexByte l c.toNat.toUInt8) = among l c
  | [] => rfl
  | b :: l => by
    have ih := indexByte_among c h0 h1 l
    have hge := Lib.indexByte_ge l c.toNat.toUInt8
    have hb : (b == c.toNat.toUInt8) = ((b.toNat : Int) == c) := by
      rw [Bool.eq_iff_iff, beq_iff_eq, beq_iff_eq]
      constructor
      · rintro rfl; simp; omega
      · intro h; subst h; simp
    unfold Lib.indexByte among
    rw [List.any_cons, hb]
    unfold among at ih
    rw [← ih]
    by_cases hc : ((b.toNat : Int) == c) = true
    · simp [hc]
    · simp only [hc]
      by_cases hm : Lib.indexByte l c.toNat.toUInt8 = -1
      · simp [hm]
      · have : (Lib.indexByte l c.toNat.toUInt8 == -1) = false := by simp [hm]
        simp only [this, Bool.false_eq_true, if_false, Bool.false_or]
        rw [decide_eq_decide]; omega

set_option maxHeartbeats 400000 in
theorem class_closure (k c : Int) (s : ByteArray) (b o : Nat) (w : World) (hb : b < w.heap.size) (hp : w.cell? ⟨b, o, none⟩ = some (.int .i64 c)) (h0 : 0 ≤ c) (h1 : c ≤ 255) :
    Calls Tryd.prog 53 #[.agg #[.int .i64 k, .string s], .pointer (some ⟨b, o, none⟩)] w fun e w' => e = .returned (.bool (among s.data.toList c)) ∧ Below w.heap.size w w' := by
  have H := Lib.hid (indexByte_among c h0 h1 s.data.toList)
  go_enter Tryd.func53, Tryd.ntmps53
  go_wp2_with (go_at_call 54; refine (strings_indexByte _ _ _).mono ?_; rintro e w' ⟨rfl, rfl⟩)
  go_ret
  exact ⟨ret_bool H.out, (Below.refl _ _).alloc (Nat.le_refl _) _⟩

end Go.Proofs.YtmjeajfakhmakaaDoor
