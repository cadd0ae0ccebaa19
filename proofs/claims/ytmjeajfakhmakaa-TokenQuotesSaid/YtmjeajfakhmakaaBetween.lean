/- Contracts: between of the law's package. -/
import Derived.Test.YtmjeajfakhmakaaQuoS
import Derived.Test.YtmjeajfakhmakaaChars3
import Derived.Test.YtmjeajfakhmakaaRef3
import Derived.Lib.AppendStr
namespace Hb
open Go Go.RowKit
theorem own_grown {w w' W : World} {base e size : Nat} {v : Value} {n : Nat} {xs : List Value} (hown : w.ownsRow base e size v n xs) (hB : Below base W w) (hg : w.grownBy w' v.ownBlock) (hb : base ≤ w.heap.size) : Below base W w' := by
  refine hB.grown hg hb ?_
  intro k hk
  rcases hown.2 with ⟨rfl, _⟩ | ⟨g, cap, cur, rfl, hbg, _⟩
  · simp [Value.ownBlock] at hk
  · simp [Value.ownBlock] at hk; omega
theorem own_lit1 (w : World) (e : TypeId) (c : UInt8) (x : Int) (hx : x = (c.toNat : Int)) : (w.alloc (.cells #[.int .u8 x] e)).ownsRow w.heap.size e 1 (.slice (some ⟨w.heap.size, 0, none⟩) 1 1) 1 (byteCells [c]) := by
  subst hx
  exact ⟨by simp [byteCells], .inr ⟨w.heap.size, 1, #[.int .u8 (c.toNat : Int)], rfl, Nat.le_refl _, by show (w.heap.push _)[w.heap.size]? = _; simp, Nat.le_refl _, by unfold maxLen; omega, by simp, by simp [byteCells]⟩⟩
theorem esc_len (c : Int) : (esc c).length ≤ 5 := by
  unfold esc; repeat' split
  all_goals simp
theorem strCells_bytes (l : List UInt8) : Go.Lib.strCells ⟨l.toArray⟩ = byteCells l := by
  unfold Go.Lib.strCells byteCells; simp
theorem byteCells_app (a b : List UInt8) : byteCells (a ++ b) = byteCells a ++ byteCells b := by simp [byteCells]
theorem btws_step (q : Int) (l : List UInt8) (k : Nat) (hk : k < l.length) : btws q (l.take (k + 1)) = btws q (l.take k) ++ ((if bAt l k = 34 ∧ q = 34 then [92] else []) ++ esc (bAt l k)) := by
  rw [List.take_succ_eq_append_getElem hk, btws_snoc]; unfold btw; rw [bAt_get _ _ hk]
end Hb
namespace Go.Proofs.Ytmjeajfakhmakaa
open Go.RowKit Hb
set_option maxRecDepth 100000

theorem at_app44 {ops : Array Oper} {rest : List Oper} {a : Act} {Q : Exit → Act → World → Prop} {w : World} {d t p f x g} (h : wpList Try.prog ops Q (⟨d, .call { callee := .builtin .append, args := x, argTypes := #[44, 44] }, t, p, f, g⟩ :: rest) a w) : wpList Try.prog ops Q (⟨d, .call { callee := .builtin .append, args := x, argTypes := #[44, 44] }, t, p, f, g⟩ :: rest) a w := h
theorem at_app49 {ops : Array Oper} {rest : List Oper} {a : Act} {Q : Exit → Act → World → Prop} {w : World} {d t p f x g} (h : wpList Try.prog ops Q (⟨d, .call { callee := .builtin .append, args := x, argTypes := #[44, 9] }, t, p, f, g⟩ :: rest) a w) : wpList Try.prog ops Q (⟨d, .call { callee := .builtin .append, args := x, argTypes := #[44, 9] }, t, p, f, g⟩ :: rest) a w := h
set_option maxHeartbeats 1600000 in
theorem law_between_39 (s : ByteArray) (hs : s.size ≤ 1000) (w : World) :
    Calls Try.prog 19 #[.string s, .int .u8 39] w fun e w' => e = .returned (.string ⟨(39 :: (btws 39 s.data.toList ++ [39])).toArray⟩) ∧ Below w.heap.size w w' := by
  obtain ⟨i, hi, hz0, hz1, hz2⟩ := info_parts infoU8
  have HI := Lib.hid hi
  have HZ0 := Lib.hid hz0
  have HZ1 := Lib.hid hz1
  have HZ2 := Lib.hid hz2
  have HSZ : Hid (s.data.toList.length = s.size) := size_data s
  clear hi hz0 hz1 hz2
  go_enter Try.func19, Try.ntmps19
  go_wp2_with fail
  go_loopw [5, 6] (fun v i wr => ∃ k : Nat, ∃ acc : List UInt8, k ≤ s.size ∧ i = .int .i64 k ∧ acc.length ≤ 1 + 6 * k ∧ Below w.heap.size w wr ∧ wr.ownsRow w.heap.size 5 1 v acc.length (byteCells acc) ∧ Hid (acc = 39 :: btws 39 (s.data.toList.take k))) (fun _ i _ => s.size - (intOf i).toNat)
  case atStart => exact ⟨0, [39], Nat.zero_le _, rfl, by simp, (Below.refl _ _).alloc (Nat.le_refl _) _, own_lit1 w _ 39 _ rfl, rfl⟩
  case round =>
    obtain ⟨k, acc, hk, rfl, hal, hB, hown, HE⟩ := hrel
    have hbs := hB.size
    by_cases hlt : k < s.size
    · have hkl : k < s.data.toList.length := by rw [HSZ.out]; exact hlt
      have hb := bAt_mk s k hlt
      have hc0 := bAt_lo s.data.toList k
      have hc1 := bAt_hi s.data.toList k
      have hel := esc_len (bAt s.data.toList k)
      have HST := Lib.hid (btws_step 39 s.data.toList k hkl)
      have HES := Lib.hid (strCells_bytes (esc (bAt s.data.toList k)))
      have HEL : Hid ((⟨(esc (bAt s.data.toList k)).toArray⟩ : ByteArray).size = (esc (bAt s.data.toList k)).length) := by show _ = _; simp [ByteArray.size]
      by_cases c34 : bAt s.data.toList k = 34
      · have b34 : (bAt s.data.toList k == 34) = true := by simp [c34]
        have C34 := Lib.hid c34
        clear c34
        go_wp2_with fail
        refine (ref_escape _ _ hc0 hc1).mono ?_; rintro e w1 ⟨rfl, hB1⟩
        have hown1 := own_call hown hB1 (Nat.le_refl _)
        have hB2 := hB.trans (hB1.mono hbs)
        have hbs2 := hB2.size
        clear hown hB1
        go_wp2_with ((with_reducible refine at_app49 ?_); go_must (refine Lib.wpList_append_own_string _ rfl _ _ 44 9 rfl w.heap.size 5 i Try.underlying44 Try.underlying9 HI.out HZ0.out HZ1.out HZ2.out _ _ _ rfl hown1 ⟨(esc (bAt s.data.toList k)).toArray⟩ rfl (by rw [HEL.out]; unfold maxLen; omega) (by rw [HEL.out]; omega) hbs2 ?_; intro v4 w4 hown4 hg4 _; have hB4 := own_grown hown1 hB2 hg4 hbs2))
        rw [HES.out, HEL.out, ← byteCells_app] at hown4
        go_roundw
        case rel => exact ⟨k + 1, acc ++ esc (bAt s.data.toList k), by omega, by go_num, by simp; omega, hB4, by rw [List.length_append]; exact hown4, by show _ = _; rw [HST.out, if_neg (fun h => absurd h.2 (by decide)), HE.out]; simp⟩
        case measure => simp [intOf]; omega
      · have b34 : (bAt s.data.toList k == 34) = false := by simp [c34]
        have C34 := Lib.hid c34
        clear c34
        go_wp2_with fail
        refine (ref_escape _ _ hc0 hc1).mono ?_; rintro e w1 ⟨rfl, hB1⟩
        have hown1 := own_call hown hB1 (Nat.le_refl _)
        have hB2 := hB.trans (hB1.mono hbs)
        have hbs2 := hB2.size
        clear hown hB1
        go_wp2_with ((with_reducible refine at_app49 ?_); go_must (refine Lib.wpList_append_own_string _ rfl _ _ 44 9 rfl w.heap.size 5 i Try.underlying44 Try.underlying9 HI.out HZ0.out HZ1.out HZ2.out _ _ _ rfl hown1 ⟨(esc (bAt s.data.toList k)).toArray⟩ rfl (by rw [HEL.out]; unfold maxLen; omega) (by rw [HEL.out]; omega) hbs2 ?_; intro v4 w4 hown4 hg4 _; have hB4 := own_grown hown1 hB2 hg4 hbs2))
        rw [HES.out, HEL.out, ← byteCells_app] at hown4
        go_roundw
        case rel => exact ⟨k + 1, acc ++ esc (bAt s.data.toList k), by omega, by go_num, by simp; omega, hB4, by rw [List.length_append]; exact hown4, by show _ = _; rw [HST.out, if_neg (fun h => C34.out h.1), HE.out]; simp⟩
        case measure => simp [intOf]; omega
    · obtain rfl : k = s.size := by omega
      have HTk := Lib.hid (show s.data.toList.take s.size = s.data.toList from List.take_of_length_le (by rw [HSZ.out]; exact Nat.le_refl _))
      go_wp2_with ((with_reducible refine at_app44 ?_); go_must (refine wpList_append_byte rfl _ _ 44 5 rfl Try.underlying44 infoU8 w.heap.size _ _ _ rfl _ hown 39 (by decide) (by decide) rfl rfl (by omega) (by omega) ?_; intro v1 w3 hown3 hB3; have hc := conv_own (P := Try.prog) w3 44 9 5 Try.underlying44 Try.underlying5 Try.underlying9 _ _ _ _ hown3))
      go_ret
      exact ⟨ret_str (by rw [HE.out, HTk.out]; simp), hB.trans hB3⟩
set_option maxHeartbeats 1600000 in
theorem law_between_34 (s : ByteArray) (hs : s.size ≤ 1000) (w : World) :
    Calls Try.prog 19 #[.string s, .int .u8 34] w fun e w' => e = .returned (.string ⟨(34 :: (btws 34 s.data.toList ++ [34])).toArray⟩) ∧ Below w.heap.size w w' := by
  obtain ⟨i, hi, hz0, hz1, hz2⟩ := info_parts infoU8
  have HI := Lib.hid hi
  have HZ0 := Lib.hid hz0
  have HZ1 := Lib.hid hz1
  have HZ2 := Lib.hid hz2
  have HSZ : Hid (s.data.toList.length = s.size) := size_data s
  clear hi hz0 hz1 hz2
  go_enter Try.func19, Try.ntmps19
  go_wp2_with fail
  go_loopw [5, 6] (fun v i wr => ∃ k : Nat, ∃ acc : List UInt8, k ≤ s.size ∧ i = .int .i64 k ∧ acc.length ≤ 1 + 6 * k ∧ Below w.heap.size w wr ∧ wr.ownsRow w.heap.size 5 1 v acc.length (byteCells acc) ∧ Hid (acc = 34 :: btws 34 (s.data.toList.take k))) (fun _ i _ => s.size - (intOf i).toNat)
  case atStart => exact ⟨0, [34], Nat.zero_le _, rfl, by simp, (Below.refl _ _).alloc (Nat.le_refl _) _, own_lit1 w _ 34 _ rfl, rfl⟩
  case round =>
    obtain ⟨k, acc, hk, rfl, hal, hB, hown, HE⟩ := hrel
    have hbs := hB.size
    by_cases hlt : k < s.size
    · have hkl : k < s.data.toList.length := by rw [HSZ.out]; exact hlt
      have hb := bAt_mk s k hlt
      have hc0 := bAt_lo s.data.toList k
      have hc1 := bAt_hi s.data.toList k
      have hel := esc_len (bAt s.data.toList k)
      have HST := Lib.hid (btws_step 34 s.data.toList k hkl)
      have HES := Lib.hid (strCells_bytes (esc (bAt s.data.toList k)))
      have HEL : Hid ((⟨(esc (bAt s.data.toList k)).toArray⟩ : ByteArray).size = (esc (bAt s.data.toList k)).length) := by show _ = _; simp [ByteArray.size]
      by_cases c34 : bAt s.data.toList k = 34
      · have b34 : (bAt s.data.toList k == 34) = true := by simp [c34]
        have C34 := Lib.hid c34
        clear c34
        go_wp2_with fail
        refine (ref_escape _ _ hc0 hc1).mono ?_; rintro e w1 ⟨rfl, hB1⟩
        have hown1 := own_call hown hB1 (Nat.le_refl _)
        have hB2 := hB.trans (hB1.mono hbs)
        have hbs2 := hB2.size
        clear hown hB1
        have HLN : Hid ((acc ++ ([92] : List UInt8) ++ esc (bAt s.data.toList k)).length = acc.length + 1 + (esc (bAt s.data.toList k)).length) := by show _ = _; simp; omega
        go_wp2_with (first | ((with_reducible refine at_app44 ?_); go_must (refine wpList_append_byte rfl _ _ 44 5 rfl Try.underlying44 infoU8 w.heap.size _ _ _ rfl _ hown1 92 (by decide) (by decide) rfl rfl (by omega) (by omega) ?_; intro v1 w3 hown3 hB3; have hbs3 := Nat.le_trans hbs2 hB3.size)) | ((with_reducible refine at_app49 ?_); go_must (refine Lib.wpList_append_own_string _ rfl _ _ 44 9 rfl w.heap.size 5 i Try.underlying44 Try.underlying9 HI.out HZ0.out HZ1.out HZ2.out _ _ _ rfl hown3 ⟨(esc (bAt s.data.toList k)).toArray⟩ rfl (by rw [HEL.out]; unfold maxLen; omega) (by rw [HEL.out]; omega) hbs3 ?_; intro v4 w4 hown4 hg4 _; have hB4 := own_grown hown3 (hB2.trans hB3) hg4 hbs3)))
        rw [HES.out, HEL.out, ← byteCells_app] at hown4
        go_roundw
        case rel => exact ⟨k + 1, acc ++ [92] ++ esc (bAt s.data.toList k), by omega, by go_num, by simp; omega, hB4, by rw [HLN.out]; exact hown4, by show _ = _; rw [HST.out, if_pos ⟨C34.out, by first | rfl | trivial⟩, HE.out]; simp⟩
        case measure => simp [intOf]; omega
      · have b34 : (bAt s.data.toList k == 34) = false := by simp [c34]
        have C34 := Lib.hid c34
        clear c34
        go_wp2_with fail
        refine (ref_escape _ _ hc0 hc1).mono ?_; rintro e w1 ⟨rfl, hB1⟩
        have hown1 := own_call hown hB1 (Nat.le_refl _)
        have hB2 := hB.trans (hB1.mono hbs)
        have hbs2 := hB2.size
        clear hown hB1
        go_wp2_with ((with_reducible refine at_app49 ?_); go_must (refine Lib.wpList_append_own_string _ rfl _ _ 44 9 rfl w.heap.size 5 i Try.underlying44 Try.underlying9 HI.out HZ0.out HZ1.out HZ2.out _ _ _ rfl hown1 ⟨(esc (bAt s.data.toList k)).toArray⟩ rfl (by rw [HEL.out]; unfold maxLen; omega) (by rw [HEL.out]; omega) hbs2 ?_; intro v4 w4 hown4 hg4 _; have hB4 := own_grown hown1 hB2 hg4 hbs2))
        rw [HES.out, HEL.out, ← byteCells_app] at hown4
        go_roundw
        case rel => exact ⟨k + 1, acc ++ esc (bAt s.data.toList k), by omega, by go_num, by simp; omega, hB4, by rw [List.length_append]; exact hown4, by show _ = _; rw [HST.out, if_neg (fun h => C34.out h.1), HE.out]; simp⟩
        case measure => simp [intOf]; omega
    · obtain rfl : k = s.size := by omega
      have HTk := Lib.hid (show s.data.toList.take s.size = s.data.toList from List.take_of_length_le (by rw [HSZ.out]; exact Nat.le_refl _))
      go_wp2_with ((with_reducible refine at_app44 ?_); go_must (refine wpList_append_byte rfl _ _ 44 5 rfl Try.underlying44 infoU8 w.heap.size _ _ _ rfl _ hown 34 (by decide) (by decide) rfl rfl (by omega) (by omega) ?_; intro v1 w3 hown3 hB3; have hc := conv_own (P := Try.prog) w3 44 9 5 Try.underlying44 Try.underlying5 Try.underlying9 _ _ _ _ hown3))
      go_ret
      exact ⟨ret_str (by rw [HE.out, HTk.out]; simp), hB.trans hB3⟩
end Go.Proofs.Ytmjeajfakhmakaa
