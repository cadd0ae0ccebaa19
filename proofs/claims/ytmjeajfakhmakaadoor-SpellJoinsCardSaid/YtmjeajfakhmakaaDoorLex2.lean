/- Contracts of the lexer: parts, layout text. -/
import Derived.Test.YtmjeajfakhmakaaDoorLex1
namespace Go.Proofs.YtmjeajfakhmakaaDoor
open Go.RowKit Hb
set_option maxRecDepth 100000

theorem infoU8 : (Tryd.prog.info? 5).map (fun i => (i.zero, i.size, i.bytes)) = some (some (.int .u8 0), 1, 1) := by kernel_rfl
theorem take_snoc (l : List UInt8) (k : Nat) (h : k < l.length) : l.take (k + 1) = l.take k ++ [(bAt l k).toNat.toUInt8] := by
  rw [List.take_succ_eq_append_getElem h, ← bAt_get _ _ h]; simp
theorem take_drop_snoc (l : List UInt8) (i k : Nat) (h : i + k < l.length) : (l.drop i).take (k + 1) = (l.drop i).take k ++ [(bAt l (i + k)).toNat.toUInt8] := by
  rw [take_snoc _ _ (by simp; omega), bAt_drop]

set_option maxHeartbeats 800000 in
theorem lex_part (b : Nat) (s : ByteArray) (tab : Int → Int) (at_ i j : Int) (w : World) (h : Lex w b s tab at_) (h0 : 0 ≤ i) (h1 : i ≤ j) (h2 : j ≤ s.size) :
    Calls Tryd.prog 79 #[.pointer (some ⟨b, 0, none⟩), .int .i64 i, .int .i64 j] w fun e w' => e = .returned (.string ⟨(((cvt tab s.data.toList).drop i.toNat).take (j - i).toNat).toArray⟩) ∧ Below w.heap.size w w' := by
  obtain ⟨k0, rfl⟩ := Int.eq_ofNat_of_zero_le h0
  obtain ⟨n, hn⟩ := Int.eq_ofNat_of_zero_le (show 0 ≤ j - k0 by omega)
  obtain rfl : j = k0 + n := by omega
  have hsz := h.sz
  have HL := Lib.hid h
  have hlt0 := h.lt
  clear h hn
  rw [Int.toNat_natCast, show ((k0 : Int) + n - k0).toNat = n by omega]
  go_enter Tryd.func79, Tryd.ntmps79
  go_wp2
  go_loopw [7, 8] (fun v i wr => ∃ k : Nat, k ≤ n ∧ i = .int .i64 (k0 + k : Nat) ∧ Below w.heap.size w wr ∧ wr.ownsRow w.heap.size 5 1 v k (byteCells (((cvt tab s.data.toList).drop k0).take k))) (fun _ i _ => k0 + n - (intOf i).toNat)
  case atStart => exact ⟨0, Nat.zero_le _, rfl, Below.refl _ _, ⟨by simp [byteCells], .inl ⟨rfl, rfl⟩⟩⟩
  case round =>
    obtain ⟨k, hk, rfl, hB, hown⟩ := hrel
    have L := HL.out.below hB hlt0
    have c0 := L.c0
    have hs := hB.size
    by_cases hlt : k < n
    · have hkl : k0 + k < (cvt tab s.data.toList).length := by rw [cvt_len]; simp; omega
      have HR := Lib.hid (rawAt_in (cvt tab s.data.toList) (k0 + k) hkl)
      have HT := Lib.hid (take_drop_snoc (cvt tab s.data.toList) k0 k hkl)
      have hb0 := bAt_lo (cvt tab s.data.toList) (k0 + k)
      have hb1 := bAt_hi (cvt tab s.data.toList) (k0 + k)
      go_wp2_with (first | (go_at_call 68; refine (lex_char _ _ _ _ _ _ L (by omega)).mono ?_; rintro e w1 ⟨rfl, hB1⟩; rw [show ((k0 : Int) + k).toNat = k0 + k by omega, HR.out]) | (at_builtin; go_must (refine wpList_append_byte rfl _ _ 54 5 rfl Tryd.underlying54 infoU8 w.heap.size _ _ _ rfl _ (hown.kept (row := none) ⟨hB1.os, hB1.tape, hB1.output, hB1.size, fun k hk _ => hB1.block k hk⟩ (by simp [Value.ownBlock]; split <;> simp)) _ hb0 hb1 rfl rfl (by omega) (by have := hB1.size; omega) ?_; intro v1 w2 hown1 hB2)))
      go_roundw
      case rel => exact ⟨k + 1, by omega, by go_num, hB.trans ((hB1.mono (by omega)).trans hB2), by rw [HT.out]; exact hown1⟩
      case measure => simp [intOf]; omega
    · obtain rfl : k = n := by omega
      have hc := conv_own (P := Tryd.prog) wr 54 9 5 Tryd.underlying54 Tryd.underlying5 Tryd.underlying9 _ _ k _ hown
      go_wp2
      go_ret
      exact ⟨ret_str rfl, hB⟩
end Go.Proofs.YtmjeajfakhmakaaDoor
