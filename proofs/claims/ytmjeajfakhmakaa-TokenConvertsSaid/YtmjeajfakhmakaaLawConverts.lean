/- The law TokenConverts. -/
import Derived.Test.YtmjeajfakhmakaaConv
import Derived.Test.YtmjeajfakhmakaaLayS
import Derived.Test.YtmjeajfakhmakaaNext
import Derived.Test.YtmjeajfakhmakaaRef3
import Derived.Test.YtmjeajfakhmakaaAwake
namespace Go.Proofs.Ytmjeajfakhmakaa
open Go.RowKit Hb
set_option maxRecDepth 100000

theorem cells_one2 {w2 w4 : World} {v0 v1 v2 v3 v4 v5 : Value} {t : TypeId} (hB : Below (w2.alloc (.cells #[v0, v1, v2, v3, v4, v5] t)).heap.size (w2.alloc (.cells #[v0, v1, v2, v3, v4, v5] t)) w4) :
    w4.cell? ⟨w2.heap.size, 0, none⟩ = some v0 ∧ w4.cell? ⟨w2.heap.size, 1, none⟩ = some v1 ∧ w4.cell? ⟨w2.heap.size, 2, none⟩ = some v2 ∧ w4.cell? ⟨w2.heap.size, 3, none⟩ = some v3 ∧ w4.cell? ⟨w2.heap.size, 4, none⟩ = some v4 ∧ w4.cell? ⟨w2.heap.size, 5, none⟩ = some v5 ∧ (∀ o, w4.frozen? ⟨w2.heap.size, o, none⟩ = false) ∧ w2.heap.size < w4.heap.size := by
  have hlt : w2.heap.size < (w2.alloc (.cells #[v0, v1, v2, v3, v4, v5] t)).heap.size := by simp
  have e : ∀ o v, (#[v0, v1, v2, v3, v4, v5] : Array Value)[o]? = some v → w4.cell? ⟨w2.heap.size, o, none⟩ = some v := fun o v hv => (hB.cell (p := ⟨w2.heap.size, o, none⟩) hlt).trans ((World.cell?_alloc_new w2 _ t o).trans hv)
  refine ⟨e _ _ rfl, e _ _ rfl, e _ _ rfl, e _ _ rfl, e _ _ rfl, e _ _ rfl, fun o => ?_, Nat.lt_of_lt_of_le hlt hB.size⟩
  rw [hB.frozen (p := ⟨w2.heap.size, o, none⟩) hlt]
  have hb : (w2.alloc (.cells #[v0, v1, v2, v3, v4, v5] t)).heap[w2.heap.size]? = some (.cells #[v0, v1, v2, v3, v4, v5] t) := by show (w2.heap.push _)[w2.heap.size]? = _; simp
  unfold World.frozen?; simp only [hb]; simp
theorem bytes_size (M : List UInt8) : (⟨M.toArray⟩ : ByteArray).size = M.length := by rw [← size_data]
theorem tab_ok (l : List (Int × Int)) (h : pvalid l = true) : TabOk (convT l) := by
  have hbd : ∀ j, j < l.length → 0 ≤ prT l j ∧ prT l j ≤ 255 := fun j hj => by
    have := pvalid_at l h j hj
    unfold okAt at this
    simp only [Bool.and_eq_true] at this
    exact (isCh_iff _).1 this.2.1
  have hok := convT_ok l hbd l.length (Nat.le_refl _)
  rw [List.take_length] at hok
  exact hok
theorem top_conv (L : List UInt8) (at_ : Int) (l : List (Int × Int)) (hv : pvalid l = true) (h1 : ∀ k, ¬rawAt (cvt (convT l) L) k = 39) (h2 : ∀ k, ¬rawAt (cvt (convT l) L) k = 34) : nextTop (cvt (convT l) L) at_ [] = nextTop L at_ l := by
  have e : okArgs (cvt (convT l) L) at_ [] = okArgs L at_ l := by unfold okArgs; rw [cvt_len, hv]; rfl
  unfold nextTop
  rw [e, cvt_id, next_noq (cvt (convT l) L) L (cvt_len _ _) _ h1 h2]

set_option maxHeartbeats 1600000 in
theorem law_converts (s : ByteArray) (at_ : Int) (A : Option Addr) (n cap : Nat) (l : List (Int × Int)) (w : World) (hn : n = l.length) (hm : n ≤ maxLen) (hs : s.size ≤ maxLen) (hp : Pairs w A l) :
    Calls Try.prog 10 #[.string s, .int .i64 at_, .slice A n cap] w fun e w' => e = .returned (.bool true) ∧ Below w.heap.size w w' := by
  by_cases c1 : 400 < s.size
  · have b1 : decide ((400 : Int) < s.size) = true := by simp; omega
    clear hp hn hs c1
    go_enter Try.func10, Try.ntmps10
    go_wp2_with fail
    refine (law_awake _).mono ?_; rintro e w1 ⟨rfl, hB1⟩
    go_wp2_with fail
    go_ret
    exact ⟨rfl, hB1⟩
  have b1 : decide ((400 : Int) < s.size) = false := by simp; omega
  by_cases c2 : 400 < n
  · have b2 : decide ((400 : Int) < n) = true := by simp; omega
    clear hp hn hs c1
    go_enter Try.func10, Try.ntmps10
    go_wp2_with fail
    refine (law_awake _).mono ?_; rintro e w1 ⟨rfl, hB1⟩
    go_wp2_with fail
    go_ret
    exact ⟨rfl, hB1⟩
  have b2 : decide ((400 : Int) < n) = false := by simp; omega
  have HC := Lib.hid (chars_valid A n cap l w hn hm hp)
  cases hv : pvalid l with
  | false =>
    have HV := Lib.hid hv
    clear hp hn hv
    go_enter Try.func10, Try.ntmps10
    go_wp2_with fail
    refine HC.out.mono ?_; rintro e w0 ⟨rfl, hB0⟩; rw [HV.out]
    have hs0 := hB0.size
    go_wp2_with fail
    refine (law_awake _).mono ?_; rintro e w1 ⟨rfl, hB1⟩
    go_wp2_with fail
    go_ret
    exact ⟨rfl, hB0.trans (hB1.mono hs0)⟩
  | true =>
    have HV := Lib.hid hv
    have HP := Lib.hid hp
    have HK := Lib.hid (fun c w' h0 h1 h => chars_convert A n cap l c w' hn (by omega) h hv h0 h1)
    have HT := Lib.hid (fun w' h => token_next s at_ A n cap l w' hn hm hs h)
    have hML : Hid ((cvt (convT l) s.data.toList).length = s.size) := by show _ = _; rw [cvt_len, size_data]
    have HSZ : Hid (s.data.toList.length = s.size) := size_data s
    have HCV := Lib.hid (cvt_at (convT l) (tab_ok l hv) s.data.toList)
    have HTC := Lib.hid (top_conv s.data.toList at_ l hv)
    clear hn hp hv
    generalize hM : cvt (convT l) s.data.toList = M at *
    clear hM
    go_enter Try.func10, Try.ntmps10
    go_wp2_with fail
    refine HC.out.mono ?_; rintro e w0 ⟨rfl, hB0⟩; rw [HV.out]
    have hs0 := hB0.size
    have HP0 := Lib.hid (HP.out.below hB0)
    go_wp2_with fail
    go_loopw [7, 8] (fun v i wr => ∃ k : Nat, k ≤ s.size ∧ i = .int .i64 k ∧ Below w0.heap.size w0 wr ∧ wr.ownsRow w0.heap.size 5 1 v k (byteCells (M.take k)) ∧ Hid (∀ j, j < k → ¬rawAt M j = 39 ∧ ¬rawAt M j = 34)) (fun _ i _ => s.size - (intOf i).toNat)
    case atStart => exact ⟨0, Nat.zero_le _, rfl, Below.refl _ _, by simpa [byteCells] using own_nil w0 w0.heap.size 5 1, fun j hj => absurd hj (by omega)⟩
    case round =>
      obtain ⟨k, hk, rfl, hB, hown, HQ⟩ := hrel
      have hbs := hB.size
      have HPr := Lib.hid (HP0.out.below hB)
      by_cases hlt : k < s.size
      · have hkl : k < s.data.toList.length := by rw [HSZ.out]; exact hlt
        have hkM : k < M.length := by rw [hML.out]; exact hlt
        have hb := bAt_mk s k hlt
        have hc0 := bAt_lo s.data.toList k
        have hc1 := bAt_hi s.data.toList k
        have HY := Lib.hid (HCV.out k hkl)
        have hy0 := bAt_lo M k
        have hy1 := bAt_hi M k
        have d0 : decide (bAt M k < 0) = false := by simp; omega
        have d1 : decide (255 < bAt M k) = false := by simp; omega
        have HR := Lib.hid (rawAt_in M k hkM)
        have HTk := Lib.hid (take_snoc M k hkM)
        by_cases q1 : bAt M k = 39
        · have q1b : (bAt M k == 39) = true := by simp [q1]
          clear q1
          go_wp2_with fail
          refine (HK.out _ _ hc0 hc1 HPr.out).mono ?_; rintro e w1 ⟨rfl, hB1⟩; rw [HY.out]
          have hs1 := hB1.size
          go_wp2_with fail
          refine (law_awake _).mono ?_; rintro e w2 ⟨rfl, hB2⟩
          go_wp2_with fail
          go_ret
          exact ⟨rfl, hB0.trans ((hB.mono hs0).trans ((hB1.mono (by omega)).trans (hB2.mono (by omega))))⟩
        have q1b : (bAt M k == 39) = false := by simp [q1]
        by_cases q2 : bAt M k = 34
        · have q2b : (bAt M k == 34) = true := by simp [q2]
          clear q2
          go_wp2_with fail
          refine (HK.out _ _ hc0 hc1 HPr.out).mono ?_; rintro e w1 ⟨rfl, hB1⟩; rw [HY.out]
          have hs1 := hB1.size
          go_wp2_with fail
          refine (law_awake _).mono ?_; rintro e w2 ⟨rfl, hB2⟩
          go_wp2_with fail
          go_ret
          exact ⟨rfl, hB0.trans ((hB.mono hs0).trans ((hB1.mono (by omega)).trans (hB2.mono (by omega))))⟩
        have q2b : (bAt M k == 34) = false := by simp [q2]
        by_cases q3 : bAt s.data.toList k = 39
        · have q3b : (bAt s.data.toList k == 39) = true := by simp [q3]
          clear q3
          go_wp2_with fail
          refine (HK.out _ _ hc0 hc1 HPr.out).mono ?_; rintro e w1 ⟨rfl, hB1⟩; rw [HY.out]
          have hs1 := hB1.size
          go_wp2_with fail
          refine (law_awake _).mono ?_; rintro e w2 ⟨rfl, hB2⟩
          go_wp2_with fail
          go_ret
          exact ⟨rfl, hB0.trans ((hB.mono hs0).trans ((hB1.mono (by omega)).trans (hB2.mono (by omega))))⟩
        have q3b : (bAt s.data.toList k == 39) = false := by simp [q3]
        by_cases q4 : bAt s.data.toList k = 34
        · have q4b : (bAt s.data.toList k == 34) = true := by simp [q4]
          clear q4
          go_wp2_with fail
          refine (HK.out _ _ hc0 hc1 HPr.out).mono ?_; rintro e w1 ⟨rfl, hB1⟩; rw [HY.out]
          have hs1 := hB1.size
          go_wp2_with fail
          refine (law_awake _).mono ?_; rintro e w2 ⟨rfl, hB2⟩
          go_wp2_with fail
          go_ret
          exact ⟨rfl, hB0.trans ((hB.mono hs0).trans ((hB1.mono (by omega)).trans (hB2.mono (by omega))))⟩
        have q4b : (bAt s.data.toList k == 34) = false := by simp [q4]
        have HQ2 : Hid (∀ j, j < k + 1 → ¬rawAt M j = 39 ∧ ¬rawAt M j = 34) := fun j hj => by
          by_cases hjk : j = k
          · rw [hjk, HR.out]; exact ⟨q1, q2⟩
          · exact HQ.out j (by omega)
        have hw8 : IntKind.u8.wrap (bAt M k) = bAt M k := IntWalk.u8_in _ ⟨hy0, hy1⟩
        clear q1 q2 q3 q4
        go_wp2_with fail
        refine (HK.out _ _ hc0 hc1 HPr.out).mono ?_; rintro e w1 ⟨rfl, hB1⟩; rw [HY.out]
        have hs1 := hB1.size
        have hown1 := own_call hown hB1 (Nat.le_refl _)
        have hB2 := hB.trans (hB1.mono hbs)
        clear hown hB1
        go_wp2_with (at_builtin; go_must (refine wpList_append_byte rfl _ _ 44 5 rfl Try.underlying44 infoU8 w0.heap.size _ _ _ rfl _ hown1 _ hy0 hy1 rfl rfl (by omega) (by omega) ?_; intro v1 w5 hown2 hB5))
        go_roundw
        case rel => exact ⟨k + 1, by omega, by go_num, hB2.trans hB5, by rw [HTk.out]; exact hown2, HQ2⟩
        case measure => simp [intOf]; omega
      · obtain rfl : k = s.size := by omega
        have HMt := Lib.hid (show M.take s.size = M from List.take_of_length_le (by rw [hML.out]; exact Nat.le_refl _))
        rw [HMt.out] at hown
        have hq : ∀ j, ¬rawAt M j = 39 ∧ ¬rawAt M j = 34 := fun j => by
          by_cases hj : j < s.size
          · exact HQ.out j hj
          · rw [rawAt_out M j (by rw [hML.out]; omega)]; decide
        have HE := Lib.hid (HTC.out (fun j => (hq j).1) (fun j => (hq j).2))
        have hys : (⟨M.toArray⟩ : ByteArray).size ≤ maxLen := by rw [bytes_size M, hML.out]; exact hs
        have HT2 := Lib.hid (fun w' => token_next ⟨M.toArray⟩ at_ none 0 0 [] w' rfl (by decide) hys (Pairs.nil _ _))
        rw [show (⟨M.toArray⟩ : ByteArray).data.toList = M by simp, HE.out] at HT2
        have hBw := hB0.trans (hB.mono hs0)
        have hBs := hBw.size
        clear hq HE HQ hys
        generalize nextTop s.data.toList at_ l = r at *
        go_wp2_with fail
        refine (HT.out _ HPr.out).mono ?_; rintro e w1 ⟨he, hB1⟩
        unfold GivesN nxtTup at he; subst he
        have hs1 := hB1.size
        have hBa := fun o => (hBw.trans (hB1.mono hBs)).alloc (Nat.le_trans hBs hs1) o
        have hown1 := (own_call hown hB1 (Nat.le_refl _)).alloc (.cells #[.int .i64 r.r.kind, .string ⟨r.r.text.toArray⟩, .int .i64 r.r.n, .int .i64 r.r.at_, .int .i64 r.r.end_, .bool r.lay] 32)
        have hc := conv_own (P := Try.prog) _ 44 9 5 Try.underlying44 Try.underlying5 Try.underlying9 _ _ _ _ hown1
        clear hown
        go_wp2_with fail
        refine (HT2.out _).mono ?_; rintro e w2 ⟨he, hB2⟩
        unfold GivesN nxtTup at he; subst he
        have hBb := (hBa _).trans (hB2.mono (hBa _).size)
        have hs2 := hBb.size
        obtain ⟨t0, t1, t2, t3, t4, t5, t6, tl⟩ := cells_one2 hB2
        have d5 : (r.where_ == r.where_) = true := by simp
        clear hB1 hB2 hBa hown1 hc
        go_wp2_with fail
        refine (law_awake _).mono ?_; rintro e w3 ⟨rfl, hB3⟩
        go_wp2_with fail
        go_ret
        exact ⟨rfl, (hBb.alloc hs2 _).trans (hB3.mono (by simp; omega))⟩
end Go.Proofs.Ytmjeajfakhmakaa
