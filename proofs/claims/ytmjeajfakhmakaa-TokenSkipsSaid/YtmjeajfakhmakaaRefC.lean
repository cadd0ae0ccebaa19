/- Contracts of layer 9's reference: Next, All, Skip. -/
import Derived.Test.YtmjeajfakhmakaaRefB
import Derived.Test.YtmjeajfakhmakaaRefN
import Derived.Test.YtmjeajfakhmakaaSkip
import Derived.Test.YtmjeajfakhmakaaAll
namespace Go.Proofs.Ytmjeajfakhmakaa
open Go.RowKit Hb
set_option maxRecDepth 100000

theorem okArgs_tab (s : ByteArray) (at_ : Int) (l : List (Int × Int)) (h : okArgs s.data.toList at_ l = true) : openOk s at_ l ∧ TabOk (convT l) := by
  have ho := (okArgs_iff s at_ l).1 h
  have hbd : ∀ j, j < l.length → 0 ≤ prT l j ∧ prT l j ≤ 255 := fun j hj => by
    have := pvalid_at l ho.2.2.2 j hj
    unfold okAt at this
    simp only [Bool.and_eq_true] at this
    exact (isCh_iff _).1 this.2.1
  have hok := convT_ok l hbd l.length (Nat.le_refl _)
  rw [List.take_length] at hok
  exact ⟨ho, hok⟩

set_option maxHeartbeats 800000 in
theorem ref_next (s : ByteArray) (at_ : Int) (A : Option Addr) (n cap : Nat) (l : List (Int × Int)) (w : World) (hn : n = l.length) (hm : n ≤ maxLen) (hp : Pairs w A l) :
    Calls Try.prog 17 #[.string s, .int .i64 at_, .slice A n cap] w fun e w' => GivesN (nextTop s.data.toList at_ l) e ∧ Below w.heap.size w w' := by
  have HN := Lib.hid hn
  have HP := Lib.hid hp
  clear hn hp
  have hA := (Below.refl w.heap.size w).alloc (Nat.le_refl _) tokZero
  have hPA : Hid (Pairs (w.alloc tokZero) A l) := HP.out.below hA
  cases hv : okArgs s.data.toList at_ l with
  | false =>
    have HK := Lib.hid (show nextTop s.data.toList at_ l = ⟨errR 1, false, 0⟩ by unfold nextTop; rw [hv]; rfl)
    have HV := Lib.hid hv
    clear hv
    go_enter Try.func17, Try.ntmps17
    go_wp2_with fail
    refine (ref_validA s at_ A n cap l _ HN.out hm hPA.out).mono ?_; rintro e w2 ⟨rfl, hB2⟩; rw [HV.out]
    have hBr : Below (w.alloc tokZero).heap.size (w.alloc tokZero) w2 := hB2
    have hl12 : w.heap.size < w2.heap.size := Nat.lt_of_lt_of_le (by simp) hBr.size
    obtain ⟨t0, t1, t2, t3, t4, t5, t6⟩ := tok_cells hBr (by simp)
    have hBw : Below w.heap.size w w2 := hA.trans (hBr.mono (by simp))
    clear hB2 hBr
    go_wp2_with fail
    refine bodyPost_ret (v := nxtTup ⟨errR 1, false, 0⟩) (by simp [nxtTup, errR, results, Try.results17, go_sem, t0, t1, t2, t3, t4, t5]) rfl ⟨by rw [HK.out]; rfl, below_sets hBw (Nat.le_refl _) _ _ _ _ _ _⟩
  | true =>
    obtain ⟨⟨ho1, ho2, ho3, ho4⟩, htab⟩ := okArgs_tab s at_ l hv
    obtain ⟨k, hk⟩ := Int.eq_ofNat_of_zero_le ho2
    subst hk
    have hk2 : k ≤ s.size := by omega
    have HK := Lib.hid (show nextTop s.data.toList k l = nextR (cvt (convT l) s.data.toList) s.data.toList k by unfold nextTop; rw [hv]; rfl)
    have HV := Lib.hid hv
    have HT := Lib.hid htab
    have H4 := Lib.hid ho4
    clear hv htab ho4 ho2 ho3
    generalize hr : nextR (cvt (convT l) s.data.toList) s.data.toList k = r at *
    have HR := Lib.hid hr
    clear hr
    go_enter Try.func17, Try.ntmps17
    go_wp2_with fail
    refine (ref_validA s k A n cap l _ HN.out hm hPA.out).mono ?_; rintro e w2 ⟨rfl, hB2⟩; rw [HV.out]
    have hP2 := Lib.hid (hPA.out.below hB2)
    go_wp2_with fail
    refine (ref_new s A n cap l _ HN.out hm hP2.out H4.out).mono ?_; rintro e w3 ⟨rfl, hB3⟩
    go_wp2_with fail
    refine (txt_next s (convT l) HT.out k hk2 ho1 _).mono ?_; rintro e w4 ⟨he, hB4⟩; rw [HR.out] at he
    unfold GivesN nxtTup at he; subst he
    have hBr : Below (w.alloc tokZero).heap.size (w.alloc tokZero) w4 := trans3 (Nat.le_refl _) hB2 hB3 hB4
    have hl12 : w.heap.size < w4.heap.size := Nat.lt_of_lt_of_le (by simp) hBr.size
    obtain ⟨t0, t1, t2, t3, t4, t5, t6⟩ := tok_cells hBr (by simp)
    have hBw : Below w.heap.size w w4 := hA.trans (hBr.mono (by simp))
    clear hB2 hB3 hB4 hBr
    go_wp2_with fail
    refine bodyPost_ret (v := nxtTup r) (by simp [nxtTup, results, Try.results17, go_sem, t0, t1, t2, t3, t4, t5]) rfl ⟨by rw [HK.out]; rfl, below_sets hBw (Nat.le_refl _) _ _ _ _ _ _⟩
end Go.Proofs.Ytmjeajfakhmakaa
