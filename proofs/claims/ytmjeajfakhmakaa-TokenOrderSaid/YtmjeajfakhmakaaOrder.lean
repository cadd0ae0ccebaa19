/- The walk of the law: TokenOrder. -/
import Derived.Test.YtmjeajfakhmakaaAwake
import Derived.Test.YtmjeajfakhmakaaOrderS
namespace Hb
open Go Go.RowKit
theorem own_le {w : World} {base e size : Nat} {v : Value} {n : Nat} {xs : List Value} (h : w.ownsRow base e size v n xs) : n ≤ maxLen := by
  rcases h.2 with ⟨_, rfl⟩ | ⟨g, cap, cur, _, _, _, h1, h2, _⟩
  · exact Nat.zero_le _
  · omega
end Hb
namespace Go.Proofs.Ytmjeajfakhmakaa
open Go.RowKit Hb
set_option maxRecDepth 100000

theorem allTop_chain (L : List UInt8) (at_ : Int) (conv : List (Int × Int)) :
    ((allTop L at_ conv).err = 0 → okArgs L at_ conv = true ∧ (allTop L at_ conv).where_ = 0 ∧ (allTop L at_ conv).l ≠ [] ∧ Chain (cvt (convT conv) L) L at_.toNat (allTop L at_ conv).l True) ∧ (¬(allTop L at_ conv).err = 0 → (allTop L at_ conv).l = []) := by
  unfold allTop
  by_cases h : okArgs L at_ conv = true
  · rw [if_pos h]
    have hb : at_.toNat ≤ L.length := by unfold okArgs at h; simp at h; omega
    obtain ⟨h1, h2⟩ := allR_chain (cvt (convT conv) L) L (cvt_len _ _) at_.toNat hb
    exact ⟨fun he => ⟨h, h1 he⟩, h2⟩
  · rw [if_neg h]; exact ⟨fun he => absurd he (by show ¬(1 : Int) = 0; decide), fun _ => rfl⟩
theorem okArgs_nat (L : List UInt8) (at_ : Int) (conv : List (Int × Int)) (h : okArgs L at_ conv = true) (k : Nat) (hk : k ≤ L.length) : okArgs L k conv = true := by
  unfold okArgs at *; simp at *; exact ⟨h.1, hk, h.2.2.2⟩
theorem nextTop_nat (L : List UInt8) (at_ : Int) (conv : List (Int × Int)) (h : okArgs L at_ conv = true) (k : Nat) (hk : k ≤ L.length) : nextTop L k conv = nextR (cvt (convT conv) L) L k := by
  unfold nextTop; rw [if_pos (okArgs_nat L at_ conv h k hk)]; simp

set_option maxHeartbeats 1600000 in
theorem law_order (s : ByteArray) (at_ : Int) (A : Option Addr) (n cap : Nat) (l : List (Int × Int)) (w : World) (hn : n = l.length) (hm : n ≤ maxLen) (hs : s.size ≤ maxLen) (hp : Pairs w A l) :
    Calls Try.prog 5 #[.string s, .int .i64 at_, .slice A n cap] w fun e w' => e = .returned (.bool true) ∧ Below w.heap.size w w' := by
  by_cases c1 : 400 < s.size
  · have b1 : decide ((400 : Int) < s.size) = true := by simp; omega
    clear hp hn hs c1
    go_enter Try.func5, Try.ntmps5
    go_wp2_with fail
    refine (law_awake _).mono ?_; rintro e w1 ⟨rfl, hB1⟩
    go_wp2_with fail
    go_ret
    exact ⟨rfl, hB1⟩
  have b1 : decide ((400 : Int) < s.size) = false := by simp; omega
  by_cases c2 : 400 < n
  · have b2 : decide ((400 : Int) < n) = true := by simp; omega
    clear hp hn hs c1
    go_enter Try.func5, Try.ntmps5
    go_wp2_with fail
    refine (law_awake _).mono ?_; rintro e w1 ⟨rfl, hB1⟩
    go_wp2_with fail
    go_ret
    exact ⟨rfl, hB1⟩
  have b2 : decide ((400 : Int) < n) = false := by simp; omega
  have HA := Lib.hid (token_all s at_ A n cap l w hn hm hs hp)
  have HC := Lib.hid (allTop_chain s.data.toList at_ l)
  have HN := Lib.hid hn
  have HP := Lib.hid hp
  have HS : Hid (s.data.toList.length = s.size) := size_data s
  have HM : Hid ((cvt (convT l) s.data.toList).length = s.data.toList.length) := cvt_len _ _
  have HX := Lib.hid (nextTop_nat s.data.toList at_ l)
  generalize hr : allTop s.data.toList at_ l = r at HA HC
  clear hr hn hp
  by_cases c3 : r.err = 0
  · have b3 : (r.err != 0) = false := by simp [c3]
    obtain ⟨ho, hw0, hne, hch⟩ := HC.out.1 c3
    have HO := Lib.hid ho
    have HCh := Lib.hid hch
    have HW := Lib.hid hw0
    have hpos : 0 < r.l.length := List.length_pos_iff.2 hne
    have ho1 := (okArgs_iff s at_ l).1 ho
    have h0 := ho1.2.1
    have HAt := Lib.hid (Int.toNat_of_nonneg h0)
    clear c3 ho hw0 hch HC hne ho1
    go_enter Try.func5, Try.ntmps5
    go_wp2_with fail
    refine HA.out.mono ?_; rintro e w1 ⟨v, rfl, hB1, hown⟩
    obtain ⟨A1, cap1, rfl, hT⟩ := toks_own hown
    have hlm := own_le hown
    unfold maxLen at hlm
    have HT := Lib.hid hT
    clear hT hown
    rw [HW.out]
    go_wp2_with fail
    go_loopw [10, 11] (fun e i wr => ∃ k : Nat, k ≤ r.l.length ∧ i = .int .i64 k ∧ e = .int .i64 (endAt at_.toNat r.l k : Nat) ∧ Below w.heap.size w wr ∧ Below w1.heap.size w1 wr) (fun _ i _ => r.l.length - (intOf i).toNat)
    case atStart => exact ⟨0, Nat.zero_le _, rfl, by show _ = Value.int IntKind.i64 ((at_.toNat : Nat) : Int); rw [HAt.out], hB1, Below.refl _ _⟩
    case round =>
      obtain ⟨k, hk, rfl, rfl, hB, hBb⟩ := hrel
      by_cases hlt : k < r.l.length
      · obtain ⟨b, off, rfl, T1⟩ := (HT.out.below hBb) k hlt
        have HE : Hid (endAt at_.toNat r.l (k + 1) = (r.l[k]).r.end_.toNat) := by show _ = _; simp only [endAt]; rw [List.getElem?_eq_getElem hlt]
        obtain ⟨g1, g2, g3, g4⟩ := HCh.out k _ (List.getElem?_eq_getElem hlt)
        generalize r.l[k] = t at *
        generalize endAt at_.toNat r.l k = e0 at *
        have he := next_end (cvt (convT l) s.data.toList) s.data.toList HM.out e0 g4 (by rw [g1]; exact g2)
        rw [g1] at he
        obtain ⟨p, en, e1, e2, e3, e4, e5, e6, e7⟩ := he
        rw [HS.out] at g4 e5
        have hc := token_next s (e0 : Int) A n cap l wr HN.out hm hs (HP.out.below hB)
        rw [HX.out HO.out e0 (by rw [HS.out]; exact g4), g1] at hc
        have HC := Lib.hid hc
        clear hc g1
        obtain ⟨⟨tk, tt, tn, ta, te, terr⟩, tl, tw⟩ := t
        simp only [] at e1 e3 e6 e7 g2 g3
        subst e1 e3 e6 e7 g2
        have HE2 : Hid (endAt at_.toNat r.l (k + 1) = en) := by show _ = _; rw [HE.out]; simp
        clear HE
        have d1 : decide ((p : Int) < e0) = false := by simp; omega
        have d2 : decide ((en : Int) ≤ p) = false := by simp; omega
        have d3 : decide ((s.size : Int) < en) = false := by simp; omega
        have d4 : decide ((e0 : Int) < p) = decide (e0 < p) := by simp
        by_cases hl : k + 1 = r.l.length
        · have d5 : (tk == 7) = true := by simp; exact g3.2 ⟨hl, trivial⟩
          have d6 : ((k : Int) == (r.l.length : Int) - 1) = true := by simp; omega
          have d7 : IntKind.i64.wrap ((r.l.length : Int) - 1) = (r.l.length : Int) - 1 := IntWalk.i64_in _ (by omega)
          clear g3
          go_wp2_with fail
          refine HC.out.mono ?_; rintro e w2 ⟨rfl, hB2⟩
          unfold nxtTup
          obtain ⟨hb, a0, a1, a2, a3, a4, a5⟩ := T1.below hB2 T1.lt
          go_wp2_with fail
          go_quiet (fail)
          go_wp2_with fail
          go_roundw
          case rel => exact ⟨k + 1, by omega, by go_num, by rw [HE2.out], bl_drewN ((hB.trans (hB2.mono hB.size)).alloc (Nat.le_trans hB.size hB2.size) _) _, bl_drewN ((hBb.trans (hB2.mono hBb.size)).alloc (Nat.le_trans hBb.size hB2.size) _) _⟩
          case measure => simp [intOf]; omega
        · have d5 : (tk == 7) = false := by simp; exact fun h => hl (g3.1 h).1
          have d6 : ((k : Int) == (r.l.length : Int) - 1) = false := by simp; omega
          have d7 : IntKind.i64.wrap ((r.l.length : Int) - 1) = (r.l.length : Int) - 1 := IntWalk.i64_in _ (by omega)
          clear g3
          go_wp2_with fail
          refine HC.out.mono ?_; rintro e w2 ⟨rfl, hB2⟩
          unfold nxtTup
          obtain ⟨hb, a0, a1, a2, a3, a4, a5⟩ := T1.below hB2 T1.lt
          go_wp2_with fail
          go_quiet (fail)
          go_wp2_with fail
          go_roundw
          case rel => exact ⟨k + 1, by omega, by go_num, by rw [HE2.out], bl_drewN ((hB.trans (hB2.mono hB.size)).alloc (Nat.le_trans hB.size hB2.size) _) _, bl_drewN ((hBb.trans (hB2.mono hBb.size)).alloc (Nat.le_trans hBb.size hB2.size) _) _⟩
          case measure => simp [intOf]; omega
      · obtain rfl : k = r.l.length := by omega
        have d8 : decide ((0 : Int) < r.l.length) = true := by simp; omega
        have hs2 := hB.size
        go_wp2_with fail
        refine (law_awake _).mono ?_; rintro e w3 ⟨rfl, hB3⟩
        go_wp2_with fail
        go_ret
        exact ⟨rfl, hB.trans (hB3.mono hs2)⟩
  · have b3 : (r.err != 0) = true := by simp [c3]
    have HL := Lib.hid (HC.out.2 c3)
    clear c3 HC
    go_enter Try.func5, Try.ntmps5
    go_wp2_with fail
    refine HA.out.mono ?_; rintro e w1 ⟨v, rfl, hB1, hown⟩
    rw [HL.out] at hown
    obtain ⟨A1, cap1, rfl⟩ := own_slice hown
    clear hown
    go_wp2_with fail
    refine (law_awake _).mono ?_; rintro e w3 ⟨rfl, hB3⟩
    go_wp2_with fail
    go_ret
    exact ⟨rfl, hB1.trans (hB3.mono hB1.size)⟩
end Go.Proofs.Ytmjeajfakhmakaa
