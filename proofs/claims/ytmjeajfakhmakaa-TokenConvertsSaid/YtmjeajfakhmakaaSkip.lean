/- Contracts of token: Skip. -/
import Derived.Test.YtmjeajfakhmakaaNext
import Derived.Test.YtmjeajfakhmakaaAllS
namespace Go.Proofs.Ytmjeajfakhmakaa
open Go.RowKit Hb
set_option maxRecDepth 100000

def skipTop (L : List UInt8) (at_ : Int) (conv : List (Int × Int)) : Int := if okArgs L at_ conv = true then skipTok (cvt (convT conv) L) L at_.toNat else 0

set_option maxHeartbeats 1600000 in
theorem token_skip (s : ByteArray) (at_ : Int) (A : Option Addr) (n cap : Nat) (l : List (Int × Int)) (w : World) (hn : n = l.length) (hm : n ≤ maxLen) (hs : s.size ≤ maxLen) (hp : Pairs w A l) :
    Calls Try.prog 20 #[.string s, .int .i64 at_, .slice A n cap] w fun e w' => e = .returned (.int .i64 (skipTop s.data.toList at_ l)) ∧ Below w.heap.size w w' := by
  by_cases ho : openOk s at_ l
  · have HK := Lib.hid (show skipTop s.data.toList at_ l = skipTok (cvt (convT l) s.data.toList) s.data.toList at_.toNat by unfold skipTop; rw [if_pos ((okArgs_iff s at_ l).2 ho)])
    obtain ⟨k, hk⟩ := Int.eq_ofNat_of_zero_le ho.2.1
    subst hk
    have hk2 : k ≤ s.size := by have := ho.2.2.1; omega
    have hsz := ho.1
    have HO := Lib.hid (lex_open_yes s k A n cap l w hn hm hp ho)
    clear hn hp ho
    rw [Int.toNat_natCast] at HK
    have HRl : Hid (s.data.toList.length = s.size) := size_data s
    have HMl : Hid ((cvt (convT l) s.data.toList).length = s.data.toList.length) := cvt_len _ _
    go_enter Try.func20, Try.ntmps20
    go_wp2_with fail
    refine HO.out.mono ?_; rintro e w1 ⟨b, rfl, hb, hB1, L⟩
    go_wp2_with fail
    go_loopw [1] (fun i wr => ∃ a f : Nat, ∃ q : Int, i = .int .i64 a ∧ a ≤ s.size ∧ s.size - a < f ∧ Below w.heap.size w wr ∧ Lex wr b s (convT l) q ∧ Hid (skipTokF f (cvt (convT l) s.data.toList) s.data.toList a = skipTok (cvt (convT l) s.data.toList) s.data.toList k)) (fun i _ => s.size - (intOf i).toNat)
    case atStart => exact ⟨k, s.size + 1, _, rfl, hk2, by omega, hB1, L, by show _ = _; unfold skipTok; rw [HRl.out]⟩
    case round =>
      obtain ⟨a, f, q, rfl, ha, hf, hB, Lr, HE⟩ := hrel
      obtain ⟨f', rfl⟩ : ∃ f', f = f' + 1 := ⟨f - 1, by omega⟩
      have hbs := hB.size
      have hne := next_end (cvt (convT l) s.data.toList) s.data.toList HMl.out a (by rw [HRl.out]; exact ha)
      have hnw := next_where (cvt (convT l) s.data.toList) s.data.toList HMl.out a (by rw [HRl.out]; exact ha)
      rw [HRl.out] at hne hnw
      have HF := Lib.hid (skipTokF_succ f' (cvt (convT l) s.data.toList) s.data.toList a)
      have HX := Lib.hid (lex_next b s _ a _ wr Lr ha)
      generalize hr : nextR (cvt (convT l) s.data.toList) s.data.toList a = r at *
      have HR := Lib.hid hr
      clear hr Lr
      by_cases c1 : r.r.err = 14
      · have b1 : (r.r.err == 14) = true := by simp [c1]
        have HV := Lib.hid (HF.out.trans (by rw [if_pos c1]))
        clear hne hnw c1
        go_wp2_with fail
        refine HX.out.mono ?_; rintro e w2 ⟨he, ho2, q2, L2⟩
        unfold GivesN nxtTup at he; subst he
        have hB2 := hB.trans (ho2.toBelow' hb hbs)
        go_wp2_with fail
        go_ret
        exact ⟨ret_int (by rw [HK.out, ← HE.out, HV.out, HRl.out]), hB2.alloc hB2.size _⟩
      have b1 : (r.r.err == 14) = false := by simp [c1]
      by_cases c2 : r.r.err = 0
      · have b2 : (r.r.err != 0) = false := by simp [c2]
        obtain ⟨p, en, e1, e2, e3, e4, e5, e6, e7⟩ := hne c2
        by_cases c3 : r.r.kind = 7
        · have b3 : (r.r.kind == 7) = true := by simp [c3]
          have HV := Lib.hid (HF.out.trans (by rw [if_neg c1, if_neg (by simpa using c2), if_pos c3]))
          clear hnw hne c1 c2 c3 e1 e3 e6 e7
          go_wp2_with fail
          refine HX.out.mono ?_; rintro e w2 ⟨he, ho2, q2, L2⟩
          unfold GivesN nxtTup at he; subst he
          have hB2 := hB.trans (ho2.toBelow' hb hbs)
          go_wp2_with fail
          go_ret
          exact ⟨ret_int (by rw [HK.out, ← HE.out, HV.out]), hB2.alloc hB2.size _⟩
        · have b3 : (r.r.kind == 7) = false := by simp [c3]
          have HV := Lib.hid (HF.out.trans (by rw [if_neg c1, if_neg (by simpa using c2), if_neg c3, e3, Int.toNat_natCast]))
          have HE3 := Lib.hid e3
          clear hnw hne c1 c2 c3 e1 e3 e6 e7
          go_wp2_with fail
          refine HX.out.mono ?_; rintro e w2 ⟨he, ho2, q2, L2⟩
          unfold GivesN nxtTup at he; subst he
          have hB2 := hB.trans (ho2.toBelow' hb hbs)
          go_wp2_with fail
          go_roundw
          case rel => exact ⟨en, f', q2, congrArg (Value.int IntKind.i64) HE3.out, by omega, by omega, hB2.alloc hB2.size _, L2.below ((Below.refl _ _).alloc (Nat.le_refl _) _) L2.lt, HV.out.symm.trans HE.out⟩
          case measure => rw [HE3.out]; simp [intOf]; omega
      · have b2 : (r.r.err != 0) = true := by simp [c2]
        obtain ⟨p, e1, e2, e3, e4, e5, e6⟩ := hnw c2
        have e7 := e5 c1
        have HV := Lib.hid (HF.out.trans (by rw [if_neg c1, if_pos c2, e1, show ((p : Int) + 1).toNat = p + 1 by omega]))
        have HE1 := Lib.hid e1
        clear hne hnw c1 c2 e1 e4 e5 e6
        go_wp2_with fail
        refine HX.out.mono ?_; rintro e w2 ⟨he, ho2, q2, L2⟩
        unfold GivesN nxtTup at he; subst he
        rw [HE1.out]
        have hB2 := hB.trans (ho2.toBelow' hb hbs)
        go_wp2_with fail
        go_roundw
        case rel => exact ⟨p + 1, f', q2, by go_num, by omega, by omega, hB2.alloc hB2.size _, L2.below ((Below.refl _ _).alloc (Nat.le_refl _) _) L2.lt, HV.out.symm.trans HE.out⟩
        case measure => simp [intOf]; omega
  · have HK := Lib.hid (show skipTop s.data.toList at_ l = 0 by unfold skipTop; rw [if_neg (fun h => ho ((okArgs_iff s at_ l).1 h))])
    have HO := Lib.hid (lex_open_no s at_ A n cap l w hn hm hs hp ho)
    clear hn hp ho
    go_enter Try.func20, Try.ntmps20
    go_wp2_with fail
    refine HO.out.mono ?_; rintro e w1 ⟨rfl, hB1⟩
    go_wp2_with fail
    go_ret
    exact ⟨ret_int HK.out.symm, hB1⟩
end Go.Proofs.Ytmjeajfakhmakaa
