/- Contracts of token: Next. -/
import Derived.Test.YtmjeajfakhmakaaDoorOpen
namespace Go.Proofs.YtmjeajfakhmakaaDoor
open Go.RowKit Hb
set_option maxRecDepth 100000

def okArgs (L : List UInt8) (at_ : Int) (conv : List (Int × Int)) : Bool := decide (L.length ≤ 16384) && (decide (0 ≤ at_) && (decide (at_ ≤ L.length) && pvalid conv))
theorem okArgs_iff (s : ByteArray) (at_ : Int) (conv : List (Int × Int)) : okArgs s.data.toList at_ conv = true ↔ openOk s at_ conv := by
  unfold okArgs openOk; rw [size_data]; simp
def nextTop (L : List UInt8) (at_ : Int) (conv : List (Int × Int)) : NextR := if okArgs L at_ conv = true then nextR (cvt (convT conv) L) L at_.toNat else ⟨errR 1, false, 0⟩

set_option maxHeartbeats 800000 in
theorem token_next (s : ByteArray) (at_ : Int) (A : Option Addr) (n cap : Nat) (l : List (Int × Int)) (w : World) (hn : n = l.length) (hm : n ≤ maxLen) (hs : s.size ≤ maxLen) (hp : Pairs w A l) :
    Calls Tryd.prog 27 #[.string s, .int .i64 at_, .slice A n cap] w fun e w' => GivesN (nextTop s.data.toList at_ l) e ∧ Below w.heap.size w w' := by
  have hA := (Below.refl w.heap.size w).alloc (Nat.le_refl _) tokZero
  have hp1 := hp.below hA
  have hsz0 : w.heap.size < (w.alloc tokZero).heap.size := by simp
  have T0 : Tok6 (w.alloc tokZero) w.heap.size := by
    obtain ⟨t0, t1, t2, t3, t4, t5, t6⟩ := tok_cells (Below.refl (w.alloc tokZero).heap.size (w.alloc tokZero)) hsz0
    exact ⟨t6, _, _, _, _, _, _, t0, t1, t2, t3, t4, t5⟩
  by_cases ho : openOk s at_ l
  · have HK := Lib.hid (show nextTop s.data.toList at_ l = nextR (cvt (convT l) s.data.toList) s.data.toList at_.toNat by unfold nextTop; rw [if_pos ((okArgs_iff s at_ l).2 ho)])
    obtain ⟨k, hk⟩ := Int.eq_ofNat_of_zero_le ho.2.1
    subst hk
    have hk2 : k ≤ s.size := by have := ho.2.2.1; omega
    have HO := Lib.hid (lex_open_yes s k A n cap l _ hn hm hp1 ho)
    clear hn hp hp1 ho
    go_enter Tryd.func27, Tryd.ntmps27
    go_wp2_with fail
    refine HO.out.mono ?_; rintro e w1 ⟨b, rfl, hb, hB1, L⟩
    go_wp2_with fail
    refine (lex_next b s _ k _ w1 L hk2).mono ?_; rintro e w2 ⟨he, ho2, q, L2⟩
    have hB2 := hB1.trans (ho2.toBelow' hb hB1.size)
    obtain ⟨t6, v0, v1, v2, v3, v4, v5, t0, t1, t2, t3, t4, t5⟩ := T0.below hB2 hsz0
    have hl2 : w.heap.size < w2.heap.size := Nat.lt_of_lt_of_le hsz0 hB2.size
    rw [Int.toNat_natCast] at HK
    generalize hr : nextR _ _ _ = r at he
    have HR := Lib.hid hr
    clear hr
    unfold GivesN nxtTup at he; subst he
    go_wp2_with fail
    refine bodyPost_ret (v := nxtTup r) (by simp [nxtTup, results, Tryd.results27, go_sem, t0, t1, t2, t3, t4, t5]) rfl ⟨?_, below_sets (hA.trans (hB2.mono (Nat.le_of_lt hsz0))) (Nat.le_refl _) _ _ _ _ _ _⟩
    rw [HK.out, HR.out]; rfl
  · have HK := Lib.hid (show nextTop s.data.toList at_ l = ⟨errR 1, false, 0⟩ by unfold nextTop; rw [if_neg (fun h => ho ((okArgs_iff s at_ l).1 h))])
    have HO := Lib.hid (lex_open_no s at_ A n cap l _ hn hm hs hp1 ho)
    clear hn hp hp1 ho
    go_enter Tryd.func27, Tryd.ntmps27
    go_wp2_with fail
    refine HO.out.mono ?_; rintro e w1 ⟨rfl, hB1⟩
    obtain ⟨t6, v0, v1, v2, v3, v4, v5, t0, t1, t2, t3, t4, t5⟩ := T0.below hB1 hsz0
    have hl2 : w.heap.size < w1.heap.size := Nat.lt_of_lt_of_le hsz0 hB1.size
    go_wp2_with fail
    refine bodyPost_ret (v := nxtTup ⟨errR 1, false, 0⟩) (by simp [nxtTup, errR, results, Tryd.results27, go_sem, t0, t1, t2, t3, t4, t5]) rfl ⟨?_, below_sets (hA.trans (hB1.mono (Nat.le_of_lt hsz0))) (Nat.le_refl _) _ _ _ _ _ _⟩
    rw [HK.out]; rfl
end Go.Proofs.YtmjeajfakhmakaaDoor
