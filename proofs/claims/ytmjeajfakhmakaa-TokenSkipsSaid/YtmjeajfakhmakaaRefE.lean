/- Contracts of layer 9's reference: Skip. -/
import Derived.Test.YtmjeajfakhmakaaRefC
namespace Go.Proofs.Ytmjeajfakhmakaa
open Go.RowKit Hb
set_option maxRecDepth 100000

set_option maxHeartbeats 1600000 in
theorem ref_skip (s : ByteArray) (at_ : Int) (A : Option Addr) (n cap : Nat) (l : List (Int × Int)) (w : World) (hn : n = l.length) (hm : n ≤ maxLen) (hp : Pairs w A l) :
    Calls Try.prog 22 #[.string s, .int .i64 at_, .slice A n cap] w fun e w' => e = .returned (.int .i64 (skipTop s.data.toList at_ l)) ∧ Below w.heap.size w w' := by
  have HN := Lib.hid hn
  have HP := Lib.hid hp
  clear hn hp
  have HV0 := Lib.hid (ref_validA s at_ A n cap l w HN.out hm HP.out)
  cases hv : okArgs s.data.toList at_ l with
  | false =>
    have HK := Lib.hid (show skipTop s.data.toList at_ l = 0 by unfold skipTop; rw [hv]; rfl)
    have HV := Lib.hid hv
    clear hv
    go_enter Try.func22, Try.ntmps22
    go_wp2_with fail
    refine HV0.out.mono ?_; rintro e w1 ⟨rfl, hB1⟩; rw [HV.out]
    go_wp2_with fail
    go_ret
    exact ⟨ret_int HK.out.symm, hB1⟩
  | true =>
    obtain ⟨⟨ho1, ho2, ho3, ho4⟩, htab⟩ := okArgs_tab s at_ l hv
    obtain ⟨k, hk⟩ := Int.eq_ofNat_of_zero_le ho2
    subst hk
    have hk2 : k ≤ s.size := by omega
    have HK := Lib.hid (show skipTop s.data.toList k l = skipTok (cvt (convT l) s.data.toList) s.data.toList k by unfold skipTop; rw [hv]; rfl)
    have HV := Lib.hid hv
    have HT := Lib.hid htab
    have H4 := Lib.hid ho4
    have HRl : Hid (s.data.toList.length = s.size) := size_data s
    have HMl : Hid ((cvt (convT l) s.data.toList).length = s.data.toList.length) := cvt_len _ _
    clear hv htab ho4 ho2 ho3
    go_enter Try.func22, Try.ntmps22
    go_wp2_with fail
    refine HV0.out.mono ?_; rintro e wA ⟨rfl, hBA⟩; rw [HV.out]
    have hPA := Lib.hid (HP.out.below hBA)
    go_wp2_with fail
    refine (ref_new s A n cap l _ HN.out hm hPA.out H4.out).mono ?_; rintro e wB ⟨rfl, hBB⟩
    go_wp2_with (first | (with_reducible refine at_atxt ?_; refine wpList_alloc_txt rfl rfl ?_; intro b wC TC hb hBC) | (with_reducible refine at_txt ?_; refine wpList_store_txt rfl _ _ rfl rfl rfl TC ?_; intro w1 L hz3 ho3 hB3))
    have hbw : w.heap.size ≤ b := by have := hBA.size; have := hBB.size; omega
    have hB1 : Below w.heap.size w w1 := hB3 _ _ (hBA.trans ((hBB.mono hBA.size).trans (hBC.mono (Nat.le_trans hBA.size hBB.size)))) hbw
    clear hBA hBB hBC hB3 ho3 hz3 TC
    try go_simp
    try simp only [Act.put]
    go_loopw [1] (fun i wr => ∃ a f : Nat, i = .int .i64 a ∧ a ≤ s.size ∧ s.size - a < f ∧ Below w.heap.size w wr ∧ Txt wr b s (convT l) ∧ Hid (skipTokF f (cvt (convT l) s.data.toList) s.data.toList a = skipTok (cvt (convT l) s.data.toList) s.data.toList k)) (fun i _ => s.size - (intOf i).toNat)
    case atStart => exact ⟨k, s.size + 1, rfl, hk2, by omega, hB1, L, by show _ = _; unfold skipTok; rw [HRl.out]⟩
    case round =>
      obtain ⟨a, f, rfl, ha, hf, hB, Lr, HE⟩ := hrel
      obtain ⟨f', rfl⟩ : ∃ f', f = f' + 1 := ⟨f - 1, by omega⟩
      have hbs := hB.size
      have hne := next_end (cvt (convT l) s.data.toList) s.data.toList HMl.out a (by rw [HRl.out]; exact ha)
      have hnw := next_where (cvt (convT l) s.data.toList) s.data.toList HMl.out a (by rw [HRl.out]; exact ha)
      rw [HRl.out] at hne hnw
      have HF := Lib.hid (skipTokF_succ f' (cvt (convT l) s.data.toList) s.data.toList a)
      have HX := Lib.hid (txt_next s (convT l) HT.out a ha ho1 wr)
      generalize hr : nextR (cvt (convT l) s.data.toList) s.data.toList a = r at *
      clear hr
      have hC : ∀ (w2 : World) (o : Obj), Below wr.heap.size wr w2 → Below w.heap.size w (w2.alloc o) ∧ Txt (w2.alloc o) b s (convT l) := fun w2 o h =>
        ⟨(hB.trans (h.mono hbs)).alloc (Nat.le_trans hbs h.size) o, (Lr.below h Lr.lt).below ((Below.refl _ _).alloc (Nat.le_refl _) o) (Lr.below h Lr.lt).lt⟩
      by_cases c1 : r.r.err = 14
      · have b1 : (r.r.err == 14) = true := by simp [c1]
        obtain ⟨p, e1, e2, e3, e4, e5, e6⟩ := hnw (by omega)
        have e7 := e4 c1
        have HW := Lib.hid (HF.out.trans (by rw [if_pos c1]))
        have H6 := Lib.hid e6
        have H1 := Lib.hid e1
        have H7 := Lib.hid e7
        clear hne hnw c1 e1 e4 e5 e6 e7
        go_wp2_with (with_reducible refine at_load0 ?_; refine wpList_load_txt rfl _ rfl rfl Lr ?_)
        refine HX.out.mono ?_; rintro e w2 ⟨he, ho2⟩
        rw [H6.out] at he
        unfold GivesN nxtTup errR at he; subst he
        go_wp2_with fail
        go_ret
        refine ⟨ret_int ?_, (hC w2 _ ho2).1⟩
        rw [HK.out, ← HE.out, HW.out, HRl.out, ← H7.out]
        all_goals first | (split <;> omega) | omega
      have b1 : (r.r.err == 14) = false := by simp [c1]
      by_cases c2 : r.r.err = 0
      · have b2 : (r.r.err == 0) = true := by simp [c2]
        obtain ⟨p, en, e1, e2, e3, e4, e5, e6, e7⟩ := hne c2
        by_cases c3 : r.r.kind = 7
        · have b3 : (r.r.kind == 7) = true := by simp [c3]
          have HW := Lib.hid (HF.out.trans (by rw [if_neg c1, if_neg (by simpa using c2), if_pos c3]))
          have H3 := Lib.hid e3
          have H7 := Lib.hid e7
          clear hnw hne c1 c2 c3 e1 e3 e6 e7
          go_wp2_with (with_reducible refine at_load0 ?_; refine wpList_load_txt rfl _ rfl rfl Lr ?_)
          refine HX.out.mono ?_; rintro e w2 ⟨he, ho2⟩
          unfold GivesN nxtTup at he; rw [H7.out, H3.out] at he; subst he
          go_wp2_with fail
          go_ret
          refine ⟨ret_int ?_, (hC w2 _ ho2).1⟩
          rw [HK.out, ← HE.out, HW.out, H3.out]
          all_goals first | (split <;> omega) | omega
        · have b3 : (r.r.kind == 7) = false := by simp [c3]
          have HW := Lib.hid (HF.out.trans (by rw [if_neg c1, if_neg (by simpa using c2), if_neg c3, e3, Int.toNat_natCast]))
          have H3 := Lib.hid e3
          have H7 := Lib.hid e7
          clear hnw hne c1 c2 c3 e1 e3 e6 e7
          go_wp2_with (with_reducible refine at_load0 ?_; refine wpList_load_txt rfl _ rfl rfl Lr ?_)
          refine HX.out.mono ?_; rintro e w2 ⟨he, ho2⟩
          unfold GivesN nxtTup at he; rw [H7.out, H3.out] at he; subst he
          go_wp2_with fail
          go_roundw
          case rel => exact ⟨en, f', rfl, by omega, by omega, (hC w2 _ ho2).1, (hC w2 _ ho2).2, HW.out.symm.trans HE.out⟩
          case measure => simp [intOf]; omega
      · have b2 : (r.r.err == 0) = false := by simp [c2]
        obtain ⟨p, e1, e2, e3, e4, e5, e6⟩ := hnw c2
        have e7 := e5 c1
        have HW := Lib.hid (HF.out.trans (by rw [if_neg c1, if_pos c2, e1, show ((p : Int) + 1).toNat = p + 1 by omega]))
        have H1 := Lib.hid e1
        clear hne hnw c1 c2 e1 e4 e5 e6
        go_wp2_with (with_reducible refine at_load0 ?_; refine wpList_load_txt rfl _ rfl rfl Lr ?_)
        refine HX.out.mono ?_; rintro e w2 ⟨he, ho2⟩
        unfold GivesN nxtTup at he; rw [H1.out] at he; subst he
        go_wp2_with fail
        go_roundw
        case rel => exact ⟨p + 1, f', by go_num, by omega, by omega, (hC w2 _ ho2).1, (hC w2 _ ho2).2, HW.out.symm.trans HE.out⟩
        case measure => simp [intOf]; omega
end Go.Proofs.Ytmjeajfakhmakaa
