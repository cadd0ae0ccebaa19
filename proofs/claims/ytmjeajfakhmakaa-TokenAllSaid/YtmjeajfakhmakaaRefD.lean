/- Contracts of layer 9's reference: All, Skip. -/
import Derived.Test.YtmjeajfakhmakaaRefC
namespace Go.Proofs.Ytmjeajfakhmakaa
open Go.RowKit Hb
set_option maxRecDepth 100000

set_option maxHeartbeats 1600000 in
theorem ref_all (s : ByteArray) (at_ : Int) (A : Option Addr) (n cap : Nat) (l : List (Int × Int)) (w : World) (hn : n = l.length) (hm : n ≤ maxLen) (hp : Pairs w A l) :
    Calls Try.prog 13 #[.string s, .int .i64 at_, .slice A n cap] w (GivesA (allTop s.data.toList at_ l) w) := by
  have HN := Lib.hid hn
  have HP := Lib.hid hp
  clear hn hp
  have HV0 := Lib.hid (ref_validA s at_ A n cap l w HN.out hm HP.out)
  cases hv : okArgs s.data.toList at_ l with
  | false =>
    have HK := Lib.hid (show allTop s.data.toList at_ l = ⟨[], 0, 1⟩ by unfold allTop; rw [hv]; rfl)
    have HV := Lib.hid hv
    clear hv
    rw [HK.out]
    go_enter Try.func13, Try.ntmps13
    go_wp2_with fail
    refine HV0.out.mono ?_; rintro e w1 ⟨rfl, hB1⟩; rw [HV.out]
    go_wp2_with fail
    refine bodyPost_ret (v := .tuple #[.slice none 0 0, .int .i64 0, .int .i64 1]) (by simp [results, Try.results13, go_sem]) rfl ⟨_, rfl, hB1, own_nil _ _ _ _⟩
  | true =>
    obtain ⟨⟨ho1, ho2, ho3, ho4⟩, htab⟩ := okArgs_tab s at_ l hv
    obtain ⟨k, hk⟩ := Int.eq_ofNat_of_zero_le ho2
    subst hk
    have hk2 : k ≤ s.size := by omega
    have HK := Lib.hid (show allTop s.data.toList k l = allR (cvt (convT l) s.data.toList) s.data.toList k by unfold allTop; rw [hv]; rfl)
    have HV := Lib.hid hv
    have HT := Lib.hid htab
    have H4 := Lib.hid ho4
    have HRl : Hid (s.data.toList.length = s.size) := size_data s
    have HMl : Hid ((cvt (convT l) s.data.toList).length = s.data.toList.length) := cvt_len _ _
    clear hv htab ho4 ho2 ho3
    rw [HK.out]
    clear HK
    go_enter Try.func13, Try.ntmps13
    go_wp2_with fail
    refine HV0.out.mono ?_; rintro e wA ⟨rfl, hBA⟩; rw [HV.out]
    have hPA := Lib.hid (HP.out.below hBA)
    go_wp2_with fail
    refine (ref_new s A n cap l _ HN.out hm hPA.out H4.out).mono ?_; rintro e wB ⟨rfl, hBB⟩
    go_wp2_with (first | (with_reducible refine at_atxt ?_; refine wpList_alloc_txt rfl rfl ?_; intro b wC TC hb hBC) | (with_reducible refine at_txt ?_; refine wpList_store_txt rfl _ _ rfl rfl rfl TC ?_; intro w1 L hz3 ho3 hB3))
    have hbw : w.heap.size ≤ b := by have := hBA.size; have := hBB.size; omega
    have hB1 : Below w.heap.size w w1 := hB3 _ _ (hBA.trans ((hBB.mono hBA.size).trans (hBC.mono (Nat.le_trans hBA.size hBB.size)))) hbw
    have hbl := L.lt
    clear hBA hBB hBC hB3 ho3 hz3 TC
    go_loopw [1, 10] (fun i v wr => ∃ a f : Nat, ∃ acc : List NextR, i = .int .i64 a ∧ a ≤ s.size ∧ s.size - a < f ∧ acc.length ≤ a ∧ Below w.heap.size w wr ∧ w1.heap.size ≤ wr.heap.size ∧ Txt wr b s (convT l) ∧ wr.ownsRow w1.heap.size 32 6 v acc.length (toksCells acc) ∧ Hid (allF f (cvt (convT l) s.data.toList) s.data.toList a acc = allR (cvt (convT l) s.data.toList) s.data.toList k)) (fun i _ _ => s.size - (intOf i).toNat)
    case atStart => exact ⟨k, s.size + 1, [], rfl, hk2, by omega, Nat.zero_le _, hB1, Nat.le_refl _, L, own_nil _ _ _ _, by show _ = _; unfold allR; rw [HRl.out]⟩
    case round =>
      obtain ⟨a, f, acc, rfl, ha, hf, hal, hB, hw1, Lr, hown, HE⟩ := hrel
      obtain ⟨f', rfl⟩ : ∃ f', f = f' + 1 := ⟨f - 1, by omega⟩
      obtain ⟨A', cap', rfl⟩ := own_slice hown
      have hbs := hB.size
      have hne := next_end (cvt (convT l) s.data.toList) s.data.toList HMl.out a (by rw [HRl.out]; exact ha)
      rw [HRl.out] at hne
      have HF := Lib.hid (allF_succ f' (cvt (convT l) s.data.toList) s.data.toList a acc)
      have HX := Lib.hid (txt_next s (convT l) HT.out a ha ho1 wr)
      generalize hr : nextR (cvt (convT l) s.data.toList) s.data.toList a = r at *
      clear hr
      by_cases c1 : r.r.err = 14
      · have b1 : (r.r.err == 14) = true := by simp [c1]
        cases acc with
        | nil =>
          have b2 : (r.r.err != 0) = true := by simp [c1]
          have HW := Lib.hid (HF.out.trans (by rw [if_neg (by simp), if_pos (by omega)]))
          clear hne c1
          go_wp2_with (with_reducible refine at_load0 ?_; refine wpList_load_txt rfl _ rfl rfl Lr ?_)
          refine HX.out.mono ?_; rintro e w2 ⟨he, ho2⟩
          unfold GivesN nxtTup at he; subst he
          have hB2 := hB.trans (ho2.mono hbs)
          go_wp2_with fail
          refine bodyPost_ret (v := .tuple #[.slice none 0 0, .int .i64 r.where_, .int .i64 r.r.err]) (by simp [results, Try.results13, go_sem]) rfl ⟨_, by rw [← HE.out, HW.out], hB2.alloc hB2.size _, by rw [← HE.out, HW.out]; exact own_nil _ _ _ _⟩
        | cons x xs =>
          have HW := Lib.hid (HF.out.trans (by rw [if_pos ⟨c1, by simp⟩]))
          have b3 : decide (0 < xs.length + 1) = true := by simp
          clear hne c1
          go_wp2_with (with_reducible refine at_load0 ?_; refine wpList_load_txt rfl _ rfl rfl Lr ?_)
          refine HX.out.mono ?_; rintro e w2 ⟨he, ho2⟩
          unfold GivesN nxtTup at he; subst he
          have hB2 := hB.trans (ho2.mono hbs)
          go_wp2_with fail
          refine bodyPost_ret (v := .tuple #[.slice none 0 0, .int .i64 r.where_, .int .i64 7]) (by simp [results, Try.results13, go_sem]) rfl ⟨_, by rw [← HE.out, HW.out], hB2.alloc hB2.size _, by rw [← HE.out, HW.out]; exact own_nil _ _ _ _⟩
      have b1 : (r.r.err == 14) = false := by simp [c1]
      by_cases c2 : r.r.err = 0
      · have b2 : (r.r.err != 0) = false := by simp [c2]
        obtain ⟨p, en, e1, e2, e3, e4, e5, e6, e7⟩ := hne c2
        by_cases c3 : r.r.kind = 7
        · have b3 : (r.r.kind == 7) = true := by simp [c3]
          have HW := Lib.hid (HF.out.trans (by rw [if_neg (by simp [c1]), if_neg (by simpa using c2), if_pos c3]))
          clear hne c1 c2 c3 e1 e3 e6 e7
          go_wp2_with (with_reducible refine at_load0 ?_; refine wpList_load_txt rfl _ rfl rfl Lr ?_)
          refine HX.out.mono ?_; rintro e w2 ⟨he, ho2⟩
          unfold GivesN nxtTup at he; subst he
          have hB2 := hB.trans (ho2.mono hbs)
          have HOwn := Lib.hid ((own_call hown ho2 (Nat.le_refl _)).alloc (.cells #[.int .i64 r.r.kind, .string ⟨r.r.text.toArray⟩, .int .i64 r.r.n, .int .i64 r.r.at_, .int .i64 r.r.end_, .bool r.lay] 32))
          go_wp2_with (at_builtin; go_must (refine wpList_append_one rfl _ _ 24 32 rfl Try.underlying24 _ 6 56 infoTok rfl (by decide) w1.heap.size _ _ _ rfl _ HOwn.out #[.int .i64 r.r.kind, .string ⟨r.r.text.toArray⟩, .int .i64 r.r.n, .int .i64 r.r.at_, .int .i64 r.r.end_, .bool r.lay] rfl (by simp [Value.oneCell']) rfl (slice_next _ _) (by omega) (by omega) (by simp; have := ho2.size; omega) ?_; intro v1 w3 hown3 hB3 hg3; have t0 := hg3.cell (cell_two w2 _ _ _ 0 _ rfl) (own_ne hown ho2.size); have t4 := hg3.cell (cell_two w2 _ _ _ 4 _ rfl) (own_ne hown ho2.size); clear HOwn))
          refine bodyPost_ret (v := .tuple #[v1, .int .i64 0, .int .i64 0]) (by simp [results, Try.results13, go_sem]) rfl ⟨v1, by rw [← HE.out, HW.out], (hB2.alloc hB2.size _).trans (hB3.mono hB1.size), by rw [← HE.out, HW.out, toksCells_snoc, List.length_append]; exact own_mono hown3 hB1.size⟩
        · have b3 : (r.r.kind == 7) = false := by simp [c3]
          have HW := Lib.hid (HF.out.trans (by rw [if_neg (by simp [c1]), if_neg (by simpa using c2), if_neg c3, e3, Int.toNat_natCast]))
          have HE3 := Lib.hid e3
          clear hne c1 c2 c3 e1 e3 e6 e7
          go_wp2_with (with_reducible refine at_load0 ?_; refine wpList_load_txt rfl _ rfl rfl Lr ?_)
          refine HX.out.mono ?_; rintro e w2 ⟨he, ho2⟩
          unfold GivesN nxtTup at he; subst he
          have hB2 := hB.trans (ho2.mono hbs)
          have HOwn := Lib.hid ((own_call hown ho2 (Nat.le_refl _)).alloc (.cells #[.int .i64 r.r.kind, .string ⟨r.r.text.toArray⟩, .int .i64 r.r.n, .int .i64 r.r.at_, .int .i64 r.r.end_, .bool r.lay] 32))
          go_wp2_with (at_builtin; go_must (refine wpList_append_one rfl _ _ 24 32 rfl Try.underlying24 _ 6 56 infoTok rfl (by decide) w1.heap.size _ _ _ rfl _ HOwn.out #[.int .i64 r.r.kind, .string ⟨r.r.text.toArray⟩, .int .i64 r.r.n, .int .i64 r.r.at_, .int .i64 r.r.end_, .bool r.lay] rfl (by simp [Value.oneCell']) rfl (slice_next _ _) (by omega) (by omega) (by simp; have := ho2.size; omega) ?_; intro v1 w3 hown3 hB3 hg3; have t0 := hg3.cell (cell_two w2 _ _ _ 0 _ rfl) (own_ne hown ho2.size); have t4 := hg3.cell (cell_two w2 _ _ _ 4 _ rfl) (own_ne hown ho2.size); clear HOwn))
          go_roundw
          case rel => exact ⟨en, f', acc ++ [r], congrArg (Value.int IntKind.i64) HE3.out, by omega, by omega, by simp; omega, (hB2.alloc hB2.size _).trans (hB3.mono hB1.size), Nat.le_trans hw1 (Nat.le_trans ho2.size (Nat.le_trans (by simp) hB3.size)), (Lr.below ho2 Lr.lt).below (((Below.refl w1.heap.size w2).alloc (Nat.le_trans hw1 ho2.size) _).trans hB3) hbl, by rw [toksCells_snoc, List.length_append]; exact hown3, HW.out.symm.trans HE.out⟩
          case measure => rw [HE3.out]; simp [intOf]; omega
      · have b2 : (r.r.err != 0) = true := by simp [c2]
        have HW := Lib.hid (HF.out.trans (by rw [if_neg (by simp [c1]), if_pos c2]))
        clear hne c1 c2
        go_wp2_with (with_reducible refine at_load0 ?_; refine wpList_load_txt rfl _ rfl rfl Lr ?_)
        refine HX.out.mono ?_; rintro e w2 ⟨he, ho2⟩
        unfold GivesN nxtTup at he; subst he
        have hB2 := hB.trans (ho2.mono hbs)
        go_wp2_with fail
        refine bodyPost_ret (v := .tuple #[.slice none 0 0, .int .i64 r.where_, .int .i64 r.r.err]) (by simp [results, Try.results13, go_sem]) rfl ⟨_, by rw [← HE.out, HW.out], hB2.alloc hB2.size _, by rw [← HE.out, HW.out]; exact own_nil _ _ _ _⟩
end Go.Proofs.Ytmjeajfakhmakaa
