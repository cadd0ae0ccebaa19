/- Contracts of token: All. -/
import Derived.Test.YtmjeajfakhmakaaDoorNext
import Derived.Test.YtmjeajfakhmakaaDoorAllS
namespace Hb
open Go Go.RowKit
theorem own_slice {w : World} {base e size : Nat} {v : Value} {n : Nat} {xs : List Value} (h : w.ownsRow base e size v n xs) : ∃ A cap, v = .slice A n cap := by
  rcases h.2 with ⟨rfl, rfl⟩ | ⟨g, cap, cur, rfl, _⟩
  · exact ⟨_, _, rfl⟩
  · exact ⟨_, _, rfl⟩
theorem own_mono {w : World} {base base' e size : Nat} {v : Value} {n : Nat} {xs : List Value} (h : w.ownsRow base e size v n xs) (hb : base' ≤ base) : w.ownsRow base' e size v n xs := by
  refine ⟨h.1, ?_⟩
  rcases h.2 with hn | ⟨g, cap, cur, hv, hbg, rest⟩
  · exact .inl hn
  · exact .inr ⟨g, cap, cur, hv, by omega, rest⟩
theorem own_nil (w : World) (base e size : Nat) : w.ownsRow base e size (.slice none 0 0) 0 [] := ⟨by simp, .inl ⟨rfl, rfl⟩⟩
theorem own_only {w w' : World} {base e size b : Nat} {v : Value} {n : Nat} {xs : List Value} (h : w.ownsRow base e size v n xs) (hb : b < base) (ho : ∀ k, k < w.heap.size → k ≠ b → w'.heap[k]? = w.heap[k]?) : w'.ownsRow base e size v n xs := by
  refine ⟨h.1, ?_⟩
  rcases h.2 with hn | ⟨g, cap, cur, hv, hbg, hh, rest⟩
  · exact .inl hn
  · exact .inr ⟨g, cap, cur, hv, hbg, (ho g (by rw [Array.getElem?_eq_some_iff] at hh; exact hh.1) (by omega)).trans hh, rest⟩
def nxtCells (r : NextR) : List Value := [.int .i64 r.r.kind, .string ⟨r.r.text.toArray⟩, .int .i64 r.r.n, .int .i64 r.r.at_, .int .i64 r.r.end_, .bool r.lay]
def toksCells (l : List NextR) : List Value := l.flatMap nxtCells
theorem toksCells_snoc (l : List NextR) (r : NextR) : toksCells (l ++ [r]) = toksCells l ++ nxtCells r := by simp [toksCells]
theorem cell_two (w : World) (cs : Array Value) (e : TypeId) (o : Obj) (j : Nat) (v : Value) (h : cs[j]? = some v) : ((w.alloc (.cells cs e)).alloc o).cell? ⟨w.heap.size, j, none⟩ = some v :=
  (World.grownBy_alloc _ o none).cell ((World.cell?_alloc_new w cs e j).trans h) (by simp)
theorem slice_next (w : World) (o : Obj) : Value.slice (some ⟨w.heap.size + 1, 0, none⟩) 1 1 = Value.slice (some ⟨(w.alloc o).heap.size, 0, none⟩) 1 1 := by simp
theorem own_ne {w : World} {base e size : Nat} {v : Value} {n : Nat} {xs : List Value} (h : w.ownsRow base e size v n xs) {k : Nat} (hk : w.heap.size ≤ k) : some k ≠ v.ownBlock := fun hh => by
  have := h.lt k hh.symm
  omega
end Hb
namespace Go.Proofs.YtmjeajfakhmakaaDoor
open Go.RowKit Hb
set_option maxRecDepth 100000

theorem infoTok : (Tryd.prog.info? 36).map (fun i => (i.zero, i.size, i.bytes)) = some (some (.agg #[.int .i64 0, .string ⟨#[]⟩, .int .i64 0, .int .i64 0, .int .i64 0, .bool false]), 6, 56) := by kernel_rfl
def allTop (L : List UInt8) (at_ : Int) (conv : List (Int × Int)) : AllR := if okArgs L at_ conv = true then allR (cvt (convT conv) L) L at_.toNat else ⟨[], 0, 1⟩
/-- What All gives: a row of its own. -/
def GivesA (r : AllR) (w : World) (e : Ending) (w' : World) : Prop := ∃ v, e = .returned (.tuple #[v, .int .i64 r.where_, .int .i64 r.err]) ∧ Below w.heap.size w w' ∧ w'.ownsRow w.heap.size 36 6 v r.l.length (toksCells r.l)

set_option maxHeartbeats 1600000 in
theorem token_all (s : ByteArray) (at_ : Int) (A : Option Addr) (n cap : Nat) (l : List (Int × Int)) (w : World) (hn : n = l.length) (hm : n ≤ maxLen) (hs : s.size ≤ maxLen) (hp : Pairs w A l) :
    Calls Tryd.prog 28 #[.string s, .int .i64 at_, .slice A n cap] w (GivesA (allTop s.data.toList at_ l) w) := by
  by_cases ho : openOk s at_ l
  · have HK := Lib.hid (show allTop s.data.toList at_ l = allR (cvt (convT l) s.data.toList) s.data.toList at_.toNat by unfold allTop; rw [if_pos ((okArgs_iff s at_ l).2 ho)])
    obtain ⟨k, hk⟩ := Int.eq_ofNat_of_zero_le ho.2.1
    subst hk
    have hk2 : k ≤ s.size := by have := ho.2.2.1; omega
    have hsz := ho.1
    have HO := Lib.hid (lex_open_yes s k A n cap l w hn hm hp ho)
    clear hn hp ho
    rw [Int.toNat_natCast] at HK
    have HRl : Hid (s.data.toList.length = s.size) := size_data s
    have HMl : Hid ((cvt (convT l) s.data.toList).length = s.data.toList.length) := cvt_len _ _
    rw [HK.out]
    clear HK
    go_enter Tryd.func28, Tryd.ntmps28
    go_wp2_with fail
    refine HO.out.mono ?_; rintro e w1 ⟨b, rfl, hb, hB1, L⟩
    have hbl := L.lt
    go_wp2_with fail
    go_loopw [1, 6] (fun i v wr => ∃ a f : Nat, ∃ q : Int, ∃ acc : List NextR, i = .int .i64 a ∧ a ≤ s.size ∧ s.size - a < f ∧ acc.length ≤ a ∧ Below w.heap.size w wr ∧ w1.heap.size ≤ wr.heap.size ∧ Lex wr b s (convT l) q ∧ wr.ownsRow w1.heap.size 36 6 v acc.length (toksCells acc) ∧ Hid (allF f (cvt (convT l) s.data.toList) s.data.toList a acc = allR (cvt (convT l) s.data.toList) s.data.toList k)) (fun i _ _ => s.size - (intOf i).toNat)
    case atStart => exact ⟨k, s.size + 1, _, [], rfl, hk2, by omega, Nat.zero_le _, hB1, Nat.le_refl _, L, own_nil _ _ _ _, by show _ = _; unfold allR; rw [HRl.out]⟩
    case round =>
      obtain ⟨a, f, q, acc, rfl, ha, hf, hal, hB, hw1, Lr, hown, HE⟩ := hrel
      obtain ⟨f', rfl⟩ : ∃ f', f = f' + 1 := ⟨f - 1, by omega⟩
      obtain ⟨A', cap', rfl⟩ := own_slice hown
      have hbs := hB.size
      have hne := next_end (cvt (convT l) s.data.toList) s.data.toList HMl.out a (by rw [HRl.out]; exact ha)
      rw [HRl.out] at hne
      have HF := Lib.hid (allF_succ f' (cvt (convT l) s.data.toList) s.data.toList a acc)
      have HX := Lib.hid (lex_next b s _ a _ wr Lr ha)
      generalize hr : nextR (cvt (convT l) s.data.toList) s.data.toList a = r at *
      clear hr Lr
      by_cases c1 : r.r.err = 14
      · have b1 : (r.r.err == 14) = true := by simp [c1]
        cases acc with
        | nil =>
          have b2 : (r.r.err != 0) = true := by simp [c1]
          have HV := Lib.hid (HF.out.trans (by rw [if_neg (by simp), if_pos (by omega)]))
          clear hne c1
          go_wp2_with fail
          refine HX.out.mono ?_; rintro e w2 ⟨he, ho2, q2, L2⟩
          unfold GivesN nxtTup at he; subst he
          have hB2 := hB.trans (ho2.toBelow' hb hbs)
          go_wp2_with fail
          refine bodyPost_ret (v := .tuple #[.slice none 0 0, .int .i64 r.where_, .int .i64 r.r.err]) (by simp [results, Tryd.results28, go_sem]) rfl ⟨_, by rw [← HE.out, HV.out], hB2.alloc hB2.size _, by rw [← HE.out, HV.out]; exact own_nil _ _ _ _⟩
        | cons x xs =>
          have HV := Lib.hid (HF.out.trans (by rw [if_pos ⟨c1, by simp⟩]))
          clear hne c1
          go_wp2_with fail
          refine HX.out.mono ?_; rintro e w2 ⟨he, ho2, q2, L2⟩
          unfold GivesN nxtTup at he; subst he
          have hB2 := hB.trans (ho2.toBelow' hb hbs)
          go_wp2_with fail
          refine bodyPost_ret (v := .tuple #[.slice none 0 0, .int .i64 r.where_, .int .i64 7]) (by simp [results, Tryd.results28, go_sem]) rfl ⟨_, by rw [← HE.out, HV.out], hB2.alloc hB2.size _, by rw [← HE.out, HV.out]; exact own_nil _ _ _ _⟩
      have b1 : (r.r.err == 14) = false := by simp [c1]
      by_cases c2 : r.r.err = 0
      · have b2 : (r.r.err != 0) = false := by simp [c2]
        obtain ⟨p, en, e1, e2, e3, e4, e5, e6, e7⟩ := hne c2
        by_cases c3 : r.r.kind = 7
        · have b3 : (r.r.kind == 7) = true := by simp [c3]
          have HV := Lib.hid (HF.out.trans (by rw [if_neg (by simp [c1]), if_neg (by simpa using c2), if_pos c3]))
          clear hne c1 c2 c3 e1 e3 e6 e7
          go_wp2_with fail
          refine HX.out.mono ?_; rintro e w2 ⟨he, ho2, q2, L2⟩
          unfold GivesN nxtTup at he; subst he
          have hB2 := hB.trans (ho2.toBelow' hb hbs)
          have HOwn := Lib.hid ((own_only hown hbl ho2.block).alloc (.cells #[.int .i64 r.r.kind, .string ⟨r.r.text.toArray⟩, .int .i64 r.r.n, .int .i64 r.r.at_, .int .i64 r.r.end_, .bool r.lay] 36))
          go_wp2_with (at_builtin; go_must (refine wpList_append_one rfl _ _ 40 36 rfl Tryd.underlying40 _ 6 56 infoTok rfl (by decide) w1.heap.size _ _ _ rfl _ HOwn.out #[.int .i64 r.r.kind, .string ⟨r.r.text.toArray⟩, .int .i64 r.r.n, .int .i64 r.r.at_, .int .i64 r.r.end_, .bool r.lay] rfl (by simp [Value.oneCell']) rfl (slice_next _ _) (by omega) (by omega) (by simp; have := ho2.size; omega) ?_; intro v1 w3 hown3 hB3 hg3; have t0 := hg3.cell (cell_two w2 _ _ _ 0 _ rfl) (own_ne hown ho2.size); have t4 := hg3.cell (cell_two w2 _ _ _ 4 _ rfl) (own_ne hown ho2.size); clear HOwn))
          refine bodyPost_ret (v := .tuple #[v1, .int .i64 0, .int .i64 0]) (by simp [results, Tryd.results28, go_sem]) rfl ⟨v1, by rw [← HE.out, HV.out], (hB2.alloc hB2.size _).trans (hB3.mono hB1.size), by rw [← HE.out, HV.out, toksCells_snoc, List.length_append]; exact own_mono hown3 hB1.size⟩
        · have b3 : (r.r.kind == 7) = false := by simp [c3]
          have HV := Lib.hid (HF.out.trans (by rw [if_neg (by simp [c1]), if_neg (by simpa using c2), if_neg c3, e3, Int.toNat_natCast]))
          have HE3 := Lib.hid e3
          clear hne c1 c2 c3 e1 e3 e6 e7
          go_wp2_with fail
          refine HX.out.mono ?_; rintro e w2 ⟨he, ho2, q2, L2⟩
          unfold GivesN nxtTup at he; subst he
          have hB2 := hB.trans (ho2.toBelow' hb hbs)
          have HOwn := Lib.hid ((own_only hown hbl ho2.block).alloc (.cells #[.int .i64 r.r.kind, .string ⟨r.r.text.toArray⟩, .int .i64 r.r.n, .int .i64 r.r.at_, .int .i64 r.r.end_, .bool r.lay] 36))
          go_wp2_with (at_builtin; go_must (refine wpList_append_one rfl _ _ 40 36 rfl Tryd.underlying40 _ 6 56 infoTok rfl (by decide) w1.heap.size _ _ _ rfl _ HOwn.out #[.int .i64 r.r.kind, .string ⟨r.r.text.toArray⟩, .int .i64 r.r.n, .int .i64 r.r.at_, .int .i64 r.r.end_, .bool r.lay] rfl (by simp [Value.oneCell']) rfl (slice_next _ _) (by omega) (by omega) (by simp; have := ho2.size; omega) ?_; intro v1 w3 hown3 hB3 hg3; have t0 := hg3.cell (cell_two w2 _ _ _ 0 _ rfl) (own_ne hown ho2.size); have t4 := hg3.cell (cell_two w2 _ _ _ 4 _ rfl) (own_ne hown ho2.size); clear HOwn))
          go_roundw
          case rel => exact ⟨en, f', q2, acc ++ [r], congrArg (Value.int IntKind.i64) HE3.out, by omega, by omega, by simp; omega, (hB2.alloc hB2.size _).trans (hB3.mono hB1.size), Nat.le_trans hw1 (Nat.le_trans ho2.size (Nat.le_trans (by simp) hB3.size)), L2.below (((Below.refl w1.heap.size w2).alloc (Nat.le_trans hw1 ho2.size) _).trans hB3) hbl, by rw [toksCells_snoc, List.length_append]; exact hown3, HV.out.symm.trans HE.out⟩
          case measure => rw [HE3.out]; simp [intOf]; omega
      · have b2 : (r.r.err != 0) = true := by simp [c2]
        have HV := Lib.hid (HF.out.trans (by rw [if_neg (by simp [c1]), if_pos c2]))
        clear hne c1 c2
        go_wp2_with fail
        refine HX.out.mono ?_; rintro e w2 ⟨he, ho2, q2, L2⟩
        unfold GivesN nxtTup at he; subst he
        have hB2 := hB.trans (ho2.toBelow' hb hbs)
        go_wp2_with fail
        refine bodyPost_ret (v := .tuple #[.slice none 0 0, .int .i64 r.where_, .int .i64 r.r.err]) (by simp [results, Tryd.results28, go_sem]) rfl ⟨_, by rw [← HE.out, HV.out], hB2.alloc hB2.size _, by rw [← HE.out, HV.out]; exact own_nil _ _ _ _⟩
  · have HK := Lib.hid (show allTop s.data.toList at_ l = ⟨[], 0, 1⟩ by unfold allTop; rw [if_neg (fun h => ho ((okArgs_iff s at_ l).1 h))])
    have HO := Lib.hid (lex_open_no s at_ A n cap l w hn hm hs hp ho)
    clear hn hp ho
    rw [HK.out]
    go_enter Tryd.func28, Tryd.ntmps28
    go_wp2_with fail
    refine HO.out.mono ?_; rintro e w1 ⟨rfl, hB1⟩
    go_wp2_with fail
    refine bodyPost_ret (v := .tuple #[.slice none 0 0, .int .i64 0, .int .i64 1]) (by simp [results, Tryd.results28, go_sem]) rfl ⟨_, rfl, hB1, own_nil _ _ _ _⟩
end Go.Proofs.YtmjeajfakhmakaaDoor
