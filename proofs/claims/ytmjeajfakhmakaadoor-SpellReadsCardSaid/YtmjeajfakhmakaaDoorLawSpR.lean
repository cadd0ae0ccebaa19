/- The law SpellReads. -/
import Derived.Test.YtmjeajfakhmakaaDoorSpellA
import Derived.Test.YtmjeajfakhmakaaDoorTopJ
import Derived.Test.YtmjeajfakhmakaaDoorSame
import Derived.StillTailTactics
namespace Hb
open Go Go.RowKit
theorem app_two (a : List UInt8) : ((⟨a.toArray⟩ : ByteArray) ++ ⟨#[32, 46]⟩).data.toList = a ++ [32, 46] := by simp
theorem empty_mk' (l : List UInt8) : (⟨l.toArray⟩ : ByteArray).toList = l := by rw [tl_data]
theorem bytes_back' (s : ByteArray) : (⟨s.data.toList.toArray⟩ : ByteArray) = s := by simp
theorem join_one (a : List UInt8) : joinN [a] = a := by simp [joinN, joinFrom, sepOf, glueN]
theorem atom_len (s : List UInt8) (h : s.length ≤ 100) : (atomN s).length ≤ 502 := by
  unfold atomN
  split
  · omega
  · have := btws_le s
    unfold quoteN; simp; omega
end Hb
namespace Go.Proofs.YtmjeajfakhmakaaDoor
open Go.RowKit Hb
set_option maxRecDepth 100000
/-- What All gives at the text of an atom, neither [] nor {}: two tokens. -/
theorem all_atom (s : ByteArray) (h : s.size ≤ 100) (h1 : ¬s.data.toList = [91, 93]) (h2 : ¬s.data.toList = [123, 125]) (q : ByteArray) (hq : q = ⟨(atomN s.data.toList).toArray⟩) (w : World) :
    Calls Tryd.prog 28 #[.string (q ++ ⟨#[32, 46]⟩), .int .i64 0, .slice none 0 0] w fun e w' => ∃ A cap, ∃ l : List NextR, (e = .returned (.tuple #[.slice A 2 cap, .int .i64 0, .int .i64 0]) ∧ Hid (l.length = 2 ∧ l[0]? = some ⟨⟨if plainN s.data.toList = true then 1 else 2, s.data.toList, 0, 0, q.size, 0⟩, false, 0⟩)) ∧ Below w.heap.size w w' ∧ Toks w' A l := by
  have hl := atom_len s.data.toList (by rw [size_data]; exact h)
  have hT : TokText (atomN s.data.toList) ∧ tokR (atomN s.data.toList) (atomN s.data.toList) 0 = ⟨if plainN s.data.toList = true then 1 else 2, s.data.toList, 0, 0, (atomN s.data.toList).length, 0⟩ := by
    unfold atomN
    by_cases hp : plainN s.data.toList = true
    · rw [if_pos hp, if_pos hp]; exact plain_text _ hp h1 h2
    · rw [if_neg hp, if_neg hp]; exact quote_text _ (by rw [size_data]; exact h)
  have hTop := top_join [atomN s.data.toList] (fun t ht => by rw [List.mem_singleton] at ht; subst ht; exact hT.1) (by rw [join_one]; omega)
  rw [join_one] at hTop
  have hd : (q ++ ⟨#[32, 46]⟩).data.toList = atomN s.data.toList ++ [32, 46] := by rw [hq]; exact app_two _
  have hqs : (q.size : Int) = (atomN s.data.toList).length := by rw [hq]; simp [ByteArray.size]
  obtain ⟨l, hl2⟩ : ∃ l, l = toksOf 0 [] [atomN s.data.toList] ++ [endT (atomN s.data.toList).length] := ⟨_, rfl⟩
  have hlen : l.length = 2 := by rw [hl2, List.length_append, toksOf_len]; simp
  have hl0 : l[0]? = some ⟨⟨if plainN s.data.toList = true then 1 else 2, s.data.toList, 0, 0, q.size, 0⟩, false, 0⟩ := by
    rw [hl2, hqs]
    simp only [toksOf, sep_nil, List.length_nil, Nat.add_zero, List.singleton_append, List.getElem?_cons_zero]
    rw [hT.2, shL_ok0 _ _ rfl]
    simp
  rw [← hl2] at hTop
  clear hl2 hT hqs
  have H := token_all (q ++ ⟨#[32, 46]⟩) 0 none 0 0 [] w rfl (by decide) (by rw [← size_data, hd]; unfold maxLen; simp; omega) (Pairs.nil w none)
  rw [hd, hTop] at H
  refine H.mono ?_
  rintro e w' ⟨v, rfl, hB, ho⟩
  obtain ⟨A, cap, hv, ht⟩ := toks_own (l := l) ho
  refine ⟨A, cap, l, ⟨?_, ⟨hlen, hl0⟩⟩, hB, ht⟩
  rw [hv, hlen]
/-- What All gives at [] and {}: three tokens. -/
theorem all_pair (a b : UInt8) (h : (a = 91 ∧ b = 93) ∨ (a = 123 ∧ b = 125)) (w : World) :
    Calls Tryd.prog 28 #[.string ((⟨#[a, b]⟩ : ByteArray) ++ ⟨#[32, 46]⟩), .int .i64 0, .slice none 0 0] w fun e w' => ∃ A cap, ∃ l : List NextR, (e = .returned (.tuple #[.slice A 3 cap, .int .i64 0, .int .i64 0]) ∧ Hid (l.length = 3 ∧ (l[0]?.map (·.r.text) = some [a] ∧ l[1]?.map (·.r.text) = some [b]))) ∧ Below w.heap.size w w' ∧ Toks w' A l := by
  have hd : ((⟨#[a, b]⟩ : ByteArray) ++ ⟨#[32, 46]⟩).data.toList = [a, b, 32, 46] := by simp
  have hTop : ∃ l : List NextR, allTop [a, b, 32, 46] 0 [] = ⟨l, 0, 0⟩ ∧ l.length = 3 ∧ (l[0]?.map (·.r.text) = some [a] ∧ l[1]?.map (·.r.text) = some [b]) := by
    rcases h with ⟨rfl, rfl⟩ | ⟨rfl, rfl⟩
    · exact ⟨[⟨⟨6, [91], 0, 0, 1, 0⟩, false, 0⟩, ⟨⟨6, [93], 0, 1, 2, 0⟩, false, 0⟩, ⟨⟨7, [46], 0, 3, 4, 0⟩, true, 0⟩], by kernel_rfl, rfl, rfl, rfl⟩
    · exact ⟨[⟨⟨6, [123], 0, 0, 1, 0⟩, false, 0⟩, ⟨⟨6, [125], 0, 1, 2, 0⟩, false, 0⟩, ⟨⟨7, [46], 0, 3, 4, 0⟩, true, 0⟩], by kernel_rfl, rfl, rfl, rfl⟩
  obtain ⟨l, hl, h3⟩ := hTop
  have H := token_all ((⟨#[a, b]⟩ : ByteArray) ++ ⟨#[32, 46]⟩) 0 none 0 0 [] w rfl (by decide) (by rw [← size_data, hd]; unfold maxLen; simp) (Pairs.nil w none)
  rw [hd, hl] at H
  refine H.mono ?_
  rintro e w' ⟨v, rfl, hB, ho⟩
  obtain ⟨A, cap, hv, ht⟩ := toks_own (l := l) ho
  refine ⟨A, cap, l, ⟨?_, h3⟩, hB, ht⟩
  rw [hv, h3.1]

set_option maxHeartbeats 1600000 in
theorem law_spellReads (s : ByteArray) (hs : s.size ≤ maxLen) (w : World) (hT : Tab15 w) :
    Calls Tryd.prog 9 #[.string s] w fun e w' => e = .returned (.bool true) ∧ Below w.heap.size w w' := by
  have HT := Lib.hid hT
  clear hT
  by_cases c1 : 100 < s.size
  · have b1 : decide ((100 : Int) < s.size) = true := by simp; omega
    clear c1
    go_enter Tryd.func9, Tryd.ntmps9
    go_wp2_with fail
    refine (law_awake11 _ HT.out).mono ?_; rintro e w1 ⟨rfl, hB1⟩
    go_wp2_with fail
    go_ret
    exact ⟨rfl, hB1⟩
  have b1 : decide ((100 : Int) < s.size) = false := by simp; omega
  have hm : s.size ≤ 1000000 := by omega
  have h100 : s.size ≤ 100 := by omega
  have hal := atom_len s.data.toList (by rw [size_data]; exact h100)
  generalize hq : (⟨(atomN s.data.toList).toArray⟩ : ByteArray) = q
  have HQ := Lib.hid hq
  have hqs : q.size ≤ 502 := by rw [← hq]; simpa [ByteArray.size] using hal
  have HA := Lib.hid (v_atom (w0 := w) s q hq hm HT.out (Below.refl _ _))
  have HTL := Lib.hid (tl_data s)
  clear hq c1 hal
  by_cases d1 : s.toList = [91, 93] ∨ s.toList = [123, 125]
  · have hpair : ∃ a b : UInt8, ((a = 91 ∧ b = 93) ∨ (a = 123 ∧ b = 125)) ∧ s = ⟨#[a, b]⟩ := by
      have back : ∀ l : List UInt8, s.toList = l → s = ⟨l.toArray⟩ := fun l h => by rw [← h, tl_data]
      rcases d1 with h | h
      · exact ⟨91, 93, .inl ⟨rfl, rfl⟩, back _ h⟩
      · exact ⟨123, 125, .inr ⟨rfl, rfl⟩, back _ h⟩
    obtain ⟨a, b, hab, rfl⟩ := hpair
    have hqs2 : q = ⟨#[a, b]⟩ := by
      rw [← HQ.out]
      rcases hab with ⟨rfl, rfl⟩ | ⟨rfl, rfl⟩
      · decide +kernel
      · decide +kernel
    subst hqs2
    have HL := Lib.hid (fun w' => all_pair a b hab w')
    have HAB := Lib.hid hab
    clear hab d1 hqs
    rcases HAB.out with ⟨rfl, rfl⟩ | ⟨rfl, rfl⟩
    all_goals
      go_enter Tryd.func9, Tryd.ntmps9
      go_wp2_with fail
      refine HA.out.mono ?_; rintro e w1 ⟨rfl, hB1⟩
      have hs1 := hB1.size
      go_wp2_with fail
      refine (HL.out _).mono ?_; rintro e w2 ⟨A, cap, l, ⟨rfl, HF⟩, hB2, hTk⟩
      have hB := hB1.trans (hB2.mono hs1)
      obtain ⟨hlen, hl0, hl1⟩ := HF.out
      obtain ⟨b, off, rfl, t⟩ := hTk 0 (by omega)
      obtain ⟨b', off', hA, t'⟩ := hTk 1 (by omega)
      obtain ⟨rfl, rfl⟩ : b' = b ∧ off' = off := by injection hA with hA; injection hA with h1 h2 _; exact ⟨h1.symm, h2.symm⟩
      rw [List.getElem?_eq_getElem (by omega), Option.map_some] at hl0 hl1
      injection hl0 with hl0
      injection hl1 with hl1
      have t1 := t.c1
      have t1' := t'.c1
      rw [hl0, Nat.zero_mul, Nat.add_zero] at t1
      rw [hl1, Nat.one_mul] at t1'
      have t1'' := t1'
      rw [show off' + 6 + 1 = off' + 7 from rfl] at t1''
      have x1 : (⟨#[91, 93]⟩ : ByteArray).extract 0 1 = ⟨#[91]⟩ := by decide +kernel
      have x2 : (⟨#[91, 93]⟩ : ByteArray).extract 1 2 = ⟨#[93]⟩ := by decide +kernel
      have x3 : (⟨#[123, 125]⟩ : ByteArray).extract 0 1 = ⟨#[123]⟩ := by decide +kernel
      have x4 : (⟨#[123, 125]⟩ : ByteArray).extract 1 2 = ⟨#[125]⟩ := by decide +kernel
      have tl := t.lt
      clear t t' hl0 hl1 hA hTk hB2 HF hlen
      go_wp2_with fail
      go_still_tail 27, (by kernel_rfl)
      all_goals (change wpList _ _ _ _ _ w2.drew)
      have hBd := hB.drew
      generalize w2.drew = w3 at *
      go_wp2_with fail
      refine (carry (w0 := w) hBd (law_awake11 _ (HT.out.below hBd))).mono ?_; rintro e w7 ⟨rfl, hB7⟩
      go_wp2_with fail
      go_ret
      exact ⟨rfl, hB7⟩
  have n1 : ¬s.toList = [91, 93] := fun h => d1 (.inl h)
  have n2 : ¬s.toList = [123, 125] := fun h => d1 (.inr h)
  have m1 : (s.toList == [91, 93]) = false := by simp [n1]
  have m2 : (s.toList == [123, 125]) = false := by simp [n2]
  clear d1
  have HL := Lib.hid (fun w' => all_atom s h100 (by rw [← HTL.out]; exact n1) (by rw [← HTL.out]; exact n2) q HQ.out.symm w')
  cases hp : plainN s.data.toList
  all_goals rw [hp] at HL
  · have hne : ¬q.toList = s.toList := by
      rw [← HQ.out, empty_mk', tl_data]
      unfold atomN
      rw [hp, if_neg (by decide)]
      intro h
      have h1 := congrArg List.length h
      have := quoteN_len s.data.toList
      omega
    have m3 : (q.toList == s.toList) = false := by simp [hne]
    have m4 : (q.toList != s.toList) = true := by simp [hne]
    clear hp
    go_enter Tryd.func9, Tryd.ntmps9
    go_wp2_with fail
    refine HA.out.mono ?_; rintro e w1 ⟨rfl, hB1⟩
    have hs1 := hB1.size
    go_wp2_with fail
    refine (HL.out _).mono ?_; rintro e w2 ⟨A, cap, l, ⟨rfl, HF⟩, hB2, hTk⟩
    have hB := hB1.trans (hB2.mono hs1)
    obtain ⟨hlen, hl0⟩ := HF.out
    obtain ⟨b, off, rfl, t⟩ := hTk 0 (by omega)
    rw [List.getElem?_eq_getElem (by omega)] at hl0
    injection hl0 with hl0
    rw [hl0, Nat.zero_mul, Nat.add_zero] at t
    obtain ⟨tl, t0, t1, t2, t3, t4, t5⟩ := t
    simp only [Bool.false_eq_true, if_false] at t0 t1 t2 t3 t4 t5
    rw [bytes_back'] at t1
    clear hl0 hTk hB2 HF hlen
    go_wp2_with fail
    refine (carry (w0 := w) hB (law_awake11 _ (HT.out.below hB))).mono ?_; rintro e w7 ⟨rfl, hB7⟩
    go_wp2_with fail
    go_ret
    exact ⟨rfl, hB7⟩
  · have hqe : q = s := by
      rw [← HQ.out]; unfold atomN; rw [hp, if_pos rfl]
    subst hqe
    clear hp
    go_enter Tryd.func9, Tryd.ntmps9
    go_wp2_with fail
    refine HA.out.mono ?_; rintro e w1 ⟨rfl, hB1⟩
    have hs1 := hB1.size
    go_wp2_with fail
    refine (HL.out _).mono ?_; rintro e w2 ⟨A, cap, l, ⟨rfl, HF⟩, hB2, hTk⟩
    have hB := hB1.trans (hB2.mono hs1)
    obtain ⟨hlen, hl0⟩ := HF.out
    obtain ⟨b, off, rfl, t⟩ := hTk 0 (by omega)
    rw [List.getElem?_eq_getElem (by omega)] at hl0
    injection hl0 with hl0
    rw [hl0, Nat.zero_mul, Nat.add_zero] at t
    obtain ⟨tl, t0, t1, t2, t3, t4, t5⟩ := t
    simp only [if_true] at t0
    rw [bytes_back'] at t1
    clear hl0 hTk hB2 HF hlen
    go_wp2_with fail
    refine (carry (w0 := w) hB (law_awake11 _ (HT.out.below hB))).mono ?_; rintro e w7 ⟨rfl, hB7⟩
    go_wp2_with fail
    go_ret
    exact ⟨rfl, hB7⟩
end Go.Proofs.YtmjeajfakhmakaaDoor
