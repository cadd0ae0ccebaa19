/- The law SpellGlues. -/
import Derived.Test.YtmjeajfakhmakaaDoorRef11b
namespace Go.Proofs.YtmjeajfakhmakaaDoor
open Go.RowKit Hb
set_option maxRecDepth 100000

theorem strCells_one (l : List ByteArray) : ∀ u ∈ l.map Value.string, u.oneCell' = true := fun u hu => by
  rw [List.mem_map] at hu
  obtain ⟨x, _, rfl⟩ := hu
  rfl
theorem at_appSS {ops : Array Oper} {rest : List Oper} {a : Act} {Q : Exit → Act → World → Prop} {w : World} {d t p f x g} (h : wpList Tryd.prog ops Q (⟨d, .call { callee := .builtin .append, args := x, argTypes := #[26, 26] }, t, p, f, g⟩ :: rest) a w) : wpList Tryd.prog ops Q (⟨d, .call { callee := .builtin .append, args := x, argTypes := #[26, 26] }, t, p, f, g⟩ :: rest) a w := h

set_option maxHeartbeats 1600000 in
theorem law_spellGlues (a b : ByteArray) (ha : a.size ≤ maxLen) (_hb : b.size ≤ maxLen) (A : Option Addr) (n cap : Nat) (l : List ByteArray) (w : World) (hn : n = l.length) (_hm : n ≤ maxLen) (hp : StrsAt w A l) (hh : HeadOk A n cap) (_hz : ∀ s ∈ l, s.size ≤ maxLen) (hT : Tab15 w) :
    Calls Tryd.prog 5 #[.string a, .string b, .slice A n cap] w fun e w' => e = .returned (.bool true) ∧ Below w.heap.size w w' := by
  have HT := Lib.hid hT
  clear hT
  by_cases c1 : 100 < n
  · have b1 : decide ((100 : Int) < n) = true := by simp; omega
    clear c1 hn hp hh _hz
    go_enter Tryd.func5, Tryd.ntmps5
    go_wp2_with fail
    refine (law_awake11 _ HT.out).mono ?_; rintro e w1 ⟨rfl, hB1⟩
    go_wp2_with fail
    go_ret
    exact ⟨rfl, hB1⟩
  have b1 : decide ((100 : Int) < n) = false := by simp; omega
  have hn100 : n ≤ 100 := by omega
  have HN := Lib.hid hn
  have hB0 := (Below.refl w.heap.size w).alloc (Nat.le_refl _) (.cells #[] 9)
  have HE := Lib.hid (own_empty w w.heap.size 9 1 (Nat.le_refl _))
  have HS := Lib.hid (strs_src hn (hp.below hB0) hh)
  have HP := Lib.hid hp
  generalize hv : glueN a.data.toList b.data.toList = v
  have HV := Lib.hid hv
  have HG1 := Lib.hid (fun w' (h : Below w.heap.size w w') => v_glue (w0 := w) (w := w') a b v hv ha h)
  have HG2 := Lib.hid (fun w' (h : Below w.heap.size w w') => carry (w0 := w) h (show Calls Tryd.prog 20 #[.string a, .string b] w' fun e w'' => e = .returned (.bool v) ∧ Below w'.heap.size w' w'' by rw [← hv]; exact r11_glue a b w' ha))
  clear hn hp hh c1 _hz hv
  go_enter Tryd.func5, Tryd.ntmps5
  go_wp2_with ((with_reducible refine at_appSS ?_); go_must (refine wpList_append_row rfl _ _ 26 9 rfl Tryd.underlying26 _ 1 16 infoStr rfl (by decide) w.heap.size _ 0 [] rfl HE.out A n cap (l.map Value.string) rfl HS.out (strCells_one l) (by omega) (by omega) (by simp) w hB0 ?_; intro v1 w1 hown1 hB1 _))
  rw [Nat.zero_add, List.nil_append] at hown1
  obtain ⟨A', cap', hv1, hP1⟩ := strs_own (l := l) (by rw [← HN.out]; exact hown1)
  rw [← HN.out] at hv1
  subst hv1
  have HP1 := Lib.hid hP1
  have hs1 := hB1.size
  clear hown1 hP1
  go_wp2_with fail
  go_loop [8] (fun i => ∃ k : Nat, k ≤ n ∧ i = .int .i64 k ∧ Hid (∀ j (h : j < l.length), j < k → l[j].size ≤ 200)) (fun i => n - (intOf i).toNat)
  case atStart => exact ⟨0, Nat.zero_le _, rfl, fun j _ h => absurd h (by omega)⟩
  case round =>
    obtain ⟨k, hk, rfl, HZ⟩ := hrel
    by_cases hlt : k < n
    · have hkl : k < l.length := by have := HN.out; omega
      obtain ⟨g, off, rfl, hg, cc⟩ := (HP.out.below hB1) k hkl
      have HK := Lib.hid (show ∀ j (h : j < l.length), j < k + 1 → l[k].size ≤ 200 → l[j].size ≤ 200 from fun j h h1 h2 => by
        by_cases hjk : j = k
        · subst hjk; exact h2
        · exact HZ.out j h (by omega))
      generalize l[k] = s at *
      by_cases c2 : 200 < s.size
      · have b2 : decide ((200 : Int) < s.size) = true := by simp; omega
        clear c2
        go_wp2_with fail
        refine (carry (w0 := w) hB1 (law_awake11 _ (HT.out.below hB1))).mono ?_; rintro e w2 ⟨rfl, hB2⟩
        go_wp2_with fail
        go_ret
        exact ⟨rfl, hB2⟩
      · have b2 : decide ((200 : Int) < s.size) = false := by simp; omega
        have hs2 : s.size ≤ 200 := by omega
        clear c2
        go_wp2_with fail
        go_round
        case rel => exact ⟨k + 1, by omega, by go_num, fun j h h1 => HK.out j h h1 hs2⟩
        case measure => simp [intOf]; omega
    · have hz2 : ∀ s ∈ l, s.size ≤ 200 := fun s hs => by
        obtain ⟨j, hj, rfl⟩ := List.getElem_of_mem hs
        exact HZ.out j hj (by have := HN.out; omega)
      have hz3 : ∀ s ∈ l, s.size ≤ 1000000 := fun s hs => Nat.le_trans (hz2 s hs) (by decide)
      have HJ1 := Lib.hid (sp_join A' n cap' l w1 HN.out (by omega) HP1.out hz3)
      have HJ2 := Lib.hid (fun w' (h : Below w.heap.size w w') => carry (w0 := w) h (r11_join A n cap l w' HN.out (by omega) (HP.out.below h) hz3))
      clear hz2 hz3 HZ
      generalize (⟨(joinN (bts l)).toArray⟩ : ByteArray) = txt at *
      go_wp2_with fail
      refine HJ1.out.mono ?_; rintro e w2 ⟨rfl, hB2⟩
      have HP2 := Lib.hid (HP1.out.below hB2)
      have hB2' := hB1.trans (hB2.mono hs1)
      have HL2 := Lib.hid (HP.out.below hB2')
      clear hB2
      go_wp2_with fail
      go_loopw [10] (fun i wr => ∃ k m : Nat, k ≤ n ∧ i = .int .i64 k ∧ wr = w2.drewN m) (fun i _ => n - (intOf i).toNat)
      case atStart => exact ⟨0, 0, Nat.zero_le _, rfl, rfl⟩
      case round =>
        obtain ⟨k2, m, hk2, rfl, rfl⟩ := hrel
        by_cases hlt2 : k2 < n
        · have hkl2 : k2 < l.length := by have := HN.out; omega
          obtain ⟨g, off, rfl, hg, cc⟩ := HP2.out k2 hkl2
          obtain ⟨g', off', rfl, hg', cc'⟩ := HL2.out k2 hkl2
          generalize l[k2] = s at *
          go_wp2_with fail
          go_quiet (fail)
          go_wp2_with fail
          go_roundw
          case rel => exact ⟨k2 + 1, _, by omega, by go_num, rfl⟩
          case measure => simp [intOf]; omega
        · have hB3 := bl_drewN hB2' m
          go_wp2_with fail
          refine (HG1.out _ hB3).mono ?_; rintro e w4 ⟨rfl, hB4⟩
          go_wp2_with fail
          refine (HG2.out _ hB4).mono ?_; rintro e w5 ⟨rfl, hB5⟩
          go_wp2_with fail
          refine (HJ2.out _ hB5).mono ?_; rintro e w6 ⟨rfl, hB6⟩
          go_wp2_with fail
          refine (carry (w0 := w) hB6 (law_awake11 _ (HT.out.below hB6))).mono ?_; rintro e w7 ⟨rfl, hB7⟩
          go_wp2_with fail
          go_ret
          exact ⟨rfl, hB7⟩
end Go.Proofs.YtmjeajfakhmakaaDoor
