/- The walks of the laws' helper awake, and of the law SpellExamples. Plain law: a name is plain exactly if it is read as itself without quotes. Contracts of the reference of layer 11: each, Plain, Quote, Atom, Glue, Join. Contracts of the reference of layer 11: Quote, Atom, Glue, Join. -/
import Derived.Test.YtgapnafkelokaaaGreatDoorM06
import Derived.Test.YtgapnafkelokaaaGreatDoorM01
namespace Hb
open Go Go.RowKit
end Hb
namespace Go.Proofs.YtgapnafkelokaaaGreatDoor
open Go.RowKit Hb
set_option maxRecDepth 100000
end Go.Proofs.YtgapnafkelokaaaGreatDoor
namespace Hb
theorem take2_iff (s : List UInt8) : s.take 2 = [47, 42] ↔ rawAt s 0 = 47 ∧ rawAt s 1 = 42 := by
  match s with
  | [] => simp [rawAt]
  | [b] => simp [rawAt]
  | b :: c :: l =>
    rw [rawAt_cons, rawAt_succ, rawAt_cons]
    simp only [List.take_succ_cons, List.take_zero]
    constructor
    · intro h; injection h with h1 h; injection h with h2 _; subst h1; subst h2; exact ⟨rfl, rfl⟩
    · rintro ⟨h1, h2⟩
      have e1 : b = 47 := UInt8.toNat_inj.1 (by show b.toNat = 47; omega)
      have e2 : c = 42 := UInt8.toNat_inj.1 (by show c.toNat = 42; omega)
      rw [e1, e2]
theorem plain_iff (s : List UInt8) : plainN s = true ↔ (s = [91, 93] ∨ s = [123, 125]) ∨ (s.length ≤ 100 ∧ ((s = [33] ∨ s = [59]) ∨ ((every alnum s = true ∧ cls (rawAt s 0) = 2) ∨ (0 < s.length ∧ every isSym s = true ∧ ¬s = [46] ∧ ¬s.take 2 = [47, 42])))) := by
  unfold plainN special
  simp
  constructor
  · rintro ⟨hl, h⟩
    rcases h with (h | h | h | h) | ⟨h1, h2⟩ | ⟨h1, h2, h3, h4⟩
    · exact .inl (.inl h)
    · exact .inl (.inr h)
    · exact .inr ⟨hl, .inl (.inl h)⟩
    · exact .inr ⟨hl, .inl (.inr h)⟩
    · exact .inr ⟨hl, .inr (.inl ⟨h1, h2⟩)⟩
    · exact .inr ⟨hl, .inr (.inr ⟨by cases s with | nil => exact absurd rfl h2 | cons => simp, h1, h3, h4⟩)⟩
  · rintro ((h | h) | ⟨hl, (h | h) | ⟨h1, h2⟩ | ⟨h0, h1, h3, h4⟩⟩)
    · subst h; exact ⟨by decide, .inl (.inl rfl)⟩
    · subst h; exact ⟨by decide, .inl (.inr (.inl rfl))⟩
    · exact ⟨hl, .inl (.inr (.inr (.inl h)))⟩
    · exact ⟨hl, .inl (.inr (.inr (.inr h)))⟩
    · exact ⟨hl, .inr (.inl ⟨h1, h2⟩)⟩
    · exact ⟨hl, .inr (.inr ⟨h1, by rintro rfl; simp at h0, h3, h4⟩)⟩
end Hb
namespace Hb
theorem plain_ref (s : List UInt8) (h1 : ¬s = []) (h2 : ¬s = [46]) (h3 : ¬(s = [91, 93] ∨ s = [123, 125] ∨ s = [33] ∨ s = [59])) (h4 : s.length ≤ 100) (h5 : ¬s.take 2 = [47, 42]) :
    plainN s = ((cls (bAt s 0) == 2 && every alnum s) || every isSym s) := by
  have hl : 0 < s.length := by cases s with | nil => exact absurd rfl h1 | cons => simp
  rw [Bool.eq_iff_iff, plain_iff, rawAt_in _ _ hl]
  simp
  constructor
  · rintro ((h | h) | ⟨_, (h | h) | ⟨h, h'⟩ | ⟨_, h, _⟩⟩)
    · exact absurd (.inl h) h3
    · exact absurd (.inr (.inl h)) h3
    · exact absurd (.inr (.inr (.inl h))) h3
    · exact absurd (.inr (.inr (.inr h))) h3
    · exact .inl ⟨h', h⟩
    · exact .inr h
  · rintro (⟨h, h'⟩ | h)
    · exact .inr ⟨h4, .inr (.inl ⟨h', h⟩)⟩
    · exact .inr ⟨h4, .inr (.inr ⟨hl, h, h2, h5⟩)⟩
end Hb
namespace Go.Proofs.YtgapnafkelokaaaGreatDoor
open Go.RowKit Hb
set_option maxRecDepth 100000
set_option maxHeartbeats 400000 in
theorem r11_each0 (s : ByteArray) (w : World) (hs : s.size ≤ maxLen) :
    Calls Tryz.prog 205 #[.string s, .int .i64 0] w fun e w' => e = .returned (.bool (every alnum s.data.toList)) ∧ w = w' := by
  unfold maxLen at hs
  go_enter Tryz.func205, Tryz.ntmps205
  go_wp2_with fail
  go_loop [5] (fun i => ∃ k : Nat, k ≤ s.size ∧ i = .int .i64 k ∧ every alnum (s.data.toList.take k) = true) (fun i => s.size - (intOf i).toNat)
  case atStart => exact ⟨0, Nat.zero_le _, rfl, rfl⟩
  case round =>
    obtain ⟨k, hk, rfl, hev⟩ := hrel
    have Hev := Lib.hid hev
    clear hev
    by_cases hlt : k < s.size
    · have hb := bAt_mk s k hlt
      have hb0 := bAt_lo s.data.toList k
      have hb1 := bAt_hi s.data.toList k
      have Hs := Lib.hid (every_snoc alnum s.data.toList k (by simpa using hlt))
      have Hn := Lib.hid (every_no alnum s.data.toList k (by simpa using hlt))
      cases hq : alnum (bAt s.data.toList k)
      all_goals
        have Hq := Lib.hid hq
        clear hq
        generalize bAt s.data.toList k = c at *
        go_wp2_with fail
        refine (ref_alnum _ _).mono ?_; rintro e w1 ⟨rfl, rfl⟩; rw [Hq.out]
        go_wp2_with fail
      · go_ret
        exact ⟨ret_bool (by rw [Hn.out Hq.out]), rfl⟩
      · go_round
        case rel => exact ⟨k + 1, by omega, by go_num, by rw [Hs.out, Hev.out, Hq.out]; rfl⟩
        case measure => simp [intOf]; omega
    · have Hx := Lib.hid (show every alnum s.data.toList = true by have := Hev.out; rwa [List.take_of_length_le (by simp; omega)] at this)
      go_wp2_with fail
      go_ret
      exact ⟨ret_bool (by rw [Hx.out]), rfl⟩
set_option maxHeartbeats 400000 in
theorem r11_each5 (s : ByteArray) (w : World) (hs : s.size ≤ maxLen) :
    Calls Tryz.prog 205 #[.string s, .int .i64 5] w fun e w' => e = .returned (.bool (every isSym s.data.toList)) ∧ w = w' := by
  unfold maxLen at hs
  go_enter Tryz.func205, Tryz.ntmps205
  go_wp2_with fail
  go_loop [5] (fun i => ∃ k : Nat, k ≤ s.size ∧ i = .int .i64 k ∧ every isSym (s.data.toList.take k) = true) (fun i => s.size - (intOf i).toNat)
  case atStart => exact ⟨0, Nat.zero_le _, rfl, rfl⟩
  case round =>
    obtain ⟨k, hk, rfl, hev⟩ := hrel
    have Hev := Lib.hid hev
    clear hev
    by_cases hlt : k < s.size
    · have hb := bAt_mk s k hlt
      have hb0 := bAt_lo s.data.toList k
      have hb1 := bAt_hi s.data.toList k
      have Hs := Lib.hid (every_snoc isSym s.data.toList k (by simpa using hlt))
      have Hn := Lib.hid (every_no isSym s.data.toList k (by simpa using hlt))
      cases hq : isSym (bAt s.data.toList k)
      · have Hq := Lib.hid hq
        have hb5 : (cls (bAt s.data.toList k) != 5) = true := by unfold isSym at hq; simpa using hq
        clear hq
        generalize bAt s.data.toList k = c at *
        go_wp2_with fail
        refine (ref_class _ _).mono ?_; rintro e w1 ⟨rfl, rfl⟩
        go_wp2_with fail
        go_ret
        exact ⟨ret_bool (by rw [Hn.out Hq.out]), rfl⟩
      · have Hq := Lib.hid hq
        have hb5 : (cls (bAt s.data.toList k) != 5) = false := by unfold isSym at hq; simpa using hq
        clear hq
        generalize bAt s.data.toList k = c at *
        go_wp2_with fail
        refine (ref_class _ _).mono ?_; rintro e w1 ⟨rfl, rfl⟩
        go_wp2_with fail
        go_round
        case rel => exact ⟨k + 1, by omega, by go_num, by rw [Hs.out, Hev.out, Hq.out]; rfl⟩
        case measure => simp [intOf]; omega
    · have Hx := Lib.hid (show every isSym s.data.toList = true by have := Hev.out; rwa [List.take_of_length_le (by simp; omega)] at this)
      go_wp2_with fail
      go_ret
      exact ⟨ret_bool (by rw [Hx.out]), rfl⟩
theorem take_two (s : ByteArray) : (s.extract 0 2).data.toList = s.data.toList.take 2 := by rw [Lib.extract_data]; simp
set_option maxHeartbeats 1000000 in
theorem r11_plain (s : ByteArray) (w : World) (hs : s.size ≤ maxLen) :
    Calls Tryz.prog 174 #[.string s] w fun e w' => e = .returned (.bool (plainN s.data.toList)) ∧ w = w' := by
  have HT := Lib.hid (tl_data s)
  by_cases h1 : s.toList = []
  · have Hr := Lib.hid (show plainN s.data.toList = false by rw [← HT.out, h1]; rfl)
    have e2 : s.toList.isEmpty = true := by rw [h1]; rfl
    go_enter Tryz.func174, Tryz.ntmps174
    go_wp2_with fail
    go_ret
    exact ⟨ret_bool Hr.out.symm, rfl⟩
  have e1 : s.toList.isEmpty = false := by simpa using h1
  by_cases h2 : s.toList = [46]
  · have Hr := Lib.hid (show plainN s.data.toList = false by rw [← HT.out, h2]; rfl)
    have h2' := h2
    go_enter Tryz.func174, Tryz.ntmps174
    go_wp2_with fail
    go_ret
    exact ⟨ret_bool Hr.out.symm, rfl⟩
  by_cases h3 : s.toList = [91, 93] ∨ s.toList = [123, 125] ∨ s.toList = [33] ∨ s.toList = [59]
  · have Hr := Lib.hid (show plainN s.data.toList = true by rw [← HT.out]; rcases h3 with h | h | h | h <;> rw [h] <;> rfl)
    have H3 := Lib.hid h3
    clear h3
    go_enter Tryz.func174, Tryz.ntmps174
    go_wp2_with fail
    all_goals first | (go_ret; exact ⟨ret_bool Hr.out.symm, rfl⟩) | (exfalso; have := H3.out; grind)
  have n1 : ¬s.toList = [91, 93] := fun h => h3 (.inl h)
  have n2 : ¬s.toList = [123, 125] := fun h => h3 (.inr (.inl h))
  have n3 : ¬s.toList = [33] := fun h => h3 (.inr (.inr (.inl h)))
  have n4 : ¬s.toList = [59] := fun h => h3 (.inr (.inr (.inr h)))
  have H3 := Lib.hid h3
  have m0 : (s.toList == [46]) = false := by simp [h2]
  have m1 : (s.toList == [91, 93]) = false := by simp [n1]
  have m2 : (s.toList == [123, 125]) = false := by simp [n2]
  have m3 : (s.toList == [33]) = false := by simp [n3]
  have m4 : (s.toList == [59]) = false := by simp [n4]
  clear h3
  have hpos : 0 < s.size := by
    rcases Nat.eq_zero_or_pos s.size with h | h
    · exact absurd (empty_of s h).1 h1
    · exact h
  by_cases h4 : 100 < s.size
  · have b4 : decide ((100 : Int) < s.size) = true := by simp; omega
    have Hr := Lib.hid (show plainN s.data.toList = false by unfold plainN; rw [size_data]; simp; omega)
    clear h4
    go_enter Tryz.func174, Tryz.ntmps174
    go_wp2_with fail
    go_ret
    exact ⟨ret_bool Hr.out.symm, rfl⟩
  have b4 : decide ((100 : Int) < s.size) = false := by simp; omega
  have hp5 : s.data.toList.take 2 = [47, 42] → plainN s.data.toList = false := fun h => by
    cases hx : plainN s.data.toList with
    | false => rfl
    | true =>
      rw [plain_iff] at hx
      rw [← HT.out] at hx h
      exfalso
      rcases hx with (hx | hx) | ⟨_, (hx | hx) | ⟨_, hx⟩ | ⟨_, _, _, hx⟩⟩
      · exact n1 hx
      · exact n2 hx
      · exact n3 hx
      · exact n4 hx
      · rw [((take2_iff _).1 h).1] at hx; exact absurd hx (by decide +kernel)
      · exact hx h
  have HP5 := Lib.hid hp5
  clear hp5
  have hbb := bAt_mk s 0 hpos
  have hc0 := bAt_lo s.data.toList 0
  have hc1 := bAt_hi s.data.toList 0
  have HR := Lib.hid (fun h5 => plain_ref s.data.toList (by rw [← HT.out]; exact h1) (by rw [← HT.out]; exact h2) (by rw [← HT.out]; exact H3.out) (by rw [size_data]; omega) h5)
  generalize bAt s.data.toList 0 = c at *
  by_cases h6 : 2 ≤ s.size
  · have b6 : decide ((2 : Int) ≤ s.size) = true := by simp; omega
    have HX := Lib.hid (take_two s)
    have HT2 := Lib.hid (tl_data (s.extract 0 2))
    by_cases h5 : (s.extract 0 2).toList = [47, 42]
    · have Hr := Lib.hid (HP5.out (by rw [← HX.out, ← HT2.out]; exact h5))
      clear h4
      go_enter Tryz.func174, Tryz.ntmps174
      go_wp2_with fail
      go_ret
      exact ⟨ret_bool Hr.out.symm, rfl⟩
    · have Hr := Lib.hid (HR.out (by rw [← HX.out, ← HT2.out]; exact h5))
      clear h4
      go_enter Tryz.func174, Tryz.ntmps174
      go_wp2_with (first
        | (go_at_call 64; refine (ref_class _ _).mono ?_; rintro e w1 ⟨rfl, rfl⟩)
        | (go_at_call 205; with_reducible refine (r11_each0 _ _ hs).mono ?_; rintro e w1 ⟨rfl, rfl⟩)
        | (go_at_call 205; with_reducible refine (r11_each5 _ _ hs).mono ?_; rintro e w1 ⟨rfl, rfl⟩))
      all_goals (go_ret; exact ⟨ret_bool (by rw [Hr.out]; grind), rfl⟩)
  · have b6 : decide ((2 : Int) ≤ s.size) = false := by simp; omega
    have Hr := Lib.hid (HR.out (fun h => by
      have := congrArg List.length h
      rw [List.length_take, size_data] at this
      simp at this; omega))
    clear h4 h6
    go_enter Tryz.func174, Tryz.ntmps174
    go_wp2_with (first
      | (go_at_call 64; refine (ref_class _ _).mono ?_; rintro e w1 ⟨rfl, rfl⟩)
      | (go_at_call 205; with_reducible refine (r11_each0 _ _ hs).mono ?_; rintro e w1 ⟨rfl, rfl⟩)
      | (go_at_call 205; with_reducible refine (r11_each5 _ _ hs).mono ?_; rintro e w1 ⟨rfl, rfl⟩))
    all_goals (go_ret; exact ⟨ret_bool (by rw [Hr.out]; grind), rfl⟩)
end Go.Proofs.YtgapnafkelokaaaGreatDoor
namespace Hb
open Go Go.RowKit
theorem own_grown {w w' W : World} {base e size : Nat} {v : Value} {n : Nat} {xs : List Value} (hown : w.ownsRow base e size v n xs) (hB : Below base W w) (hg : w.grownBy w' v.ownBlock) (hb : base ≤ w.heap.size) : Below base W w' := by
  refine hB.grown hg hb ?_
  intro k hk
  rcases hown.2 with ⟨rfl, _⟩ | ⟨g, cap, cur, rfl, hbg, _⟩
  · simp [Value.ownBlock] at hk
  · simp [Value.ownBlock] at hk; omega
theorem own_lit1 (w : World) (e : TypeId) (c : UInt8) (x : Int) (hx : x = (c.toNat : Int)) : (w.alloc (.cells #[.int .u8 x] e)).ownsRow w.heap.size e 1 (.slice (some ⟨w.heap.size, 0, none⟩) 1 1) 1 (byteCells [c]) := by
  subst hx
  exact ⟨by simp [byteCells], .inr ⟨w.heap.size, 1, #[.int .u8 (c.toNat : Int)], rfl, Nat.le_refl _, by show (w.heap.push _)[w.heap.size]? = _; simp, Nat.le_refl _, by unfold maxLen; omega, by simp, by simp [byteCells]⟩⟩
theorem _root_.Go.Lib.strCells_bytes' (s : ByteArray) : Go.Lib.strCells s = byteCells s.data.toList := rfl
theorem size_mk (l : List UInt8) : (⟨l.toArray⟩ : ByteArray).size = l.length := by simp [ByteArray.size]
end Hb
namespace Go.Proofs.YtgapnafkelokaaaGreatDoor
open Go.RowKit Hb
set_option maxRecDepth 100000
theorem at_appBB {ops : Array Oper} {rest : List Oper} {a : Act} {Q : Exit → Act → World → Prop} {w : World} {d t p f x g} (h : wpList Tryz.prog ops Q (⟨d, .call { callee := .builtin .append, args := x, argTypes := #[75, 75] }, t, p, f, g⟩ :: rest) a w) : wpList Tryz.prog ops Q (⟨d, .call { callee := .builtin .append, args := x, argTypes := #[75, 75] }, t, p, f, g⟩ :: rest) a w := h
theorem at_appBS {ops : Array Oper} {rest : List Oper} {a : Act} {Q : Exit → Act → World → Prop} {w : World} {d t p f x g} (h : wpList Tryz.prog ops Q (⟨d, .call { callee := .builtin .append, args := x, argTypes := #[75, 9] }, t, p, f, g⟩ :: rest) a w) : wpList Tryz.prog ops Q (⟨d, .call { callee := .builtin .append, args := x, argTypes := #[75, 9] }, t, p, f, g⟩ :: rest) a w := h
set_option maxHeartbeats 1600000 in
theorem r11_quote (s : ByteArray) (w : World) (hs : s.size ≤ 1000000) :
    Calls Tryz.prog 175 #[.string s] w fun e w' => e = .returned (.string ⟨(quoteN s.data.toList).toArray⟩) ∧ Below w.heap.size w w' := by
  obtain ⟨i, hi, hz0, hz1, hz2⟩ := info_parts infoByte
  have HI := Lib.hid hi
  have HZ0 := Lib.hid hz0
  have HZ1 := Lib.hid hz1
  have HZ2 := Lib.hid hz2
  have HSZ : Hid (s.data.toList.length = s.size) := size_data s
  clear hi hz0 hz1 hz2
  go_enter Tryz.func175, Tryz.ntmps175
  go_wp2_with fail
  go_loopw [3, 4] (fun v i wr => ∃ k : Nat, ∃ acc : List UInt8, k ≤ s.size ∧ i = .int .i64 k ∧ acc.length ≤ 1 + 6 * k ∧ Below w.heap.size w wr ∧ wr.ownsRow w.heap.size 5 1 v acc.length (byteCells acc) ∧ Hid (acc = 39 :: btws 39 (s.data.toList.take k))) (fun _ i _ => s.size - (intOf i).toNat)
  case atStart => exact ⟨0, [39], Nat.zero_le _, rfl, by simp, (Below.refl _ _).alloc (Nat.le_refl _) _, own_lit1 w _ 39 _ rfl, rfl⟩
  case round =>
    obtain ⟨k, acc, hk, rfl, hal, hB, hown, HE⟩ := hrel
    have hbs := hB.size
    by_cases hlt : k < s.size
    · have hkl : k < s.data.toList.length := by rw [HSZ.out]; exact hlt
      have hb := bAt_mk s k hlt
      have hc0 := bAt_lo s.data.toList k
      have hc1 := bAt_hi s.data.toList k
      have hel := esc_len (bAt s.data.toList k)
      have HST := Lib.hid (btws_take s.data.toList k hkl)
      have HES := Lib.hid (strCells_mk (esc (bAt s.data.toList k)))
      have HEL := Lib.hid (size_mk (esc (bAt s.data.toList k)))
      generalize bAt s.data.toList k = c at *
      go_wp2_with fail
      refine (ref_escape _ _ hc0 hc1).mono ?_; rintro e w1 ⟨rfl, hB1⟩
      have hown1 := own_below hown hB1
      have hB2 := hB.trans (hB1.mono hbs)
      have hbs2 := hB2.size
      clear hown hB1
      go_wp2_with ((with_reducible refine at_appBS ?_); go_must (refine Lib.wpList_append_own_string _ rfl _ _ 75 9 rfl w.heap.size 5 i Tryz.underlying75 Tryz.underlying9 HI.out HZ0.out HZ1.out HZ2.out _ _ _ rfl hown1 ⟨(esc c).toArray⟩ rfl (by rw [HEL.out]; unfold maxLen; omega) (by rw [HEL.out]; omega) hbs2 ?_; intro v4 w4 hown4 hg4 _; have hB4 := own_grown hown1 hB2 hg4 hbs2))
      rw [HES.out, HEL.out, ← byteCells_app] at hown4
      go_roundw
      case rel => exact ⟨k + 1, acc ++ esc c, by omega, by go_num, by simp; omega, hB4, by rw [List.length_append]; exact hown4, by show _ = _; rw [HST.out, HE.out]; simp⟩
      case measure => simp [intOf]; omega
    · obtain rfl : k = s.size := by omega
      have HTk := Lib.hid (show s.data.toList.take s.size = s.data.toList from List.take_of_length_le (by rw [HSZ.out]; exact Nat.le_refl _))
      go_wp2_with ((with_reducible refine at_appBB ?_); go_must (refine wpList_append_byte rfl _ _ 75 5 rfl Tryz.underlying75 infoByte w.heap.size _ _ _ rfl _ hown 39 (by decide) (by decide) rfl rfl (by omega) (by omega) ?_; intro v1 w3 hown3 hB3; have hc := conv_own (P := Tryz.prog) w3 75 9 5 Tryz.underlying75 Tryz.underlying5 Tryz.underlying9 _ _ _ _ hown3))
      go_ret
      exact ⟨ret_str (by rw [HE.out, HTk.out]; simp [quoteN]), hB.trans hB3⟩
set_option maxHeartbeats 400000 in
theorem r11_atom (s : ByteArray) (w : World) (hs : s.size ≤ 1000000) :
    Calls Tryz.prog 135 #[.string s] w fun e w' => e = .returned (.string ⟨(atomN s.data.toList).toArray⟩) ∧ Below w.heap.size w w' := by
  have HP := Lib.hid (r11_plain s w (by unfold maxLen; omega))
  cases hp : plainN s.data.toList
  all_goals
    have Hp := Lib.hid hp
    clear hp
    go_enter Tryz.func135, Tryz.ntmps135
    go_wp2_with fail
    refine HP.out.mono ?_; rintro e w1 ⟨rfl, rfl⟩; rw [Hp.out]
    go_wp2_with fail
  · refine (r11_quote s _ hs).mono ?_; rintro e w2 ⟨rfl, hB2⟩
    go_wp2_with fail
    go_ret
    exact ⟨ret_str (by unfold atomN; rw [Hp.out]; rfl), hB2⟩
  · go_ret
    exact ⟨ret_str (by unfold atomN; rw [Hp.out]; simp), Below.refl _ _⟩
set_option maxHeartbeats 800000 in
theorem r11_glueQ (a b : ByteArray) (w : World) (has : a.size ≤ maxLen) :
    Calls Tryz.prog 38 #[.string a, .string b] w fun e w' => e = .returned (.bool (glueN a.data.toList b.data.toList)) ∧ ∃ n, w' = w.drewN n := by
  by_cases h : a.size = 0 ∨ b.size = 0
  · have HG := Lib.hid (show glueN a.data.toList b.data.toList = false by
      rcases h with h | h
      · rw [(empty_of a h).2]; rfl
      · unfold glueN; rw [(empty_of b h).2]; simp)
    by_cases ha : a.size = 0
    · have ea := (empty_of a ha).1
      have ea2 : a.toList.isEmpty = true := by rw [ea]; rfl
      clear h ha
      go_enter Tryz.func38, Tryz.ntmps38
      go_wp2_with fail
      go_ret
      exact ⟨ret_bool HG.out.symm, 0, rfl⟩
    · have eb := (empty_of b (by omega)).1
      have eb2 : b.toList.isEmpty = true := by rw [eb]; rfl
      have ea := tl_ne a (by omega)
      have ea2 := tl_ne2 a (by omega)
      clear h ha
      go_enter Tryz.func38, Tryz.ntmps38
      go_wp2_with fail
      go_ret
      exact ⟨ret_bool HG.out.symm, 0, rfl⟩
  · have ha : 0 < a.size := by omega
    have hb : 0 < b.size := by omega
    clear h
    have ea := tl_ne a ha
    have eb := tl_ne b hb
    have ea2 := tl_ne2 a ha
    have eb2 := tl_ne2 b hb
    have hw : IntKind.i64.wrap ((a.size : Int) - 1) = (a.size : Int) - 1 := IntWalk.i64_in _ (by unfold maxLen at has; omega)
    have hi1 : (0 : Int) ≤ (a.size : Int) - 1 := by omega
    have hi2 : (a.size : Int) - 1 < (a.size : Int) := by omega
    have htn : ((a.size : Int) - 1).toNat = a.size - 1 := by omega
    have hba := bAt_mk a (a.size - 1) (by omega)
    have hbb := bAt_mk b 0 hb
    have hx0 := bAt_lo a.data.toList (a.size - 1)
    have hx1 := bAt_hi a.data.toList (a.size - 1)
    have hy0 := bAt_lo b.data.toList 0
    have hy1 := bAt_hi b.data.toList 0
    have HG := Lib.hid (glue_eq a b ha hb)
    generalize bAt a.data.toList (a.size - 1) = x at *
    generalize bAt b.data.toList 0 = y at *
    go_enter Tryz.func38, Tryz.ntmps38
    go_wp2_with fail
    go_quiet (fail)
    go_wp2_with (first
      | (go_at_call 64; refine (ref_class _ _).mono ?_; rintro e w1 ⟨rfl, rfl⟩)
      | (go_at_call 65; refine (ref_alnum _ _).mono ?_; rintro e w1 ⟨rfl, rfl⟩))
    all_goals
      go_ret
      exact ⟨ret_bool (by rw [HG.out]; unfold isSym; grind), _, rfl⟩
theorem quiet1 {P : Program} {f : FuncId} {args : Array Value} {w : World} {n : Nat} {v : Value}
    (h : Calls P f args (w.drewN n) fun e w' => e = .returned v ∧ ∃ m, w' = (w.drewN n).drewN m) : Calls P f args (w.drewN n) fun e w'' => e = .returned v ∧ ∃ m, w'' = w.drewN m :=
  h.mono fun _ _ ⟨he, m, hm⟩ => ⟨he, n + m, by rw [hm, World.drewN_drewN]⟩
theorem r11_glueV (v : Bool) (a b : ByteArray) (w : World) (n : Nat) (has : a.size ≤ maxLen) (hv : glueN a.data.toList b.data.toList = v) :
    Calls Tryz.prog 38 #[.string a, .string b] (w.drewN n) fun e w' => e = .returned (.bool v) ∧ ∃ m, w' = w.drewN m := by
  rw [← hv]; exact quiet1 (r11_glueQ a b _ has)
theorem own_drewN {w : World} {base e size : Nat} {v : Value} {n : Nat} {xs : List Value} (h : w.ownsRow base e size v n xs) (m : Nat) : (w.drewN m).ownsRow base e size v n xs := h
set_option maxHeartbeats 1600000 in
theorem r11_join (A : Option Addr) (n cap : Nat) (l : List ByteArray) (w : World) (hn : n = l.length) (hm : n ≤ 100000) (hp : StrsAt w A l) (hz : ∀ s ∈ l, s.size ≤ 1000000) :
    Calls Tryz.prog 18 #[.slice A n cap] w fun e w' => e = .returned (.string ⟨(joinN (bts l)).toArray⟩) ∧ Below w.heap.size w w' := by
  obtain ⟨i, hi, hz0, hz1, hz2⟩ := info_parts infoByte
  have HI := Lib.hid hi
  have HZ0 := Lib.hid hz0
  have HZ1 := Lib.hid hz1
  have HZ2 := Lib.hid hz2
  have HN := Lib.hid hn
  have HP := Lib.hid hp
  have HZ := Lib.hid hz
  have HJ := Lib.hid (fun k (hk : k ≤ n) => (show (joinN (bts (l.take k))).length ≤ 100000 * 1000001 by
    have := joinN_len 1000000 (l.take k) (fun s hs => hz s (List.mem_of_mem_take hs))
    rw [List.length_take] at this
    refine Nat.le_trans this (Nat.mul_le_mul_right _ ?_)
    omega))
  clear hi hz0 hz1 hz2 hp hz hn
  go_enter Tryz.func18, Tryz.ntmps18
  go_wp2_with fail
  go_loopw [3, 4] (fun v i wr => ∃ k : Nat, ∃ acc : List UInt8, k ≤ n ∧ i = .int .i64 k ∧ acc.length ≤ 100000 * 1000001 ∧ Below w.heap.size w wr ∧ wr.ownsRow w.heap.size 5 1 v acc.length (byteCells acc) ∧ Hid (acc = joinN (bts (l.take k)))) (fun _ i _ => n - (intOf i).toNat)
  case atStart => exact ⟨0, [], Nat.zero_le _, rfl, by simp, Below.refl _ _, World.ownsRow_nil _ _ _ _, rfl⟩
  case round =>
    obtain ⟨k, acc, hk, rfl, hal, hB, hown, HE⟩ := hrel
    have hbs := hB.size
    by_cases hlt : k < n
    · have hkl : k < l.length := by have := HN.out; omega
      obtain ⟨g, off, rfl, hg, c1⟩ := (HP.out.below hB) k hkl
      have hz1 := HZ.out l[k] (List.getElem_mem hkl)
      have HL := Lib.hid (HJ.out (k + 1) (by omega))
      by_cases h0 : k = 0
      · subst h0
        have Hs := Lib.hid (joinN_zero l hkl)
        rw [Nat.add_zero] at c1
        have HA := Lib.hid (show acc = [] from HE.out)
        generalize l[0] = s at *
        go_wp2_with fail
        go_quiet (fail)
        go_wp2_with ((with_reducible refine at_appBS ?_); go_must (refine Lib.wpList_append_own_string _ rfl _ _ 75 9 rfl w.heap.size 5 i Tryz.underlying75 Tryz.underlying9 HI.out HZ0.out HZ1.out HZ2.out _ _ _ rfl (own_drewN hown _) s rfl (by unfold maxLen; omega) (by omega) hbs ?_; intro v4 w4 hown4 hg4 _; have hB4 := own_grown (own_drewN hown _) (bl_drewN hB _) hg4 hbs))
        rw [Go.Lib.strCells_bytes', ← byteCells_app] at hown4
        go_roundw
        case rel => exact ⟨0 + 1, acc ++ s.data.toList, by omega, by go_num, by rw [HA.out, List.nil_append, ← Hs.out]; exact HL.out, hB4, by rw [List.length_append, size_data]; exact hown4, by show _ = _; rw [Hs.out, HA.out]; rfl⟩
        case measure => simp [intOf]; omega
      · obtain ⟨j, rfl⟩ : ∃ j, k = j + 1 := ⟨k - 1, by omega⟩
        obtain ⟨g', off', hA, _, c0⟩ := (HP.out.below hB) j (by omega)
        obtain ⟨rfl, rfl⟩ : g' = g ∧ off' = off := by injection hA with hA; injection hA with h1 h2 _; exact ⟨h1.symm, h2.symm⟩
        obtain ⟨g2, off2, hA2, hgw, cw⟩ := HP.out (j + 1) hkl
        obtain ⟨rfl, rfl⟩ : g' = g2 ∧ off' = off2 := by injection hA2 with hA2; injection hA2 with h1 h2 _; exact ⟨h1, h2⟩
        have HCW := Lib.hid cw
        clear cw hA2
        have hz0 := HZ.out l[j] (List.getElem_mem (by omega))
        have Hs := Lib.hid (joinN_succ l j hkl)
        have HAL := Lib.hid (show acc.length ≤ 100000 * 1000001 from hal)
        clear hA h0
        generalize l[j + 1] = s at *
        generalize l[j] = p at *
        have hjn : decide ((j : Int) + 1 < n) = true := by simp; omega
        cases hg' : glueN p.data.toList s.data.toList
        · have Hg := Lib.hid hg'
          clear hg'
          have HS2 := Lib.hid (show joinN (bts (l.take (j + 1 + 1))) = acc ++ s.data.toList by rw [Hs.out, HE.out]; unfold sepOf; rw [Hg.out]; rfl)
          go_wp2_with fail
          go_quiet ((go_at_call 38; with_reducible exact r11_glueV false _ _ _ _ (by unfold maxLen; omega) Hg.out))
          go_wp2_with ((with_reducible refine at_appBS ?_); go_must (refine Lib.wpList_append_own_string _ rfl _ _ 75 9 rfl w.heap.size 5 i Tryz.underlying75 Tryz.underlying9 HI.out HZ0.out HZ1.out HZ2.out _ _ _ rfl (own_drewN hown _) s rfl (by unfold maxLen; omega) (by omega) hbs ?_; intro v4 w4 hown4 hg4 _; have hB4 := own_grown (own_drewN hown _) (bl_drewN hB _) hg4 hbs))
          rw [Go.Lib.strCells_bytes', ← byteCells_app] at hown4
          go_roundw
          case rel => exact ⟨j + 1 + 1, acc ++ s.data.toList, by omega, by go_num, by rw [← HS2.out]; exact HL.out, hB4, by rw [List.length_append, size_data]; exact hown4, by show _ = _; rw [HS2.out]⟩
          case measure => simp [intOf]; omega
        · have Hg := Lib.hid hg'
          clear hg'
          have HS2 := Lib.hid (show joinN (bts (l.take (j + 1 + 1))) = acc ++ [32] ++ s.data.toList by rw [Hs.out, HE.out]; unfold sepOf; rw [Hg.out]; simp)
          go_wp2_with fail
          go_quiet ((go_at_call 38; with_reducible exact r11_glueV true _ _ _ _ (by unfold maxLen; omega) Hg.out))
          go_wp2_with (first | ((with_reducible refine at_appBB ?_); go_must (refine wpList_append_byte rfl _ _ 75 5 rfl Tryz.underlying75 infoByte w.heap.size _ _ _ rfl _ (own_drewN hown _) 32 (by decide) (by decide) rfl rfl (by omega) hbs ?_; intro v1 w3 hown3 hB3; have hbs3 := Nat.le_trans hbs hB3.size; have c3 := (((bl_drewN hB _).trans hB3).cell (p := ⟨g', off' + (j + 1), none⟩) hgw).trans HCW.out)) | ((with_reducible refine at_appBS ?_); go_must (refine Lib.wpList_append_own_string _ rfl _ _ 75 9 rfl w.heap.size 5 i Tryz.underlying75 Tryz.underlying9 HI.out HZ0.out HZ1.out HZ2.out _ _ _ rfl hown3 s rfl (by unfold maxLen; omega) (by omega) hbs3 ?_; intro v4 w4 hown4 hg4 _; have hB4 := own_grown hown3 ((bl_drewN hB _).trans hB3) hg4 hbs3)))
          rw [Go.Lib.strCells_bytes', ← byteCells_app] at hown4
          have HLN : Hid ((acc ++ ([32] : List UInt8) ++ s.data.toList).length = acc.length + 1 + s.size) := by show _ = _; rw [List.length_append, size_data]; simp
          go_roundw
          case rel => exact ⟨j + 1 + 1, acc ++ [32] ++ s.data.toList, by omega, by go_num, by rw [← HS2.out]; exact HL.out, hB4, by rw [HLN.out]; exact hown4, by show _ = _; rw [HS2.out]⟩
          case measure => simp [intOf]; omega
    · have hx : l.take k = l := List.take_of_length_le (by have := HN.out; omega)
      rw [hx] at HE
      clear hx
      have hc := conv_own (P := Tryz.prog) wr 75 9 5 Tryz.underlying75 Tryz.underlying5 Tryz.underlying9 _ _ _ _ hown
      go_wp2_with fail
      go_ret
      exact ⟨ret_str (by rw [HE.out]), hB⟩
end Go.Proofs.YtgapnafkelokaaaGreatDoor
