/- Operators: the reference's put and Default; the law OpsDefault. -/
import Derived.Test.YteddbeifnolklaaOpRf
import Derived.Test.YteddbeifnolklaaOpLA
namespace Hb
open Go Go.RowKit
/-- Strings in a row. -/
def StrsIn (w : World) (b : Nat) (l : List ByteArray) : Prop := b < w.heap.size ∧ ∀ (j : Nat) (hj : j < l.length), w.cell? ⟨b, j, none⟩ = some (.string l[j])
theorem StrsIn.below {w w' : World} {b : Nat} {l : List ByteArray} (h : StrsIn w b l) (hB : Below w.heap.size w w') : StrsIn w' b l :=
  ⟨Nat.lt_of_lt_of_le h.1 hB.size, fun j hj => (hB.cell (p := ⟨b, j, none⟩) h.1).trans (h.2 j hj)⟩
theorem insAll_len : ∀ (l acc : List OpR), (insAll acc l).length = acc.length + l.length := fun l acc => by rw [(insAll_perm l acc).length_eq, List.length_append]
theorem insAll_snoc (l acc : List OpR) (o : OpR) : insAll acc (l ++ [o]) = insO o (insAll acc l) := by unfold insAll; rw [List.foldl_append]; rfl
theorem insAll_app (l m acc : List OpR) : insAll acc (l ++ m) = insAll (insAll acc l) m := by unfold insAll; rw [List.foldl_append]
theorem pre_step (k : Nat) : insAll (insAll [] (preL k)) (grO k) = insAll [] (preL (k + 1)) := by rw [preL_succ, insAll_app]
end Hb
namespace Go.Proofs.Yteddbeifnolklaa
open Go.RowKit Hb
set_option maxRecDepth 100000
set_option maxHeartbeats 3200000 in
theorem ref_put (A : Option Addr) (n cap : Nat) (l : List OpR) (prec typ : Int) (b m c2 : Nat) (names : List ByteArray) (w : World) (hm : n + m ≤ 400) (hT : Tab w A n cap l) (hl : m = names.length) (hS : StrsIn w b names) :
    Calls Try.prog 36 #[.slice A n cap, .int .i64 prec, .int .i64 typ, .slice (some ⟨b, 0, none⟩) m c2] w fun e w' => ∃ A' n' cap', e = .returned (.slice A' n' cap') ∧ Below w.heap.size w w' ∧ Tab w' A' n' cap' (insAll l (names.map fun s => (⟨s, typ, prec⟩ : OpR))) := by
  have HL := Lib.hid hl
  have HS := Lib.hid hS
  have HT0 := Lib.hid (show Tab w A n cap (insAll l ((names.take 0).map fun s => (⟨s, typ, prec⟩ : OpR))) from hT)
  have HNL := Lib.hid hT.len
  have HWI : Hid (∀ W A' n' c' (s : ByteArray) (t : List OpR), n' ≤ 400 → Tab W A' n' c' t → Calls Try.prog 46 #[.slice A' n' c', .agg #[.string s, .int .i64 typ, .int .i64 prec]] W fun e w' => ∃ A'' n'' cap'', e = .returned (.slice A'' n'' cap'') ∧ Below W.heap.size W w' ∧ Tab w' A'' n'' cap'' (insO ⟨s, typ, prec⟩ t)) := Lib.hid fun W A' n' c' s t h1 h2 => ref_with A' n' c' t ⟨s, typ, prec⟩ W h1 h2
  clear hT hl hS
  go_enter Try.func36, Try.ntmps36
  go_wp2_with fail
  go_loopw [0, 9] (fun v i wr => ∃ (k : Nat) (A' : Option Addr) (n' cap' : Nat), k ≤ m ∧ v = .slice A' n' cap' ∧ i = .int .i64 k ∧ Below w.heap.size w wr ∧ Hid (Tab wr A' n' cap' (insAll l ((names.take k).map fun s => (⟨s, typ, prec⟩ : OpR))))) (fun _ i _ => m - (intOf i).toNat)
  case atStart => exact ⟨0, A, n, cap, Nat.zero_le _, rfl, rfl, Below.refl _ _, HT0⟩
  case round =>
    obtain ⟨k, A', n', cap', hk, rfl, rfl, hB, HT⟩ := hrel
    by_cases hlt : k < m
    · have hkl : k < names.length := by have := HL.out; omega
      obtain ⟨hbl, hcs⟩ := HS.out.below hB
      have cc := hcs k hkl
      have hn' : n' ≤ 400 := by
        have h1 := HT.out.len
        rw [insAll_len, List.length_map, List.length_take] at h1
        have := HNL.out
        omega
      have HTK := Lib.hid (show insO ⟨names[k], typ, prec⟩ (insAll l ((names.take k).map fun s => (⟨s, typ, prec⟩ : OpR))) = insAll l ((names.take (k + 1)).map fun s => (⟨s, typ, prec⟩ : OpR)) by
        rw [List.take_succ_eq_append_getElem hkl, List.map_append, List.map_cons, List.map_nil, insAll_snoc])
      generalize names[k] = s at *
      clear hcs
      go_wp2_with fail
      refine (HWI.out wr A' n' cap' s _ hn' HT.out).mono ?_; rintro e w1 ⟨A1, n1, c1, rfl, hB1, hT1⟩
      rw [HTK.out] at hT1
      have HT1 := Lib.hid hT1
      clear hT1
      go_wp2_with fail
      go_roundw
      case rel => exact ⟨k + 1, A1, n1, c1, by omega, rfl, by go_num, hB.trans (hB1.mono hB.size), HT1⟩
      case measure => simp [intOf] <;> omega
    · have hkn : names.take k = names := List.take_of_length_le (by have := HL.out; omega)
      rw [hkn] at HT
      clear hkn
      go_wp2_with fail
      go_ret
      exact ⟨A', n', cap', rfl, hB, HT.out⟩
theorem put_gen (k : Nat) (hk : k < 12) (A : Option Addr) (n cap b : Nat) (W0 W : World) (hT : Tab W A n cap (insAll [] (preL k))) (hb : BS W0 W b k) :
    Calls Try.prog 36 #[.slice A n cap, .int .i64 (grP k), .int .i64 (grT k), .slice (some ⟨b, 0, none⟩) (grN k).length (grN k).length] W fun e w' => ∃ A' n' cap', e = .returned (.slice A' n' cap') ∧ Below W.heap.size W w' ∧ Tab w' A' n' cap' (insAll [] (preL (k + 1))) := by
  have h1 := hT.len
  rw [insAll_len, List.length_nil, Nat.zero_add] at h1
  have h2 := grO_le k hk
  refine (ref_put A n cap _ (grP k) (grT k) b (grN k).length (grN k).length (grN k) W (by omega) hT rfl (hb.out (Below.refl _ _))).mono ?_
  rintro e w' ⟨A', n', cap', he, hB, hT'⟩
  have e1 : ((grN k).map fun s => (⟨s, grT k, grP k⟩ : OpR)) = grO k := rfl
  rw [e1, pre_step] at hT'
  exact ⟨A', n', cap', he, hB, hT'⟩
theorem put_0 (A : Option Addr) (n cap b : Nat) (W0 W : World) (hT : Tab W A n cap (insAll [] (preL 0))) (hb : BS W0 W b 0) :
    Calls Try.prog 36 #[.slice A n cap, .int .i64 1200, .int .i64 1, .slice (some ⟨b, 0, none⟩) 2 2] W fun e w' => ∃ A' n' cap', e = .returned (.slice A' n' cap') ∧ Below W.heap.size W w' ∧ Tab w' A' n' cap' (insAll [] (preL 1)) :=
  put_gen 0 (by decide) A n cap b W0 W hT hb
theorem put_1 (A : Option Addr) (n cap b : Nat) (W0 W : World) (hT : Tab W A n cap (insAll [] (preL 1))) (hb : BS W0 W b 1) :
    Calls Try.prog 36 #[.slice A n cap, .int .i64 1200, .int .i64 5, .slice (some ⟨b, 0, none⟩) 2 2] W fun e w' => ∃ A' n' cap', e = .returned (.slice A' n' cap') ∧ Below W.heap.size W w' ∧ Tab w' A' n' cap' (insAll [] (preL 2)) :=
  put_gen 1 (by decide) A n cap b W0 W hT hb
theorem put_2 (A : Option Addr) (n cap b : Nat) (W0 W : World) (hT : Tab W A n cap (insAll [] (preL 2))) (hb : BS W0 W b 2) :
    Calls Try.prog 36 #[.slice A n cap, .int .i64 1100, .int .i64 2, .slice (some ⟨b, 0, none⟩) 1 1] W fun e w' => ∃ A' n' cap', e = .returned (.slice A' n' cap') ∧ Below W.heap.size W w' ∧ Tab w' A' n' cap' (insAll [] (preL 3)) :=
  put_gen 2 (by decide) A n cap b W0 W hT hb
theorem put_3 (A : Option Addr) (n cap b : Nat) (W0 W : World) (hT : Tab W A n cap (insAll [] (preL 3))) (hb : BS W0 W b 3) :
    Calls Try.prog 36 #[.slice A n cap, .int .i64 1050, .int .i64 2, .slice (some ⟨b, 0, none⟩) 1 1] W fun e w' => ∃ A' n' cap', e = .returned (.slice A' n' cap') ∧ Below W.heap.size W w' ∧ Tab w' A' n' cap' (insAll [] (preL 4)) :=
  put_gen 3 (by decide) A n cap b W0 W hT hb
theorem put_4 (A : Option Addr) (n cap b : Nat) (W0 W : World) (hT : Tab W A n cap (insAll [] (preL 4))) (hb : BS W0 W b 4) :
    Calls Try.prog 36 #[.slice A n cap, .int .i64 1000, .int .i64 2, .slice (some ⟨b, 0, none⟩) 1 1] W fun e w' => ∃ A' n' cap', e = .returned (.slice A' n' cap') ∧ Below W.heap.size W w' ∧ Tab w' A' n' cap' (insAll [] (preL 5)) :=
  put_gen 4 (by decide) A n cap b W0 W hT hb
theorem put_5 (A : Option Addr) (n cap b : Nat) (W0 W : World) (hT : Tab W A n cap (insAll [] (preL 5))) (hb : BS W0 W b 5) :
    Calls Try.prog 36 #[.slice A n cap, .int .i64 900, .int .i64 4, .slice (some ⟨b, 0, none⟩) 1 1] W fun e w' => ∃ A' n' cap', e = .returned (.slice A' n' cap') ∧ Below W.heap.size W w' ∧ Tab w' A' n' cap' (insAll [] (preL 6)) :=
  put_gen 5 (by decide) A n cap b W0 W hT hb
theorem put_6 (A : Option Addr) (n cap b : Nat) (W0 W : World) (hT : Tab W A n cap (insAll [] (preL 6))) (hb : BS W0 W b 6) :
    Calls Try.prog 36 #[.slice A n cap, .int .i64 700, .int .i64 1, .slice (some ⟨b, 0, none⟩) 16 16] W fun e w' => ∃ A' n' cap', e = .returned (.slice A' n' cap') ∧ Below W.heap.size W w' ∧ Tab w' A' n' cap' (insAll [] (preL 7)) :=
  put_gen 6 (by decide) A n cap b W0 W hT hb
theorem put_7 (A : Option Addr) (n cap b : Nat) (W0 W : World) (hT : Tab W A n cap (insAll [] (preL 7))) (hb : BS W0 W b 7) :
    Calls Try.prog 36 #[.slice A n cap, .int .i64 500, .int .i64 3, .slice (some ⟨b, 0, none⟩) 4 4] W fun e w' => ∃ A' n' cap', e = .returned (.slice A' n' cap') ∧ Below W.heap.size W w' ∧ Tab w' A' n' cap' (insAll [] (preL 8)) :=
  put_gen 7 (by decide) A n cap b W0 W hT hb
theorem put_8 (A : Option Addr) (n cap b : Nat) (W0 W : World) (hT : Tab W A n cap (insAll [] (preL 8))) (hb : BS W0 W b 8) :
    Calls Try.prog 36 #[.slice A n cap, .int .i64 400, .int .i64 3, .slice (some ⟨b, 0, none⟩) 8 8] W fun e w' => ∃ A' n' cap', e = .returned (.slice A' n' cap') ∧ Below W.heap.size W w' ∧ Tab w' A' n' cap' (insAll [] (preL 9)) :=
  put_gen 8 (by decide) A n cap b W0 W hT hb
theorem put_9 (A : Option Addr) (n cap b : Nat) (W0 W : World) (hT : Tab W A n cap (insAll [] (preL 9))) (hb : BS W0 W b 9) :
    Calls Try.prog 36 #[.slice A n cap, .int .i64 200, .int .i64 1, .slice (some ⟨b, 0, none⟩) 1 1] W fun e w' => ∃ A' n' cap', e = .returned (.slice A' n' cap') ∧ Below W.heap.size W w' ∧ Tab w' A' n' cap' (insAll [] (preL 10)) :=
  put_gen 9 (by decide) A n cap b W0 W hT hb
theorem put_10 (A : Option Addr) (n cap b : Nat) (W0 W : World) (hT : Tab W A n cap (insAll [] (preL 10))) (hb : BS W0 W b 10) :
    Calls Try.prog 36 #[.slice A n cap, .int .i64 200, .int .i64 2, .slice (some ⟨b, 0, none⟩) 1 1] W fun e w' => ∃ A' n' cap', e = .returned (.slice A' n' cap') ∧ Below W.heap.size W w' ∧ Tab w' A' n' cap' (insAll [] (preL 11)) :=
  put_gen 10 (by decide) A n cap b W0 W hT hb
theorem put_11 (A : Option Addr) (n cap b : Nat) (W0 W : World) (hT : Tab W A n cap (insAll [] (preL 11))) (hb : BS W0 W b 11) :
    Calls Try.prog 36 #[.slice A n cap, .int .i64 200, .int .i64 4, .slice (some ⟨b, 0, none⟩) 3 3] W fun e w' => ∃ A' n' cap', e = .returned (.slice A' n' cap') ∧ Below W.heap.size W w' ∧ Tab w' A' n' cap' (insAll [] (preL 12)) :=
  put_gen 11 (by decide) A n cap b W0 W hT hb
set_option maxHeartbeats 3200000 in
theorem ref_default (w : World) : Calls Try.prog 13 #[] w fun e w' => ∃ A n cap, e = .returned (.slice A n cap) ∧ Below w.heap.size w w' ∧ Tab w' A n cap defL := by
  have HT0 := Lib.hid (show Tab w none 0 0 (insAll [] (preL 0)) from Tab.none w)
  have HB0 := Lib.hid (Below.refl w.heap.size w)
  go_enter Try.func13, Try.ntmps13
  go_wp2_with ((with_reducible refine at_bs ?_); refine wpList_bs rfl 0 _ _ _ rfl rfl bs_0 ?_; intro b0 v0 h0)
  refine (put_0 none 0 0 b0 _ v0 (HT0.out.below h0.bel) h0).mono ?_; rintro e w1 ⟨A1, n1, c1, rfl, hB1, hT1⟩
  have HT1 := Lib.hid hT1
  have HB1 := Lib.hid (HB0.out.trans ((h0.bel.trans (hB1.mono h0.bel.size)).mono HB0.out.size))
  clear hT1 hB1 h0 HT0 HB0
  go_wp2_with ((with_reducible refine at_bs ?_); refine wpList_bs rfl 1 _ _ _ rfl rfl bs_1 ?_; intro b1 v1 h1)
  refine (put_1 A1 n1 c1 b1 _ v1 (HT1.out.below h1.bel) h1).mono ?_; rintro e w2 ⟨A2, n2, c2, rfl, hB2, hT2⟩
  have HT2 := Lib.hid hT2
  have HB2 := Lib.hid (HB1.out.trans ((h1.bel.trans (hB2.mono h1.bel.size)).mono HB1.out.size))
  clear hT2 hB2 h1 HT1 HB1
  go_wp2_with ((with_reducible refine at_bs ?_); refine wpList_bs rfl 2 _ _ _ rfl rfl bs_2 ?_; intro b2 v2 h2)
  refine (put_2 A2 n2 c2 b2 _ v2 (HT2.out.below h2.bel) h2).mono ?_; rintro e w3 ⟨A3, n3, c3, rfl, hB3, hT3⟩
  have HT3 := Lib.hid hT3
  have HB3 := Lib.hid (HB2.out.trans ((h2.bel.trans (hB3.mono h2.bel.size)).mono HB2.out.size))
  clear hT3 hB3 h2 HT2 HB2
  go_wp2_with ((with_reducible refine at_bs ?_); refine wpList_bs rfl 3 _ _ _ rfl rfl bs_3 ?_; intro b3 v3 h3)
  refine (put_3 A3 n3 c3 b3 _ v3 (HT3.out.below h3.bel) h3).mono ?_; rintro e w4 ⟨A4, n4, c4, rfl, hB4, hT4⟩
  have HT4 := Lib.hid hT4
  have HB4 := Lib.hid (HB3.out.trans ((h3.bel.trans (hB4.mono h3.bel.size)).mono HB3.out.size))
  clear hT4 hB4 h3 HT3 HB3
  go_wp2_with ((with_reducible refine at_bs ?_); refine wpList_bs rfl 4 _ _ _ rfl rfl bs_4 ?_; intro b4 v4 h4)
  refine (put_4 A4 n4 c4 b4 _ v4 (HT4.out.below h4.bel) h4).mono ?_; rintro e w5 ⟨A5, n5, c5, rfl, hB5, hT5⟩
  have HT5 := Lib.hid hT5
  have HB5 := Lib.hid (HB4.out.trans ((h4.bel.trans (hB5.mono h4.bel.size)).mono HB4.out.size))
  clear hT5 hB5 h4 HT4 HB4
  go_wp2_with ((with_reducible refine at_bs ?_); refine wpList_bs rfl 5 _ _ _ rfl rfl bs_5 ?_; intro b5 v5 h5)
  refine (put_5 A5 n5 c5 b5 _ v5 (HT5.out.below h5.bel) h5).mono ?_; rintro e w6 ⟨A6, n6, c6, rfl, hB6, hT6⟩
  have HT6 := Lib.hid hT6
  have HB6 := Lib.hid (HB5.out.trans ((h5.bel.trans (hB6.mono h5.bel.size)).mono HB5.out.size))
  clear hT6 hB6 h5 HT5 HB5
  go_wp2_with ((with_reducible refine at_bs ?_); refine wpList_bs rfl 6 _ _ _ rfl rfl bs_6 ?_; intro b6 v6 h6)
  refine (put_6 A6 n6 c6 b6 _ v6 (HT6.out.below h6.bel) h6).mono ?_; rintro e w7 ⟨A7, n7, c7, rfl, hB7, hT7⟩
  have HT7 := Lib.hid hT7
  have HB7 := Lib.hid (HB6.out.trans ((h6.bel.trans (hB7.mono h6.bel.size)).mono HB6.out.size))
  clear hT7 hB7 h6 HT6 HB6
  go_wp2_with ((with_reducible refine at_bs ?_); refine wpList_bs rfl 7 _ _ _ rfl rfl bs_7 ?_; intro b7 v7 h7)
  refine (put_7 A7 n7 c7 b7 _ v7 (HT7.out.below h7.bel) h7).mono ?_; rintro e w8 ⟨A8, n8, c8, rfl, hB8, hT8⟩
  have HT8 := Lib.hid hT8
  have HB8 := Lib.hid (HB7.out.trans ((h7.bel.trans (hB8.mono h7.bel.size)).mono HB7.out.size))
  clear hT8 hB8 h7 HT7 HB7
  go_wp2_with ((with_reducible refine at_bs ?_); refine wpList_bs rfl 8 _ _ _ rfl rfl bs_8 ?_; intro b8 v8 h8)
  refine (put_8 A8 n8 c8 b8 _ v8 (HT8.out.below h8.bel) h8).mono ?_; rintro e w9 ⟨A9, n9, c9, rfl, hB9, hT9⟩
  have HT9 := Lib.hid hT9
  have HB9 := Lib.hid (HB8.out.trans ((h8.bel.trans (hB9.mono h8.bel.size)).mono HB8.out.size))
  clear hT9 hB9 h8 HT8 HB8
  go_wp2_with ((with_reducible refine at_bs ?_); refine wpList_bs rfl 9 _ _ _ rfl rfl bs_9 ?_; intro b9 v9 h9)
  refine (put_9 A9 n9 c9 b9 _ v9 (HT9.out.below h9.bel) h9).mono ?_; rintro e w10 ⟨A10, n10, c10, rfl, hB10, hT10⟩
  have HT10 := Lib.hid hT10
  have HB10 := Lib.hid (HB9.out.trans ((h9.bel.trans (hB10.mono h9.bel.size)).mono HB9.out.size))
  clear hT10 hB10 h9 HT9 HB9
  go_wp2_with ((with_reducible refine at_bs ?_); refine wpList_bs rfl 10 _ _ _ rfl rfl bs_10 ?_; intro b10 v10 h10)
  refine (put_10 A10 n10 c10 b10 _ v10 (HT10.out.below h10.bel) h10).mono ?_; rintro e w11 ⟨A11, n11, c11, rfl, hB11, hT11⟩
  have HT11 := Lib.hid hT11
  have HB11 := Lib.hid (HB10.out.trans ((h10.bel.trans (hB11.mono h10.bel.size)).mono HB10.out.size))
  clear hT11 hB11 h10 HT10 HB10
  go_wp2_with ((with_reducible refine at_bs ?_); refine wpList_bs rfl 11 _ _ _ rfl rfl bs_11 ?_; intro b11 v11 h11)
  refine (put_11 A11 n11 c11 b11 _ v11 (HT11.out.below h11.bel) h11).mono ?_; rintro e w12 ⟨A12, n12, c12, rfl, hB12, hT12⟩
  have HT12 := Lib.hid hT12
  have HB12 := Lib.hid (HB11.out.trans ((h11.bel.trans (hB12.mono h11.bel.size)).mono HB11.out.size))
  clear hT12 hB12 h11 HT11 HB11
  go_wp2_with fail
  go_ret
  exact ⟨A12, n12, c12, rfl, HB12.out, HT12.out⟩
set_option maxHeartbeats 1600000 in
theorem law_default (w : World) : Calls Try.prog 3 #[] w fun e w' => e = .returned (.bool true) ∧ Below w.heap.size w w' := by
  go_enter Try.func3, Try.ntmps3
  go_wp2_with fail
  refine (ops_default sort_said w).mono ?_; rintro e w1 ⟨g, cap, rfl, hB1, hO⟩
  have HT1 : Hid (Tab w1 (some ⟨g, 0, none⟩) 41 cap defL) := Lib.hid ⟨defL_len.symm, hO, fun hh => absurd hh (by decide)⟩
  clear hO
  go_wp2_with fail
  refine (ref_default w1).mono ?_; rintro e w2 ⟨A2, n2, c2, rfl, hB2, hT2⟩
  have HT2 := Lib.hid hT2
  have HT12 := Lib.hid (HT1.out.below hB2)
  have hB02 := hB1.trans (hB2.mono hB1.size)
  clear hT2
  go_wp2_with fail
  refine (same_tab HT12.out HT2.out (by decide)).mono ?_; rintro e w3 ⟨rfl, hB3⟩
  have HT13 := Lib.hid (HT12.out.below hB3)
  have hB03 := hB02.trans (hB3.mono hB02.size)
  have HV := Lib.hid (ops_valid (some ⟨g, 0, none⟩) 41 cap defL w3 defL_len.symm (by decide) HT13.out.ops)
  rw [defL_ok] at HV
  go_wp2_with fail
  refine HV.out.mono ?_; rintro e w4 ⟨rfl, hB4⟩
  have hB04 := hB03.trans (hB4.mono hB03.size)
  go_wp2_with fail
  refine (law_awake w4).mono ?_; rintro e w5 ⟨rfl, hB5⟩
  go_wp2_with fail
  go_ret
  exact ⟨rfl, hB04.trans (hB5.mono hB04.size)⟩
end Go.Proofs.Yteddbeifnolklaa
