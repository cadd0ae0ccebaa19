/- Operators: the law OpsBounds. -/
import Derived.Test.YteddbeifnolklaaOpAw
namespace Hb
open Go Go.RowKit
theorem findR_some {l : List OpR} {name : ByteArray} {c : Int} {o : OpR} (h : findR l name c = some o) : opsValid l = true ∧ o ∈ l ∧ o.name.toList = name.toList ∧ clsOp o.typ = c ∧ opOk o = true := by
  unfold findR at h
  cases hv : opsValid l
  · rw [hv, if_neg (by simp)] at h; cases h
  · rw [hv, if_pos rfl] at h
    have h1 := List.mem_of_find?_eq_some h
    have h2 := List.find?_some h
    unfold isOp at h2
    simp at h2
    refine ⟨rfl, h1, h2.1, h2.2, ?_⟩
    obtain ⟨j, hj, rfl⟩ := List.getElem_of_mem h1
    have h3 := (opsValid_at l hv).2 j hj
    unfold okJ at h3
    rw [getD_at l j hj] at h3
    simp at h3
    exact h3.1
theorem opOk_prec {o : OpR} (h : opOk o = true) : 1 ≤ o.prec ∧ o.prec ≤ 1200 ∧ clsOp o.typ ≠ 0 := by
  unfold opOk at h
  grind
theorem side_facts {o : OpR} (h : opOk o = true) : 0 ≤ sideL o ∧ 0 ≤ sideR o ∧ sideL o ≤ o.prec ∧ sideR o ≤ o.prec ∧ (clsOp o.typ = 1 → sideL o = 0) ∧ (clsOp o.typ = 2 → ¬(sideL o = o.prec ∧ sideR o = o.prec)) ∧ (clsOp o.typ = 3 → sideR o = 0) := by
  obtain ⟨h1, h2, h3⟩ := opOk_prec h
  unfold clsOp at *
  unfold sideL sideR
  grind
end Hb
namespace Go.Proofs.Yteddbeifnolklaa
open Go.RowKit Hb
set_option maxRecDepth 100000
set_option maxHeartbeats 6400000 in
theorem law_bounds (A : Option Addr) (n cap : Nat) (l : List OpR) (name : ByteArray) (w : World) (hn : n = l.length) (hm : n ≤ maxLen) (hp : OpsAt w A l) :
    Calls Try.prog 7 #[.slice A n cap, .string name] w fun e w' => e = .returned (.bool true) ∧ Below w.heap.size w w' := by
  unfold maxLen at hm
  by_cases h3 : 300 < n
  · have b1 : decide ((300 : Int) < (n : Int)) = true := by simp; omega
    clear hp hn
    go_enter Try.func7, Try.ntmps7
    go_wp2_with fail
    refine (law_awake w).mono ?_; rintro e w1 ⟨rfl, hB1⟩
    go_wp2_with fail
    go_ret
    exact ⟨rfl, hB1⟩
  have b1 : decide ((300 : Int) < (n : Int)) = false := by simp; omega
  have HN := Lib.hid hn
  have HP := Lib.hid hp
  have hm4 : n ≤ 400 := by omega
  clear hn hp h3
  go_enter Try.func7, Try.ntmps7
  go_wp2_with fail
  go_loopw [5] (fun i wr => ∃ k : Nat, (k = 1 ∨ k = 2 ∨ k = 3 ∨ k = 4) ∧ i = .int .i64 k ∧ Below w.heap.size w wr) (fun i _ => 4 - (intOf i).toNat)
  case atStart => exact ⟨1, .inl rfl, rfl, Below.refl _ _⟩
  case round =>
    obtain ⟨k, hk, rfl, hB⟩ := hrel
    by_cases hk4 : k = 4
    · subst hk4
      go_wp2_with fail
      refine (law_awake wr).mono ?_; rintro e w1 ⟨rfl, hB1⟩
      have hB2 := hB.trans (hB1.mono hB.size)
      go_wp2_with fail
      go_ret
      exact ⟨rfl, hB2⟩
    · have hF := Lib.hid (law_find A n cap l k name wr HN.out hm4 (HP.out.below hB) (by omega))
      cases hf : findR l name (k : Int) with
      | none =>
        rw [hf] at hF
        have HF2 : Hid (Calls Try.prog 20 #[.slice A n cap, .int .i64 k, .string name] wr fun e w' => e = .returned (.tuple #[.agg #[.string ⟨#[]⟩, .int .i64 0, .int .i64 0], .bool false]) ∧ Below wr.heap.size wr w') := hF
        clear hf hF
        rcases hk with rfl | rfl | rfl | rfl
        · go_wp2_with fail
          refine HF2.out.mono ?_; rintro e w1 ⟨rfl, hB1⟩
          have hB2 := (hB.trans (hB1.mono hB.size)).alloc (by have := hB.size; have := hB1.size; omega) (.cells #[.string ⟨#[]⟩, .int .i64 0, .int .i64 0] 34)
          go_wp2_with fail
          go_roundw
          case rel => exact ⟨2, .inr (.inl rfl), rfl, hB2⟩
          case measure => simp [intOf]
        · go_wp2_with fail
          refine HF2.out.mono ?_; rintro e w1 ⟨rfl, hB1⟩
          have hB2 := (hB.trans (hB1.mono hB.size)).alloc (by have := hB.size; have := hB1.size; omega) (.cells #[.string ⟨#[]⟩, .int .i64 0, .int .i64 0] 34)
          go_wp2_with fail
          go_roundw
          case rel => exact ⟨3, .inr (.inr (.inl rfl)), rfl, hB2⟩
          case measure => simp [intOf]
        · go_wp2_with fail
          refine HF2.out.mono ?_; rintro e w1 ⟨rfl, hB1⟩
          have hB2 := (hB.trans (hB1.mono hB.size)).alloc (by have := hB.size; have := hB1.size; omega) (.cells #[.string ⟨#[]⟩, .int .i64 0, .int .i64 0] 34)
          go_wp2_with fail
          go_roundw
          case rel => exact ⟨4, .inr (.inr (.inr rfl)), rfl, hB2⟩
          case measure => simp [intOf]
        · exact absurd rfl hk4
      | some o =>
        rw [hf] at hF
        have HF2 : Hid (Calls Try.prog 20 #[.slice A n cap, .int .i64 k, .string name] wr fun e w' => e = .returned (.tuple #[.agg #[.string o.name, .int .i64 o.typ, .int .i64 o.prec], .bool true]) ∧ Below wr.heap.size wr w') := hF
        obtain ⟨_, _, _, hc, hok⟩ := findR_some hf
        obtain ⟨f1, f2, f3, f4, f5, f6, f7⟩ := side_facts hok
        obtain ⟨g1, g2, _⟩ := opOk_prec hok
        rw [hc] at f5 f6 f7
        have HS := Lib.hid (fun W => ops_sides o W ⟨by omega, by omega⟩)
        clear hf hF hc hok
        unfold opV at HS
        generalize sideL o = x at *
        generalize sideR o = y at *
        generalize hpr : o.prec = p at *
        have t1 : decide (p < x) = false := by simpa using f3
        have t2 : decide (p < y) = false := by simpa using f4
        have t3 : decide (x < 0) = false := by simpa using f1
        have t4 : decide (y < 0) = false := by simpa using f2
        rcases hk with rfl | rfl | rfl | rfl
        · have hx0 : x = 0 := f5 (by decide)
          subst hx0
          go_wp2_with fail
          refine HF2.out.mono ?_; rintro e w1 ⟨rfl, hB1⟩
          have hX := Lib.hid (BoxAt.start w1 ⟨o.name, o.typ, p⟩ 34)
          go_wp2_with fail
          refine (HS.out _).mono ?_; rintro e w2 ⟨rfl, hB2⟩
          have hX2 := Lib.hid (hX.out.call hB2)
          have c2 : _ = some (Value.int .i64 p) := hX2.out.c2
          have hB3 := hB.trans ((hB1.trans (hX2.out.bel.mono hB1.size)).mono hB.size)
          go_wp2_with fail
          go_roundw
          case rel => exact ⟨2, .inr (.inl rfl), rfl, hB3⟩
          case measure => simp [intOf]
        · have hne := f6 (by decide)
          by_cases hxe : x = p
          · have hye : (y == p) = false := by
              rw [beq_eq_false_iff_ne]; exact fun h => hne ⟨hxe, h⟩
            subst hxe
            go_wp2_with fail
            refine HF2.out.mono ?_; rintro e w1 ⟨rfl, hB1⟩
            have hX := Lib.hid (BoxAt.start w1 ⟨o.name, o.typ, x⟩ 34)
            go_wp2_with fail
            refine (HS.out _).mono ?_; rintro e w2 ⟨rfl, hB2⟩
            have hX2 := Lib.hid (hX.out.call hB2)
            have c2 : _ = some (Value.int .i64 x) := hX2.out.c2
            have hB3 := hB.trans ((hB1.trans (hX2.out.bel.mono hB1.size)).mono hB.size)
            go_wp2_with fail
            go_roundw
            case rel => exact ⟨3, .inr (.inr (.inl rfl)), rfl, hB3⟩
            case measure => simp [intOf]
          · have hxe' : (x == p) = false := by rw [beq_eq_false_iff_ne]; exact hxe
            go_wp2_with fail
            refine HF2.out.mono ?_; rintro e w1 ⟨rfl, hB1⟩
            have hX := Lib.hid (BoxAt.start w1 ⟨o.name, o.typ, p⟩ 34)
            go_wp2_with fail
            refine (HS.out _).mono ?_; rintro e w2 ⟨rfl, hB2⟩
            have hX2 := Lib.hid (hX.out.call hB2)
            have c2 : _ = some (Value.int .i64 p) := hX2.out.c2
            have hB3 := hB.trans ((hB1.trans (hX2.out.bel.mono hB1.size)).mono hB.size)
            go_wp2_with fail
            go_roundw
            case rel => exact ⟨3, .inr (.inr (.inl rfl)), rfl, hB3⟩
            case measure => simp [intOf]
        · have hy0 : y = 0 := f7 (by decide)
          subst hy0
          go_wp2_with fail
          refine HF2.out.mono ?_; rintro e w1 ⟨rfl, hB1⟩
          have hX := Lib.hid (BoxAt.start w1 ⟨o.name, o.typ, p⟩ 34)
          go_wp2_with fail
          refine (HS.out _).mono ?_; rintro e w2 ⟨rfl, hB2⟩
          have hX2 := Lib.hid (hX.out.call hB2)
          have c2 : _ = some (Value.int .i64 p) := hX2.out.c2
          have hB3 := hB.trans ((hB1.trans (hX2.out.bel.mono hB1.size)).mono hB.size)
          go_wp2_with fail
          go_roundw
          case rel => exact ⟨4, .inr (.inr (.inr rfl)), rfl, hB3⟩
          case measure => simp [intOf]
        · exact absurd rfl hk4
end Go.Proofs.Yteddbeifnolklaa
