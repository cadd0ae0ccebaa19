/- The law TokenLayout. -/
import Derived.Test.YtmjeajfakhmakaaLayS
import Derived.Test.YtmjeajfakhmakaaNext
import Derived.Test.YtmjeajfakhmakaaAwake
namespace Hb
open Go Go.RowKit
/-- A slice of integers that reads as a list. -/
def Ints (w : World) (A : Option Addr) (l : List Int) : Prop :=
  ∀ j (h : j < l.length), ∃ b off, A = some ⟨b, off, none⟩ ∧ b < w.heap.size ∧ w.cell? ⟨b, off + j, none⟩ = some (.int .i64 l[j])
theorem Ints.below {w w' : World} {A : Option Addr} {l : List Int} (h : Ints w A l) (hb : Below w.heap.size w w') : Ints w' A l := fun j hj => by
  obtain ⟨b, off, e, hlt, c1⟩ := h j hj
  exact ⟨b, off, e, Nat.lt_of_lt_of_le hlt hb.size, (hb.cell (p := ⟨b, _, none⟩) hlt).trans c1⟩
def pieceArr : Array Value := #[.string ⟨#[32]⟩, .string ⟨#[10]⟩, .string ⟨#[9]⟩, .string ⟨#[37, 32, 97, 32, 39, 98, 32, 47, 42, 10]⟩, .string ⟨#[47, 42, 32, 37, 32, 39, 32, 42, 32, 47, 32, 42, 42, 47]⟩, .string ⟨#[47, 42, 42, 47]⟩, .string ⟨#[13, 10]⟩]
theorem pieceArr_at : ∀ m : Nat, m < 7 → pieceArr[m]? = some (.string ⟨(piece m).toArray⟩)
  | 0, _ => rfl
  | 1, _ => rfl
  | 2, _ => rfl
  | 3, _ => rfl
  | 4, _ => rfl
  | 5, _ => rfl
  | 6, _ => rfl
theorem piece_cell (w : World) (t : TypeId) (m : Nat) (h : m < 7) : (w.alloc (.cells pieceArr t)).cell? ⟨w.heap.size, m, none⟩ = some (.string ⟨(piece m).toArray⟩) := by
  rw [World.cell?_alloc_new, pieceArr_at m h]
theorem rem7 (v : Int) : ∃ m : Nat, m < 7 ∧ (v.tmod 7 = m ∨ v.tmod 7 = -(m : Int)) := by
  have h1 := Int.natAbs_tmod v 7
  refine ⟨(v.tmod 7).natAbs, ?_, by omega⟩
  rw [h1]; exact Nat.mod_lt _ (by decide)
theorem str_app (a b : List UInt8) : (⟨a.toArray⟩ : ByteArray) ++ ⟨b.toArray⟩ = ⟨(a ++ b).toArray⟩ := by
  apply ByteArray.ext
  rw [ByteArray.data_append]
  simp
theorem bytes_eq (s : ByteArray) : s = ⟨s.data.toList.toArray⟩ := by simp
end Hb
namespace Go.Proofs.Ytmjeajfakhmakaa
open Go.RowKit Hb
set_option maxRecDepth 100000

theorem cells_one {w2 w4 : World} {v0 v1 v2 v3 v4 v5 : Value} {t : TypeId} (hB : Below (w2.alloc (.cells #[v0, v1, v2, v3, v4, v5] t)).heap.size (w2.alloc (.cells #[v0, v1, v2, v3, v4, v5] t)) w4) :
    w4.cell? ⟨w2.heap.size, 0, none⟩ = some v0 ∧ w4.cell? ⟨w2.heap.size, 1, none⟩ = some v1 ∧ w4.cell? ⟨w2.heap.size, 2, none⟩ = some v2 ∧ w4.cell? ⟨w2.heap.size, 3, none⟩ = some v3 ∧ w4.cell? ⟨w2.heap.size, 4, none⟩ = some v4 ∧ w4.cell? ⟨w2.heap.size, 5, none⟩ = some v5 ∧ (∀ o, w4.frozen? ⟨w2.heap.size, o, none⟩ = false) ∧ w2.heap.size < w4.heap.size := by
  have hlt : w2.heap.size < (w2.alloc (.cells #[v0, v1, v2, v3, v4, v5] t)).heap.size := by simp
  have e : ∀ o v, (#[v0, v1, v2, v3, v4, v5] : Array Value)[o]? = some v → w4.cell? ⟨w2.heap.size, o, none⟩ = some v := fun o v hv => (hB.cell (p := ⟨w2.heap.size, o, none⟩) hlt).trans ((World.cell?_alloc_new w2 _ t o).trans hv)
  refine ⟨e _ _ rfl, e _ _ rfl, e _ _ rfl, e _ _ rfl, e _ _ rfl, e _ _ rfl, fun o => ?_, Nat.lt_of_lt_of_le hlt hB.size⟩
  rw [hB.frozen (p := ⟨w2.heap.size, o, none⟩) hlt]
  have hb : (w2.alloc (.cells #[v0, v1, v2, v3, v4, v5] t)).heap[w2.heap.size]? = some (.cells #[v0, v1, v2, v3, v4, v5] t) := by show (w2.heap.push _)[w2.heap.size]? = _; simp
  unfold World.frozen?; simp only [hb]; simp
theorem top_nil (L : List UInt8) (h : L.length ≤ 16384) : nextTop L 0 [] = nextR L L 0 := by
  have hok : okArgs L 0 [] = true := by unfold okArgs; simp; exact ⟨h, rfl⟩
  unfold nextTop
  rw [if_pos hok, cvt_id]; rfl

set_option maxHeartbeats 1600000 in
theorem law_layout (s : ByteArray) (A : Option Addr) (n cap : Nat) (ps : List Int) (w : World) (hn : n = ps.length) (hm : n ≤ maxLen) (hs : s.size ≤ maxLen) (hp : Ints w A ps) :
    Calls Try.prog 7 #[.string s, .slice A n cap] w fun e w' => e = .returned (.bool true) ∧ Below w.heap.size w w' := by
  by_cases c1 : 400 < s.size
  · have b1 : decide ((400 : Int) < s.size) = true := by simp; omega
    clear hp hn c1
    go_enter Try.func7, Try.ntmps7
    go_wp2_with fail
    refine (law_awake _).mono ?_; rintro e w1 ⟨rfl, hB1⟩
    go_wp2_with fail
    go_ret
    exact ⟨rfl, hB1⟩
  have b1 : decide ((400 : Int) < s.size) = false := by simp; omega
  by_cases c2 : 20 < n
  · have b2 : decide ((20 : Int) < n) = true := by simp; omega
    clear hp hn c1
    go_enter Try.func7, Try.ntmps7
    go_wp2_with fail
    refine (law_awake _).mono ?_; rintro e w1 ⟨rfl, hB1⟩
    go_wp2_with fail
    go_ret
    exact ⟨rfl, hB1⟩
  have b2 : decide ((20 : Int) < n) = false := by simp; omega
  have HN := Lib.hid hn
  have hB0 := (Below.refl w.heap.size w).alloc (Nat.le_refl _) (.cells pieceArr 9)
  have HP := Lib.hid (hp.below hB0)
  have HPC := Lib.hid (piece_cell w 9)
  have hlt0 : w.heap.size < (w.alloc (.cells pieceArr 9)).heap.size := by simp
  clear hn hp
  go_enter Try.func7, Try.ntmps7
  go_wp2_with fail
  go_loopw [6, 7] (fun bv i wr => ∃ k : Nat, ∃ acc : List UInt8, k ≤ n ∧ i = .int .i64 k ∧ bv = .string ⟨acc.toArray⟩ ∧ acc.length ≤ 14 * k ∧ Hid (Lay acc) ∧ Below w.heap.size w wr ∧ Hid (∀ m, m < 7 → wr.cell? ⟨w.heap.size, m, none⟩ = some (.string ⟨(piece m).toArray⟩)) ∧ Hid (Ints wr A ps) ∧ w.heap.size < wr.heap.size) (fun _ i _ => n - (intOf i).toNat)
  case atStart => exact ⟨0, [], Nat.zero_le _, rfl, rfl, by simp, Lay.nil, hB0, HPC.out, HP.out, hlt0⟩
  case round =>
    obtain ⟨k, acc, hk, rfl, rfl, hal, HL, hB, HPr, HIr, hlr⟩ := hrel
    by_cases hlt : k < n
    · obtain ⟨b, off, rfl, hb', c1⟩ := HIr.out k (by have := HN.out; omega)
      generalize ps[k] = v at *
      obtain ⟨m, hm7, hv⟩ := rem7 v
      have cm := HPr.out m hm7
      have HLA := Lib.hid (HL.out.app (piece_lay m))
      have hpl := piece_len m
      rcases Nat.eq_zero_or_pos m with h0 | h0
      · subst h0
        have hv0 : v.tmod 7 = 0 := by omega
        clear hv
        go_wp2_with fail
        go_roundw
        case rel => exact ⟨k + 1, acc ++ piece 0, by omega, by go_num, congrArg Value.string (str_app _ _), by rw [List.length_append]; omega, HLA, hB, HPr, HIr, hlr⟩
        case measure => simp [intOf]; omega
      have hn1 : ¬(m : Int) ≤ -(m : Int) := by omega
      have hn2 : -(m : Int) ≤ (m : Int) := by omega
      rcases hv with hv | hv
      all_goals
        go_wp2_with fail
        go_roundw
        case rel => exact ⟨k + 1, acc ++ piece m, by omega, by go_num, congrArg Value.string (str_app _ _), by rw [List.length_append]; omega, HLA, hB, HPr, HIr, hlr⟩
        case measure => simp [intOf]; omega
    · obtain rfl : k = n := by omega
      clear HPr HIr HPC HP
      have hlen : acc.length ≤ 280 := by omega
      have hsl : s.data.toList.length ≤ 400 := by rw [size_data]; omega
      obtain ⟨x, hx⟩ : ∃ x : ByteArray, x = (⟨acc.toArray⟩ : ByteArray) ++ s := ⟨_, rfl⟩
      have hxl : x.data.toList = acc ++ s.data.toList := by rw [hx, bytes_eq s, str_app]
      have hxs : x.size ≤ 680 := by rw [← size_data, hxl, List.length_append]; omega
      have HT1 := Lib.hid (fun w' => token_next s 0 none 0 0 [] w' rfl (by decide) hs (Pairs.nil _ _))
      have HT2 := Lib.hid (fun w' => token_next x 0 none 0 0 [] w' rfl (by decide) (by unfold maxLen; omega) (Pairs.nil _ _))
      rw [top_nil s.data.toList (by omega)] at HT1
      rw [hxl, top_nil _ (by rw [List.length_append]; omega), next_lay acc s.data.toList HL.out] at HT2
      have HX := Lib.hid hx
      have hne := next_end s.data.toList s.data.toList rfl 0 (Nat.zero_le _)
      have hnw := next_where s.data.toList s.data.toList rfl 0 (Nat.zero_le _)
      rw [size_data] at hne hnw
      generalize nextR s.data.toList s.data.toList 0 = r at *
      clear hx hxl
      obtain ⟨⟨rk, rt, rn, ra, re, rerr⟩, rl, rwh⟩ := r
      simp only [] at hne hnw HT1 HT2
      have hbz := hB.size
      by_cases e0 : rerr = 0
      · obtain ⟨p, en, e1, e2, e3, e4, e5, e6, e7⟩ := hne e0
        subst e0; subst e1; subst e3; subst e7
        clear hnw hne e6
        rw [if_pos rfl] at HT2
        unfold shL at HT2
        simp only [if_true] at HT2
        have hw1 : IntKind.i64.wrap ((p : Int) + acc.length) = (p : Int) + acc.length := IntWalk.i64_in _ (by omega)
        have hw2 : IntKind.i64.wrap ((en : Int) + acc.length) = (en : Int) + acc.length := IntWalk.i64_in _ (by omega)
        cases rl with
        | true =>
          cases hpos : decide (0 < acc.length) with
          | true =>
            rw [hpos, show (true || true) = true from rfl] at HT2
            have hpos2 : decide ((0 : Int) < (acc.length : Int)) = true := by rw [← hpos]; simp
            go_wp2_with fail
            refine (HT1.out _).mono ?_; rintro e w1 ⟨he, hB1⟩
            unfold GivesN nxtTup at he; simp only [] at he; subst he
            have hs1 := hB1.size
            have hBa := fun o => (hB.trans (hB1.mono hbz)).alloc (Nat.le_trans hbz hs1) o
            go_wp2_with fail
            rw [← HX.out]
            refine (HT2.out _).mono ?_; rintro e w2 ⟨he, hB2⟩
            unfold GivesN nxtTup at he; simp only [] at he; subst he
            have hBb := (hBa _).trans (hB2.mono (hBa _).size)
            have hs2 := hBb.size
            obtain ⟨t0, t1, t2, t3, t4, t5, t6, tl⟩ := cells_one hB2
            have hw1s : w.heap.size ≤ w1.heap.size := Nat.le_trans hbz hs1
            clear hB1 hB2 hBa
            go_wp2_with fail
            refine (law_awake _).mono ?_; rintro e w3 ⟨rfl, hB3⟩
            go_wp2_with fail
            go_ret
            exact ⟨rfl, Below.trans (by repeat (first | with_reducible exact hBb | with_reducible refine Below.setCell ?_ (by dsimp only; omega) _ | with_reducible refine Below.alloc ?_ (by simp [World.setCell]; omega) _)) (hB3.mono (by simp [World.setCell]; omega))⟩
          | false =>
            rw [hpos, show (false || true) = true from rfl] at HT2
            have hpos2 : decide ((0 : Int) < (acc.length : Int)) = false := by rw [← hpos]; simp
            go_wp2_with fail
            refine (HT1.out _).mono ?_; rintro e w1 ⟨he, hB1⟩
            unfold GivesN nxtTup at he; simp only [] at he; subst he
            have hs1 := hB1.size
            have hBa := fun o => (hB.trans (hB1.mono hbz)).alloc (Nat.le_trans hbz hs1) o
            go_wp2_with fail
            rw [← HX.out]
            refine (HT2.out _).mono ?_; rintro e w2 ⟨he, hB2⟩
            unfold GivesN nxtTup at he; simp only [] at he; subst he
            have hBb := (hBa _).trans (hB2.mono (hBa _).size)
            have hs2 := hBb.size
            obtain ⟨t0, t1, t2, t3, t4, t5, t6, tl⟩ := cells_one hB2
            have hw1s : w.heap.size ≤ w1.heap.size := Nat.le_trans hbz hs1
            clear hB1 hB2 hBa
            go_wp2_with fail
            refine (law_awake _).mono ?_; rintro e w3 ⟨rfl, hB3⟩
            go_wp2_with fail
            go_ret
            exact ⟨rfl, Below.trans (by repeat (first | with_reducible exact hBb | with_reducible refine Below.setCell ?_ (by dsimp only; omega) _ | with_reducible refine Below.alloc ?_ (by simp [World.setCell]; omega) _)) (hB3.mono (by simp [World.setCell]; omega))⟩
        | false =>
          cases hpos : decide (0 < acc.length) with
          | true =>
            rw [hpos, show (true || false) = true from rfl] at HT2
            have hpos2 : decide ((0 : Int) < (acc.length : Int)) = true := by rw [← hpos]; simp
            go_wp2_with fail
            refine (HT1.out _).mono ?_; rintro e w1 ⟨he, hB1⟩
            unfold GivesN nxtTup at he; simp only [] at he; subst he
            have hs1 := hB1.size
            have hBa := fun o => (hB.trans (hB1.mono hbz)).alloc (Nat.le_trans hbz hs1) o
            go_wp2_with fail
            rw [← HX.out]
            refine (HT2.out _).mono ?_; rintro e w2 ⟨he, hB2⟩
            unfold GivesN nxtTup at he; simp only [] at he; subst he
            have hBb := (hBa _).trans (hB2.mono (hBa _).size)
            have hs2 := hBb.size
            obtain ⟨t0, t1, t2, t3, t4, t5, t6, tl⟩ := cells_one hB2
            have hw1s : w.heap.size ≤ w1.heap.size := Nat.le_trans hbz hs1
            clear hB1 hB2 hBa
            go_wp2_with fail
            refine (law_awake _).mono ?_; rintro e w3 ⟨rfl, hB3⟩
            go_wp2_with fail
            go_ret
            exact ⟨rfl, Below.trans (by repeat (first | with_reducible exact hBb | with_reducible refine Below.setCell ?_ (by dsimp only; omega) _ | with_reducible refine Below.alloc ?_ (by simp [World.setCell]; omega) _)) (hB3.mono (by simp [World.setCell]; omega))⟩
          | false =>
            rw [hpos, show (false || false) = false from rfl] at HT2
            have hpos2 : decide ((0 : Int) < (acc.length : Int)) = false := by rw [← hpos]; simp
            go_wp2_with fail
            refine (HT1.out _).mono ?_; rintro e w1 ⟨he, hB1⟩
            unfold GivesN nxtTup at he; simp only [] at he; subst he
            have hs1 := hB1.size
            have hBa := fun o => (hB.trans (hB1.mono hbz)).alloc (Nat.le_trans hbz hs1) o
            go_wp2_with fail
            rw [← HX.out]
            refine (HT2.out _).mono ?_; rintro e w2 ⟨he, hB2⟩
            unfold GivesN nxtTup at he; simp only [] at he; subst he
            have hBb := (hBa _).trans (hB2.mono (hBa _).size)
            have hs2 := hBb.size
            obtain ⟨t0, t1, t2, t3, t4, t5, t6, tl⟩ := cells_one hB2
            have hw1s : w.heap.size ≤ w1.heap.size := Nat.le_trans hbz hs1
            clear hB1 hB2 hBa
            go_wp2_with fail
            refine (law_awake _).mono ?_; rintro e w3 ⟨rfl, hB3⟩
            go_wp2_with fail
            go_ret
            exact ⟨rfl, Below.trans (by repeat (first | with_reducible exact hBb | with_reducible refine Below.setCell ?_ (by dsimp only; omega) _ | with_reducible refine Below.alloc ?_ (by simp [World.setCell]; omega) _)) (hB3.mono (by simp [World.setCell]; omega))⟩
      · obtain ⟨p, e1, e2, e3, e4, e5, e6⟩ := hnw e0
        subst e1
        clear hne hnw e4 e5 e6
        rw [if_neg e0] at HT2
        have b5 : (rerr != 0) = true := by simp [e0]
        have b6 : ((acc.length : Int) + p != (p : Int) + acc.length) = false := by simp; omega
        clear e0
        go_wp2_with fail
        refine (HT1.out _).mono ?_; rintro e w1 ⟨he, hB1⟩
        unfold GivesN nxtTup at he; simp only [] at he; subst he
        have hs1 := hB1.size
        have hBa := fun o => (hB.trans (hB1.mono hbz)).alloc (Nat.le_trans hbz hs1) o
        go_wp2_with fail
        rw [← HX.out]
        refine (HT2.out _).mono ?_; rintro e w2 ⟨he, hB2⟩
        unfold GivesN nxtTup at he; simp only [] at he; subst he
        have hBb := (hBa _).trans (hB2.mono (hBa _).size)
        have hs2 := hBb.size
        have hBc := fun o => hBb.alloc hs2 o
        clear hB1 hB2 hBa
        go_wp2_with fail
        refine (law_awake _).mono ?_; rintro e w3 ⟨rfl, hB3⟩
        go_wp2_with fail
        go_ret
        exact ⟨rfl, (hBc _).trans (hB3.mono (hBc _).size)⟩
end Go.Proofs.Ytmjeajfakhmakaa
