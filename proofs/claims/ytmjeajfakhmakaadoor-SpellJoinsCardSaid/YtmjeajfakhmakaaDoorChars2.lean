/- Contracts of layer 1: the program's Class, digits. -/
import Derived.Test.YtmjeajfakhmakaaDoorChars
import Derived.Deep.QuietTactic
import Derived.BigQuiet
import Derived.LoopTactic
namespace Go.Proofs.YtmjeajfakhmakaaDoor
open Go.RowKit Hb

/-- The table of the program's Class. -/
def rowStr (j : Nat) : ByteArray := ⟨(rowOf.getD j []).toArray⟩
theorem rowIx_step (c : Int) (k : Nat) (hk : k < 7) (h : k ≤ rowIx c) : (among (rowStr k).data.toList c = true → rowIx c = k) ∧ (among (rowStr k).data.toList c = false → k + 1 ≤ rowIx c) := by
  have hl : k < rowOf.length := hk
  have e : (rowStr k).data.toList = rowOf[k] := by
    unfold rowStr; rw [List.getD_eq_getElem?_getD, List.getElem?_eq_getElem hl]; simp
  rw [e]
  constructor
  · intro ha
    have h2 : ¬ k < rowIx c := fun hlt => by
      have := List.not_of_lt_findIdx (p := fun l => among l c) hlt
      simp [ha] at this
    omega
  · intro ha
    have h2 : rowIx c ≠ k := fun he => by
      have hlt : rowOf.findIdx (fun l => among l c) < rowOf.length := by show rowIx c < _; omega
      have := List.findIdx_getElem (w := hlt)
      have e2 : rowOf[rowOf.findIdx (fun l => among l c)] = rowOf[k] := by congr 1
      rw [e2] at this
      simp [ha] at this
    omega

def rowRes (c : Int) : Int := if rowIx c = 7 then -1 else rowIx c
set_option maxHeartbeats 400000 in
theorem class_indexFunc (c : Int) (g b : Nat) (w : World) (hb : b < w.heap.size) (hp : w.cell? ⟨b, 0, none⟩ = some (.int .i64 c)) (h0 : 0 ≤ c) (h1 : c ≤ 255)
    (hg : g < w.heap.size) (hk : ∀ j : Nat, j < 7 → w.cell? ⟨g, j * 2, none⟩ = some (.int .i64 (j + 1)) ∧ w.cell? ⟨g, j * 2 + 1, none⟩ = some (.string (rowStr j))) :
    Calls Tryd.prog 52 #[.slice (some ⟨g, 0, none⟩) 7 7, .func (.func 53) #[] #[.pointer (some ⟨b, 0, none⟩)]] w fun e w' => e = .returned (.int .i64 (rowRes c)) ∧ Below w.heap.size w w' := by
  have HK := Lib.hid hk
  clear hk
  have hle := rowIx_le c
  go_enter Tryd.func52, Tryd.ntmps52
  go_wp2
  go_loopw [8] (fun i wr => ∃ k : Nat, k ≤ 7 ∧ i = .int .i64 k ∧ k ≤ rowIx c ∧ Below w.heap.size w wr) (fun i _ => 7 - (intOf i).toNat)
  case atStart => exact ⟨0, Nat.zero_le _, rfl, Nat.zero_le _, Below.refl _ _⟩
  case round =>
    obtain ⟨k, hk, rfl, hi, hB⟩ := hrel
    by_cases hlt : k < 7
    · obtain ⟨a1, a2⟩ := HK.out k hlt
      have c1 := (hB.cell (p := ⟨g, k * 2, none⟩) hg).trans a1
      have c2 := (hB.cell (p := ⟨g, k * 2 + 1, none⟩) hg).trans a2
      have c3 := (hB.cell (p := ⟨b, 0, none⟩) hb).trans hp
      have hs := hB.size
      have hb' : b < wr.heap.size := by omega
      clear a1 a2 hp
      have Hs := Lib.hid (rowIx_step c k hlt hi)
      cases hm : among (rowStr k).data.toList c
      all_goals
        have Hm := Lib.hid hm
        clear hm
        go_wp2_with (go_at_call 53; refine (class_closure _ _ _ _ _ _ hb' c3 h0 h1).mono ?_; rintro e w' ⟨rfl, hB2⟩; rw [Hm.out])
      · have hs1 := Hs.out.2 Hm.out
        go_roundw
        case rel => exact ⟨k + 1, by omega, by go_num, hs1, hB.trans (hB2.mono hs)⟩
        case measure => simp [intOf]; omega
      · have hs1 := Hs.out.1 Hm.out
        go_ret
        exact ⟨ret_int (by unfold rowRes; rw [hs1, if_neg (by omega)]), hB.trans (hB2.mono hs)⟩
    · have h7 := Lib.hid (show rowIx c = 7 by omega)
      go_wp2
      go_ret
      exact ⟨ret_int (by unfold rowRes; rw [h7.out, if_pos rfl]), hB⟩

abbrev rowArr : Array Value := #[.int .i64 1, .string { data := #[9, 10, 11, 12, 13, 32] }, .int .i64 2, .string { data := #[97, 98, 99, 100, 101, 102, 103, 104, 105, 106, 107, 108, 109, 110, 111, 112, 113, 114, 115, 116, 117, 118, 119, 120, 121, 122] }, .int .i64 3, .string { data := #[65, 66, 67, 68, 69, 70, 71, 72, 73, 74, 75, 76, 77, 78, 79, 80, 81, 82, 83, 84, 85, 86, 87, 88, 89, 90, 95] }, .int .i64 4, .string { data := #[48, 49, 50, 51, 52, 53, 54, 55, 56, 57] }, .int .i64 5, .string { data := #[35, 36, 38, 42, 43, 45, 46, 47, 58, 60, 61, 62, 63, 64, 94, 126, 92] }, .int .i64 6, .string { data := #[33, 40, 41, 44, 59, 91, 93, 123, 125, 37, 124] }, .int .i64 7, .string { data := #[39, 34, 96] }]
theorem rows_at (w : World) (t : TypeId) (g j : Nat) (hg : g = w.heap.size) (hj : j < 7) : (w.alloc (.cells rowArr t)).cell? ⟨g, j * 2, none⟩ = some (.int .i64 (j + 1)) ∧ (w.alloc (.cells rowArr t)).cell? ⟨g, j * 2 + 1, none⟩ = some (.string (rowStr j)) := by
  subst hg
  rw [World.cell?_alloc_new, World.cell?_alloc_new]
  match j, hj with
  | 0, _ => exact ⟨rfl, rfl⟩
  | 1, _ => exact ⟨rfl, rfl⟩
  | 2, _ => exact ⟨rfl, rfl⟩
  | 3, _ => exact ⟨rfl, rfl⟩
  | 4, _ => exact ⟨rfl, rfl⟩
  | 5, _ => exact ⟨rfl, rfl⟩
  | 6, _ => exact ⟨rfl, rfl⟩

theorem cls_row (c : Int) (h0 : 0 ≤ c) (h1 : c ≤ 255) : cls c = (rowIx c : Int) + 1 := by
  obtain ⟨n, rfl⟩ := Int.eq_ofNat_of_zero_le h0
  exact rowIx_cls n (by omega)

set_option maxHeartbeats 400000 in
theorem chars_class (c : Int) (w : World) :
    Calls Tryd.prog 34 #[.int .i64 c] w fun e w' => e = .returned (.int .i64 (cls c)) ∧ Below w.heap.size w w' := by
  cases hc : isCh c
  · have h0 := Lib.hid (cls_out c (by rw [← isCh_iff]; simp [hc]))
    go_enter Tryd.func34, Tryd.ntmps34
    go_wp2_with (go_at_call 51; refine (chars_is _ _).mono ?_; rintro e w' ⟨rfl, rfl⟩)
    go_ret
    exact ⟨ret_int h0.out.symm, (Below.refl _ _).alloc (Nat.le_refl _) _⟩
  · obtain ⟨h0, h1⟩ := (isCh_iff c).1 hc
    have HC := Lib.hid (cls_row c h0 h1)
    go_enter Tryd.func34, Tryd.ntmps34
    go_wp2_with (first | (go_at_call 51; refine (chars_is _ _).mono ?_; rintro e w' ⟨rfl, rfl⟩) | fail)
    have hrow := fun t => rows_at (w.alloc (.cells #[.int .i64 c] 3)) t (w.heap.size + 1)
    refine (class_indexFunc c (w.heap.size + 1) w.heap.size _ ?_ ?_ h0 h1 ?_ ?_).mono ?_
    · simp; omega
    · simp [go_sem]
    · simp
    · exact fun j hj => hrow _ j (by simp) hj
    rintro e w1 ⟨rfl, hB⟩
    by_cases h7 : rowIx c = 7
    · have HR := Lib.hid (show rowRes c = -1 by unfold rowRes; rw [if_pos h7])
      have HX := Lib.hid h7
      clear h7
      rw [HR.out]
      go_wp2
      go_ret
      exact ⟨ret_int (by rw [HC.out, HX.out]; rfl), (((Below.refl _ _).alloc (Nat.le_refl _) _).alloc (by simp) _).trans (hB.mono (by simp; omega))⟩
    · have HR := Lib.hid (show rowRes c = rowIx c by unfold rowRes; rw [if_neg h7])
      have hlt : rowIx c < 7 := by have := rowIx_le c; omega
      rw [HR.out]
      have hc1 := (hB.cell (p := ⟨w.heap.size + 1, rowIx c * 2, none⟩) (by simp)).trans (hrow _ (rowIx c) (by simp) hlt).1
      clear hrow h7
      go_wp2
      go_ret
      exact ⟨ret_int HC.out.symm, (((Below.refl _ _).alloc (Nat.le_refl _) _).alloc (by simp) _).trans (hB.mono (by simp; omega))⟩

set_option maxHeartbeats 400000 in
theorem ref_alnum (c : Int) (w : World) :
    Calls Tryd.prog 45 #[.int .i64 c] w fun e w' => e = .returned (.bool (alnum c)) ∧ w = w' := by
  go_enter Tryd.func45, Tryd.ntmps45
  go_wp2_with (go_at_call 43; refine (ref_class _ _).mono ?_; rintro e w' ⟨rfl, rfl⟩)
  all_goals (go_ret; exact ⟨ret_bool (by grind [alnum]), rfl⟩)

set_option maxHeartbeats 1000000 in
theorem chars_digit (c base : Int) (w : World) :
    Calls Tryd.prog 92 #[.int .i64 c, .int .i64 base] w fun e w' => e = .returned (.tuple #[.int .i64 (digV c base), .bool (digOk c base)]) ∧ w = w' := by
  go_enter Tryd.func92, Tryd.ntmps92
  go_wp2
  all_goals (go_ret2; exact ⟨ret_ib (by grind [digV, dig]) (by grind [digOk, dig]), rfl⟩)
end Go.Proofs.YtmjeajfakhmakaaDoor
