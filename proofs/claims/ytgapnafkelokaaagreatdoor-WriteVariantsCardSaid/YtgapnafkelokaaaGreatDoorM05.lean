/- Contracts of layer 1: classes, digits, escapes; the reference's too. Contracts of layer 1: the program's Class, digits. Contracts of layer 1: escapes. Contracts of spell: alphanumeric, symbol; each of the reference. Contracts of spell: Glue. -/
import Derived.Test.YtgapnafkelokaaaGreatDoorProg
import Derived.Test.YtgapnafkelokaaaGreatDoorM01
import Derived.Lib.Bytealg
import Derived.Deep.QuietTactic
import Derived.BigQuiet
import Derived.LoopTactic
import Derived.Laws.Strings
import Derived.RegionTactic
import Derived.BigRegion
namespace Go.Proofs.YtgapnafkelokaaaGreatDoor
open Go.RowKit Hb
set_option maxHeartbeats 400000 in
theorem chars_is (c : Int) (w : World) :
    Calls Tryz.prog 102 #[.int .i64 c] w fun e w' => e = .returned (.bool (isCh c)) ∧ w = w' := by
  by_cases h1 : 0 ≤ c
  · go_enter Tryz.func102, Tryz.ntmps102
    go_wp2
    go_ret
    exact ⟨by simp [isCh, h1], rfl⟩
  · go_enter Tryz.func102, Tryz.ntmps102
    go_wp2
    go_ret
    exact ⟨by simp [isCh]; omega, rfl⟩
set_option maxHeartbeats 400000 in
theorem ref_is (c : Int) (w : World) :
    Calls Tryz.prog 99 #[.int .i64 c] w fun e w' => e = .returned (.bool (isCh c)) ∧ w = w' := by
  by_cases h1 : 0 ≤ c
  · go_enter Tryz.func99, Tryz.ntmps99
    go_wp2
    go_ret
    exact ⟨by simp [isCh, h1], rfl⟩
  · go_enter Tryz.func99, Tryz.ntmps99
    go_wp2
    go_ret
    exact ⟨by simp [isCh]; omega, rfl⟩
set_option maxHeartbeats 400000 in
theorem ref_among (s : ByteArray) (c : Int) (w : World) (hs : s.size ≤ maxLen) :
    Calls Tryz.prog 100 #[.string s, .int .i64 c] w fun e w' => e = .returned (.bool (among s.data.toList c)) ∧ w = w' := by
  unfold maxLen at hs
  go_enter Tryz.func100, Tryz.ntmps100
  go_wp2
  go_loop [5] (fun i => ∃ k : Nat, k ≤ s.size ∧ i = .int .i64 k ∧ among (s.data.toList.take k) c = false) (fun i => s.size - (intOf i).toNat)
  case atStart => exact ⟨0, Nat.zero_le _, rfl, rfl⟩
  case round =>
    obtain ⟨k, hk, rfl, hf⟩ := hrel
    have Hf := Lib.hid hf
    clear hf
    by_cases hlt : k < s.size
    · have hb := bAt_mk s k hlt
      have hb0 := bAt_lo s.data.toList k
      have hb1 := bAt_hi s.data.toList k
      have Hs := Lib.hid (among_snoc s.data.toList k c (by simpa using hlt))
      by_cases he : bAt s.data.toList k = c
      · have Hr := Lib.hid (among_stop s.data.toList k c (by simpa using hlt) he)
        have he' : (bAt s.data.toList k == c) = true := by simp [he]
        have He := Lib.hid he
        clear he
        go_wp2
        go_ret
        exact ⟨by rw [Hr.out]; rfl, rfl⟩
      · have he' : (bAt s.data.toList k == c) = false := by simp [he]
        clear he
        go_wp2
        go_round
        case rel => exact ⟨k + 1, by omega, by go_num, by rw [Hs.out, Hf.out, he']; rfl⟩
        case measure => simp [intOf]; omega
    · have Hr := Lib.hid (among_all s.data.toList k c (by simpa using hlt) Hf.out)
      go_wp2
      go_ret
      exact ⟨by rw [Hr.out]; rfl, rfl⟩
set_option maxHeartbeats 1000000 in
theorem ref_class (c : Int) (w : World) :
    Calls Tryz.prog 64 #[.int .i64 c] w fun e w' => e = .returned (.int .i64 (cls c)) ∧ w = w' := by
  go_enter Tryz.func64, Tryz.ntmps64
  go_wp2_with (first | (go_at_call 99; refine (ref_is _ _).mono ?_; rintro e w' ⟨rfl, rfl⟩) | (go_at_call 100; refine (ref_among _ _ _ (by decide)).mono ?_; rintro e w' ⟨rfl, rfl⟩))
  all_goals (go_ret; exact ⟨ret_int (by grind [cls, isCh]), rfl⟩)
theorem call_indexByteString (s : ByteArray) (c : Int) (w : World) : (callFunc 207 #[.string s, .int .u8 c]).run Tryz.prog w = .ok (.value (.int .i64 (Lib.indexByte s.data.toList c.toNat.toUInt8))) w := by
  rw [run_callFunc_extern Tryz.func207 (by kernel_rfl) (by kernel_rfl) (by kernel_rfl) (e := Extern.BytealgIndexByte.indexByte) (by kernel_rfl), Lib.run_indexByteString]
  rfl
set_option maxHeartbeats 400000 in
theorem lite_indexByte (s : ByteArray) (c : Int) (w : World) :
    Calls Tryz.prog 177 #[.string s, .int .u8 c] w fun e w' => e = .returned (.int .i64 (Lib.indexByte s.data.toList c.toNat.toUInt8)) ∧ w = w' := by
  have hx := call_indexByteString s c
  go_enter Tryz.func177, Tryz.ntmps177
  go_wp2
  go_ret
  exact ⟨rfl, rfl⟩
set_option maxHeartbeats 400000 in
theorem strings_indexByte (s : ByteArray) (c : Int) (w : World) :
    Calls Tryz.prog 143 #[.string s, .int .u8 c] w fun e w' => e = .returned (.int .i64 (Lib.indexByte s.data.toList c.toNat.toUInt8)) ∧ w = w' := by
  go_enter Tryz.func143, Tryz.ntmps143
  go_wp2_with (go_at_call 177; refine (lite_indexByte _ _ _).mono ?_; rintro e w' ⟨rfl, rfl⟩)
  go_ret
  exact ⟨rfl, rfl⟩
theorem indexByte_among (c : Int) (h0 : 0 ≤ c) (h1 : c ≤ 255) : ∀ l : List UInt8, decide (0 ≤ Lib.indexByte l c.toNat.toUInt8) = among l c
  | [] => rfl
  | b :: l => by
    have ih := indexByte_among c h0 h1 l
    have hge := Lib.indexByte_ge l c.toNat.toUInt8
    have hb : (b == c.toNat.toUInt8) = ((b.toNat : Int) == c) := by
      rw [Bool.eq_iff_iff, beq_iff_eq, beq_iff_eq]
      constructor
      · rintro rfl; simp; omega
      · intro h; subst h; simp
    unfold Lib.indexByte among
    rw [List.any_cons, hb]
    unfold among at ih
    rw [← ih]
    by_cases hc : ((b.toNat : Int) == c) = true
    · simp [hc]
    · simp only [hc]
      by_cases hm : Lib.indexByte l c.toNat.toUInt8 = -1
      · simp [hm]
      · have : (Lib.indexByte l c.toNat.toUInt8 == -1) = false := by simp [hm]
        simp only [this, Bool.false_eq_true, if_false, Bool.false_or]
        rw [decide_eq_decide]; omega
set_option maxHeartbeats 400000 in
theorem class_closure (k c : Int) (s : ByteArray) (b o : Nat) (w : World) (hb : b < w.heap.size) (hp : w.cell? ⟨b, o, none⟩ = some (.int .i64 c)) (h0 : 0 ≤ c) (h1 : c ≤ 255) :
    Calls Tryz.prog 142 #[.agg #[.int .i64 k, .string s], .pointer (some ⟨b, o, none⟩)] w fun e w' => e = .returned (.bool (among s.data.toList c)) ∧ Below w.heap.size w w' := by
  have H := Lib.hid (indexByte_among c h0 h1 s.data.toList)
  go_enter Tryz.func142, Tryz.ntmps142
  go_wp2_with (go_at_call 143; refine (strings_indexByte _ _ _).mono ?_; rintro e w' ⟨rfl, rfl⟩)
  go_ret
  exact ⟨ret_bool H.out, (Below.refl _ _).alloc (Nat.le_refl _) _⟩
end Go.Proofs.YtgapnafkelokaaaGreatDoor
namespace Go.Proofs.YtgapnafkelokaaaGreatDoor
open Go.RowKit Hb
/-- The table of the program's Class. -/
def rowStr (j : Nat) : ByteArray := ⟨(rowOf.getD j []).toArray⟩
theorem rowIx_step (c : Int) (k : Nat) (hk : k < 7) (h : k ≤ rowIx c) : (among (rowStr k).data.toList c = true → rowIx c = k) ∧ (among (rowStr k).data.toList c = false → k + 1 ≤ rowIx c) := by
  have hl : k < rowOf.length := hk
  have e : (rowStr k).data.toList = rowOf[k] := by
    unfold rowStr; rw [List.getD_eq_getElem?_getD, List.getElem?_eq_getElem hl]; simp
  rw [e]
  constructor
  · intro ha
    have h2 : ¬ k < rowIx c := fun hlt => by
      have := List.not_of_lt_findIdx (p := fun l => among l c) hlt
      simp [ha] at this
    omega
  · intro ha
    have h2 : rowIx c ≠ k := fun he => by
      have hlt : rowOf.findIdx (fun l => among l c) < rowOf.length := by show rowIx c < _; omega
      have := List.findIdx_getElem (w := hlt)
      have e2 : rowOf[rowOf.findIdx (fun l => among l c)] = rowOf[k] := by congr 1
      rw [e2] at this
      simp [ha] at this
    omega
def rowRes (c : Int) : Int := if rowIx c = 7 then -1 else rowIx c
set_option maxHeartbeats 400000 in
theorem class_indexFunc (c : Int) (g b : Nat) (w : World) (hb : b < w.heap.size) (hp : w.cell? ⟨b, 0, none⟩ = some (.int .i64 c)) (h0 : 0 ≤ c) (h1 : c ≤ 255)
    (hg : g < w.heap.size) (hk : ∀ j : Nat, j < 7 → w.cell? ⟨g, j * 2, none⟩ = some (.int .i64 (j + 1)) ∧ w.cell? ⟨g, j * 2 + 1, none⟩ = some (.string (rowStr j))) :
    Calls Tryz.prog 141 #[.slice (some ⟨g, 0, none⟩) 7 7, .func (.func 142) #[] #[.pointer (some ⟨b, 0, none⟩)]] w fun e w' => e = .returned (.int .i64 (rowRes c)) ∧ Below w.heap.size w w' := by
  have HK := Lib.hid hk
  clear hk
  have hle := rowIx_le c
  go_enter Tryz.func141, Tryz.ntmps141
  go_wp2
  go_loopw [8] (fun i wr => ∃ k : Nat, k ≤ 7 ∧ i = .int .i64 k ∧ k ≤ rowIx c ∧ Below w.heap.size w wr) (fun i _ => 7 - (intOf i).toNat)
  case atStart => exact ⟨0, Nat.zero_le _, rfl, Nat.zero_le _, Below.refl _ _⟩
  case round =>
    obtain ⟨k, hk, rfl, hi, hB⟩ := hrel
    by_cases hlt : k < 7
    · obtain ⟨a1, a2⟩ := HK.out k hlt
      have c1 := (hB.cell (p := ⟨g, k * 2, none⟩) hg).trans a1
      have c2 := (hB.cell (p := ⟨g, k * 2 + 1, none⟩) hg).trans a2
      have c3 := (hB.cell (p := ⟨b, 0, none⟩) hb).trans hp
      have hs := hB.size
      have hb' : b < wr.heap.size := by omega
      clear a1 a2 hp
      have Hs := Lib.hid (rowIx_step c k hlt hi)
      cases hm : among (rowStr k).data.toList c
      all_goals
        have Hm := Lib.hid hm
        clear hm
        go_wp2_with (go_at_call 142; refine (class_closure _ _ _ _ _ _ hb' c3 h0 h1).mono ?_; rintro e w' ⟨rfl, hB2⟩; rw [Hm.out])
      · have hs1 := Hs.out.2 Hm.out
        go_roundw
        case rel => exact ⟨k + 1, by omega, by go_num, hs1, hB.trans (hB2.mono hs)⟩
        case measure => simp [intOf]; omega
      · have hs1 := Hs.out.1 Hm.out
        go_ret
        exact ⟨ret_int (by unfold rowRes; rw [hs1, if_neg (by omega)]), hB.trans (hB2.mono hs)⟩
    · have h7 := Lib.hid (show rowIx c = 7 by omega)
      go_wp2
      go_ret
      exact ⟨ret_int (by unfold rowRes; rw [h7.out, if_pos rfl]), hB⟩
abbrev rowArr : Array Value := #[.int .i64 1, .string { data := #[9, 10, 11, 12, 13, 32] }, .int .i64 2, .string { data := #[97, 98, 99, 100, 101, 102, 103, 104, 105, 106, 107, 108, 109, 110, 111, 112, 113, 114, 115, 116, 117, 118, 119, 120, 121, 122] }, .int .i64 3, .string { data := #[65, 66, 67, 68, 69, 70, 71, 72, 73, 74, 75, 76, 77, 78, 79, 80, 81, 82, 83, 84, 85, 86, 87, 88, 89, 90, 95] }, .int .i64 4, .string { data := #[48, 49, 50, 51, 52, 53, 54, 55, 56, 57] }, .int .i64 5, .string { data := #[35, 36, 38, 42, 43, 45, 46, 47, 58, 60, 61, 62, 63, 64, 94, 126, 92] }, .int .i64 6, .string { data := #[33, 40, 41, 44, 59, 91, 93, 123, 125, 37, 124] }, .int .i64 7, .string { data := #[39, 34, 96] }]
theorem rows_at (w : World) (t : TypeId) (g j : Nat) (hg : g = w.heap.size) (hj : j < 7) : (w.alloc (.cells rowArr t)).cell? ⟨g, j * 2, none⟩ = some (.int .i64 (j + 1)) ∧ (w.alloc (.cells rowArr t)).cell? ⟨g, j * 2 + 1, none⟩ = some (.string (rowStr j)) := by
  subst hg
  rw [World.cell?_alloc_new, World.cell?_alloc_new]
  match j, hj with
  | 0, _ => exact ⟨rfl, rfl⟩
  | 1, _ => exact ⟨rfl, rfl⟩
  | 2, _ => exact ⟨rfl, rfl⟩
  | 3, _ => exact ⟨rfl, rfl⟩
  | 4, _ => exact ⟨rfl, rfl⟩
  | 5, _ => exact ⟨rfl, rfl⟩
  | 6, _ => exact ⟨rfl, rfl⟩
theorem cls_row (c : Int) (h0 : 0 ≤ c) (h1 : c ≤ 255) : cls c = (rowIx c : Int) + 1 := by
  obtain ⟨n, rfl⟩ := Int.eq_ofNat_of_zero_le h0
  exact rowIx_cls n (by omega)
set_option maxHeartbeats 400000 in
theorem chars_class (c : Int) (w : World) :
    Calls Tryz.prog 97 #[.int .i64 c] w fun e w' => e = .returned (.int .i64 (cls c)) ∧ Below w.heap.size w w' := by
  cases hc : isCh c
  · have h0 := Lib.hid (cls_out c (by rw [← isCh_iff]; simp [hc]))
    go_enter Tryz.func97, Tryz.ntmps97
    go_wp2_with (go_at_call 102; refine (chars_is _ _).mono ?_; rintro e w' ⟨rfl, rfl⟩)
    go_ret
    exact ⟨ret_int h0.out.symm, (Below.refl _ _).alloc (Nat.le_refl _) _⟩
  · obtain ⟨h0, h1⟩ := (isCh_iff c).1 hc
    have HC := Lib.hid (cls_row c h0 h1)
    go_enter Tryz.func97, Tryz.ntmps97
    go_wp2_with (first | (go_at_call 102; refine (chars_is _ _).mono ?_; rintro e w' ⟨rfl, rfl⟩) | fail)
    have hrow := fun t => rows_at (w.alloc (.cells #[.int .i64 c] 3)) t (w.heap.size + 1)
    refine (class_indexFunc c (w.heap.size + 1) w.heap.size _ ?_ ?_ h0 h1 ?_ ?_).mono ?_
    · simp; omega
    · simp [go_sem]
    · simp
    · exact fun j hj => hrow _ j (by simp) hj
    rintro e w1 ⟨rfl, hB⟩
    by_cases h7 : rowIx c = 7
    · have HR := Lib.hid (show rowRes c = -1 by unfold rowRes; rw [if_pos h7])
      have HX := Lib.hid h7
      clear h7
      rw [HR.out]
      go_wp2
      go_ret
      exact ⟨ret_int (by rw [HC.out, HX.out]; rfl), (((Below.refl _ _).alloc (Nat.le_refl _) _).alloc (by simp) _).trans (hB.mono (by simp; omega))⟩
    · have HR := Lib.hid (show rowRes c = rowIx c by unfold rowRes; rw [if_neg h7])
      have hlt : rowIx c < 7 := by have := rowIx_le c; omega
      rw [HR.out]
      have hc1 := (hB.cell (p := ⟨w.heap.size + 1, rowIx c * 2, none⟩) (by simp)).trans (hrow _ (rowIx c) (by simp) hlt).1
      clear hrow h7
      go_wp2
      go_ret
      exact ⟨ret_int HC.out.symm, (((Below.refl _ _).alloc (Nat.le_refl _) _).alloc (by simp) _).trans (hB.mono (by simp; omega))⟩
set_option maxHeartbeats 400000 in
theorem ref_alnum (c : Int) (w : World) :
    Calls Tryz.prog 65 #[.int .i64 c] w fun e w' => e = .returned (.bool (alnum c)) ∧ w = w' := by
  go_enter Tryz.func65, Tryz.ntmps65
  go_wp2_with (go_at_call 64; refine (ref_class _ _).mono ?_; rintro e w' ⟨rfl, rfl⟩)
  all_goals (go_ret; exact ⟨ret_bool (by grind [alnum]), rfl⟩)
end Go.Proofs.YtgapnafkelokaaaGreatDoor
namespace Go.Proofs.YtgapnafkelokaaaGreatDoor
open Go.RowKit Hb
set_option maxRecDepth 100000
theorem esc_hex2 : ∀ n : Nat, n < 256 → 16 ≤ n → (n < 32 ∨ 126 < n) → (ByteArray.mk #[92, 120] ++ (ByteArray.mk #[48, 49, 50, 51, 52, 53, 54, 55, 56, 57, 97, 98, 99, 100, 101, 102]).extract (n / 16) (n / 16 + 1) ++ (ByteArray.mk #[48, 49, 50, 51, 52, 53, 54, 55, 56, 57, 97, 98, 99, 100, 101, 102]).extract (n % 16) (n % 16 + 1) ++ ByteArray.mk #[92]) = ⟨(esc n).toArray⟩ := by decide +kernel
theorem esc_hex1 : ∀ n : Nat, n < 16 → (n < 7 ∨ 13 < n) → (ByteArray.mk #[92, 120] ++ (ByteArray.mk #[48, 49, 50, 51, 52, 53, 54, 55, 56, 57, 97, 98, 99, 100, 101, 102]).extract n (n + 1) ++ ByteArray.mk #[92]) = ⟨(esc n).toArray⟩ := by decide +kernel
set_option maxHeartbeats 1000000 in
theorem ref_escape_hex (c : Int) (w : World) (h0 : 16 ≤ c) (h1 : c ≤ 255) (h2 : c < 32 ∨ 126 < c) :
    Calls Tryz.prog 206 #[.int .i64 c] w fun e w' => e = .returned (.tuple #[.string ⟨(esc c).toArray⟩, .bool (isCh c)]) ∧ Below w.heap.size w w' := by
  obtain ⟨n, rfl⟩ := Int.eq_ofNat_of_zero_le (show 0 ≤ c by omega)
  have HE := Lib.hid (esc_hex2 n (by omega) (by omega) (by omega))
  have HC := Lib.hid (show isCh n = true by simp [isCh]; omega)
  have q2 : ((n : Int) == 39) = false := by grind
  have q3 : ((n : Int) == 92) = false := by grind
  rcases h2 with h2 | h2
  all_goals
    go_enter Tryz.func206, Tryz.ntmps206
    go_wp2_with (first | (go_at_call 99; refine (ref_is _ _).mono ?_; rintro e w' ⟨rfl, rfl⟩; rw [HC.out]))
    go_ret2
    exact ⟨ret_sb HE.out HC.out.symm, Below.refl _ _⟩
set_option maxHeartbeats 1000000 in
theorem ref_escape_hex1 (c : Int) (w : World) (h0 : 0 ≤ c) (h1 : c < 16) (h2 : c < 7 ∨ 13 < c) :
    Calls Tryz.prog 206 #[.int .i64 c] w fun e w' => e = .returned (.tuple #[.string ⟨(esc c).toArray⟩, .bool (isCh c)]) ∧ Below w.heap.size w w' := by
  obtain ⟨n, rfl⟩ := Int.eq_ofNat_of_zero_le (show 0 ≤ c by omega)
  have HE := Lib.hid (esc_hex1 n (by omega) (by omega))
  have HC := Lib.hid (show isCh n = true by simp [isCh]; omega)
  have q2 : ((n : Int) == 39) = false := by grind
  have q3 : ((n : Int) == 92) = false := by grind
  have q4 : (n : Int) % 16 = n := by omega
  rcases h2 with h2 | h2
  all_goals
    go_enter Tryz.func206, Tryz.ntmps206
    go_wp2_with (first | (go_at_call 99; refine (ref_is _ _).mono ?_; rintro e w' ⟨rfl, rfl⟩; rw [HC.out]))
    go_ret2
    exact ⟨ret_sb HE.out HC.out.symm, Below.refl _ _⟩
set_option maxHeartbeats 1000000 in
theorem ref_escape_plain (c : Int) (w : World) (h0 : 32 ≤ c) (h1 : c ≤ 126) (h2 : ¬ c = 39) (h3 : ¬ c = 92) :
    Calls Tryz.prog 206 #[.int .i64 c] w fun e w' => e = .returned (.tuple #[.string ⟨(esc c).toArray⟩, .bool (isCh c)]) ∧ Below w.heap.size w w' := by
  have HE := Lib.hid (show esc c = [c.toNat.toUInt8] by unfold esc; grind)
  have HC := Lib.hid (show isCh c = true by simp [isCh]; omega)
  have q2 : (c == 39) = false := by grind
  have q3 : (c == 92) = false := by grind
  clear h2 h3
  have hk := fun (w : World) => conv_new1 (P := Tryz.prog) 75 9 5 Tryz.underlying75 Tryz.underlying5 Tryz.underlying9 c (by omega) (by omega) w
  go_enter Tryz.func206, Tryz.ntmps206
  go_wp2_with (first | (go_at_call 99; refine (ref_is _ _).mono ?_; rintro e w' ⟨rfl, rfl⟩; rw [HC.out]))
  go_ret2
  exact ⟨ret_sb (by rw [HE.out]) HC.out.symm, (Below.refl _ _).alloc (Nat.le_refl _) _⟩
set_option maxHeartbeats 1000000 in
theorem ref_escape_quote (c : Int) (w : World) (h2 : c = 39 ∨ c = 92) :
    Calls Tryz.prog 206 #[.int .i64 c] w fun e w' => e = .returned (.tuple #[.string ⟨(esc c).toArray⟩, .bool (isCh c)]) ∧ Below w.heap.size w w' := by
  rcases h2 with rfl | rfl
  all_goals
    have hk := fun (n : Int) (h0 : 0 ≤ n) (h1 : n ≤ 255) (w : World) => conv_new2 (P := Tryz.prog) 75 9 5 Tryz.underlying75 Tryz.underlying5 Tryz.underlying9 92 n (by decide) (by decide) h0 h1 w
    have hk1 := hk 39 (by decide) (by decide)
    have hk2 := hk 92 (by decide) (by decide)
    clear hk
    go_enter Tryz.func206, Tryz.ntmps206
    go_wp2_with (first | (go_at_call 99; refine (ref_is _ _).mono ?_; rintro e w' ⟨rfl, rfl⟩; rw [show isCh _ = true from rfl]))
    go_ret2
    exact ⟨ret_sb rfl rfl, (Below.refl _ _).alloc (Nat.le_refl _) _⟩
set_option maxHeartbeats 1000000 in
theorem ref_escape_letter (c : Int) (w : World) (h0 : 7 ≤ c) (h1 : c ≤ 13) :
    Calls Tryz.prog 206 #[.int .i64 c] w fun e w' => e = .returned (.tuple #[.string ⟨(esc c).toArray⟩, .bool (isCh c)]) ∧ Below w.heap.size w w' := by
  have hc : c = 7 ∨ c = 8 ∨ c = 9 ∨ c = 10 ∨ c = 11 ∨ c = 12 ∨ c = 13 := by omega
  rcases hc with rfl | rfl | rfl | rfl | rfl | rfl | rfl
  all_goals
    go_enter Tryz.func206, Tryz.ntmps206
    go_wp2_with (first | (go_at_call 99; refine (ref_is _ _).mono ?_; rintro e w' ⟨rfl, rfl⟩; rw [show isCh _ = true from rfl]))
    go_ret2
    exact ⟨ret_sb rfl rfl, Below.refl _ _⟩
theorem ref_escape (c : Int) (w : World) (h0 : 0 ≤ c) (h1 : c ≤ 255) :
    Calls Tryz.prog 206 #[.int .i64 c] w fun e w' => e = .returned (.tuple #[.string ⟨(esc c).toArray⟩, .bool (isCh c)]) ∧ Below w.heap.size w w' := by
  by_cases a : 7 ≤ c ∧ c ≤ 13
  · exact ref_escape_letter c w a.1 a.2
  by_cases b : c = 39 ∨ c = 92
  · exact ref_escape_quote c w b
  by_cases d : 32 ≤ c ∧ c ≤ 126
  · exact ref_escape_plain c w d.1 d.2 (by omega) (by omega)
  by_cases e : 16 ≤ c
  · exact ref_escape_hex c w e h1 (by omega)
  · exact ref_escape_hex1 c w h0 (by omega) (by omega)
end Go.Proofs.YtgapnafkelokaaaGreatDoor
namespace Go.Proofs.YtgapnafkelokaaaGreatDoor
open Go.RowKit Hb
set_option maxRecDepth 100000
set_option maxHeartbeats 400000 in
theorem sp_alnum (c : Int) (w : World) (h0 : 0 ≤ c) (h1 : c ≤ 255) :
    Calls Tryz.prog 95 #[.int .u8 c] w fun e w' => e = .returned (.bool (alnum c)) ∧ Below w.heap.size w w' := by
  have HA := Lib.hid (show alnum c = (cls c == 2 || (cls c == 3 || cls c == 4)) from rfl)
  have hw : IntKind.i64.wrap c = c := IntWalk.i64_in _ (by omega)
  rw [HA.out]
  cases d2 : (cls c == 2)
  all_goals cases d3 : (cls c == 3)
  all_goals cases d4 : (cls c == 4)
  all_goals
    go_enter Tryz.func95, Tryz.ntmps95
    go_wp2_with fail
    refine (chars_class _ _).mono ?_; rintro e w1 ⟨rfl, hB1⟩
    go_wp2_with fail
    go_ret
    exact ⟨rfl, hB1⟩
set_option maxHeartbeats 400000 in
theorem sp_symbol (c : Int) (w : World) (h0 : 0 ≤ c) (h1 : c ≤ 255) :
    Calls Tryz.prog 96 #[.int .u8 c] w fun e w' => e = .returned (.bool (isSym c)) ∧ Below w.heap.size w w' := by
  have hw : IntKind.i64.wrap c = c := IntWalk.i64_in _ (by omega)
  go_enter Tryz.func96, Tryz.ntmps96
  go_wp2_with fail
  refine (chars_class _ _).mono ?_; rintro e w1 ⟨rfl, hB1⟩
  go_wp2_with fail
  go_ret
  exact ⟨ret_bool rfl, hB1⟩
end Go.Proofs.YtgapnafkelokaaaGreatDoor
namespace Hb
open Go Go.RowKit
/-- A contract that goes on from a world of the call's own. -/
theorem carry {P : Program} {f : FuncId} {args : Array Value} {w0 w : World} {Q : Ending → Prop} (hB : Below w0.heap.size w0 w)
    (h : Calls P f args w fun e w' => Q e ∧ Below w.heap.size w w') : Calls P f args w fun e w' => Q e ∧ Below w0.heap.size w0 w' :=
  h.mono fun _ _ ⟨he, hb⟩ => ⟨he, hB.trans (hb.mono hB.size)⟩
end Hb
namespace Go.Proofs.YtgapnafkelokaaaGreatDoor
open Go.RowKit Hb
set_option maxRecDepth 100000
theorem at_last (s : ByteArray) (h : 0 < s.size) : bAt s.data.toList (s.size - 1) = rawAt s.data.toList (s.data.toList.length - 1) := by
  rw [rawAt_in _ _ (by rw [size_data]; omega), size_data]
theorem glue_eq (a b : ByteArray) (ha : 0 < a.size) (hb : 0 < b.size) : glueN a.data.toList b.data.toList = ((alnum (bAt a.data.toList (a.size - 1)) && alnum (bAt b.data.toList 0)) || ((isSym (bAt a.data.toList (a.size - 1)) && isSym (bAt b.data.toList 0)) || ((bAt a.data.toList (a.size - 1) == bAt b.data.toList 0 && cls (bAt a.data.toList (a.size - 1)) == 7) || (decide (a.toList = [48]) && bAt b.data.toList 0 == 39)))) := by
  have h1 : a.data.toList.isEmpty = false := by have := tl_ne2 a ha; rwa [tl_data] at this
  have h2 : b.data.toList.isEmpty = false := by have := tl_ne2 b hb; rwa [tl_data] at this
  unfold glueN
  rw [h1, h2, ← at_last a ha, rawAt_in b.data.toList 0 (by rw [size_data]; exact hb), tl_data]
  have h3 : (a.data.toList == [48]) = decide (a.data.toList = [48]) := by rw [Bool.eq_iff_iff]; simp
  simp only [Bool.not_false, Bool.true_and, h3]
theorem empty_of (s : ByteArray) (h : s.size = 0) : s.toList = [] ∧ s.data.toList = [] := by
  have : s.data.toList = [] := List.eq_nil_of_length_eq_zero (by rw [size_data]; exact h)
  exact ⟨by rw [tl_data]; exact this, this⟩
set_option maxHeartbeats 400000 in
theorem sp_glue_e (a b : ByteArray) (w : World) (h : a.size = 0 ∨ b.size = 0) :
    Calls Tryz.prog 61 #[.string a, .string b] w fun e w' => e = .returned (.bool (glueN a.data.toList b.data.toList)) ∧ Below w.heap.size w w' := by
  have HG := Lib.hid (show glueN a.data.toList b.data.toList = false by
    rcases h with h | h
    · rw [(empty_of a h).2]; rfl
    · unfold glueN; rw [(empty_of b h).2]; simp)
  by_cases ha : a.size = 0
  · have ea := (empty_of a ha).1
    have ea2 : a.toList.isEmpty = true := by rw [ea]; rfl
    clear h ha
    go_enter Tryz.func61, Tryz.ntmps61
    go_wp2_with fail
    go_ret
    exact ⟨ret_bool HG.out.symm, Below.refl _ _⟩
  · have eb := (empty_of b (by omega)).1
    have eb2 : b.toList.isEmpty = true := by rw [eb]; rfl
    have ea := tl_ne a (by omega)
    have ea2 := tl_ne2 a (by omega)
    clear h ha
    go_enter Tryz.func61, Tryz.ntmps61
    go_wp2_with fail
    go_ret
    exact ⟨ret_bool HG.out.symm, Below.refl _ _⟩
set_option maxHeartbeats 400000 in
theorem sp_glue_n (a b : ByteArray) (w : World) (ha : 0 < a.size) (hb : 0 < b.size) (has : a.size ≤ maxLen) :
    Calls Tryz.prog 61 #[.string a, .string b] w fun e w' => e = .returned (.bool (glueN a.data.toList b.data.toList)) ∧ Below w.heap.size w w' := by
  have ea := tl_ne a ha
  have eb := tl_ne b hb
  have ea2 := tl_ne2 a ha
  have eb2 := tl_ne2 b hb
  have hw : IntKind.i64.wrap ((a.size : Int) - 1) = (a.size : Int) - 1 := IntWalk.i64_in _ (by unfold maxLen at has; omega)
  have hi1 : (0 : Int) ≤ (a.size : Int) - 1 := by omega
  have hi2 : (a.size : Int) - 1 < (a.size : Int) := by omega
  have htn : ((a.size : Int) - 1).toNat = a.size - 1 := by omega
  have hba := bAt_mk a (a.size - 1) (by omega)
  have hbb := bAt_mk b 0 hb
  have hx0 := bAt_lo a.data.toList (a.size - 1)
  have hx1 := bAt_hi a.data.toList (a.size - 1)
  have hy0 := bAt_lo b.data.toList 0
  have hy1 := bAt_hi b.data.toList 0
  have HG := Lib.hid (glue_eq a b ha hb)
  generalize bAt a.data.toList (a.size - 1) = x at *
  generalize bAt b.data.toList 0 = y at *
  go_enter Tryz.func61, Tryz.ntmps61
  go_wp2_with fail
  go_quiet (fail)
  go_wp2_with (first
    | (go_at_call 95; refine (carry (w0 := w) (by first | assumption | exact bl_drewN (Below.refl _ _) _) (sp_alnum _ _ (by assumption) (by assumption))).mono ?_; rintro e w1 ⟨rfl, hB1⟩)
    | (go_at_call 96; refine (carry (w0 := w) (by first | assumption | exact bl_drewN (Below.refl _ _) _) (sp_symbol _ _ (by assumption) (by assumption))).mono ?_; rintro e w1 ⟨rfl, hB1⟩)
    | (go_at_call 97; refine (carry (w0 := w) (by first | assumption | exact bl_drewN (Below.refl _ _) _) (chars_class _ _)).mono ?_; rintro e w1 ⟨rfl, hB1⟩))
  all_goals
    go_ret
    exact ⟨ret_bool (by rw [HG.out]; grind), by first | assumption | exact bl_drewN (Below.refl _ _) _⟩
theorem sp_glue (a b : ByteArray) (w : World) (has : a.size ≤ maxLen) :
    Calls Tryz.prog 61 #[.string a, .string b] w fun e w' => e = .returned (.bool (glueN a.data.toList b.data.toList)) ∧ Below w.heap.size w w' := by
  by_cases h : a.size = 0 ∨ b.size = 0
  · exact sp_glue_e a b w h
  · exact sp_glue_n a b w (by omega) (by omega) has
end Go.Proofs.YtgapnafkelokaaaGreatDoor
