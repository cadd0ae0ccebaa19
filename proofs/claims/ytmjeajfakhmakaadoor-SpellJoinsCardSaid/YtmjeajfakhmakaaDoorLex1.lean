/- Contracts of the lexer: characters, runs, parts. -/
import Derived.Test.YtmjeajfakhmakaaDoorChars2
import Derived.Test.YtmjeajfakhmakaaDoorLexS
import Derived.Deep.DeepMust
namespace Go.Proofs.YtmjeajfakhmakaaDoor
open Go.RowKit Hb
set_option maxRecDepth 100000

/-- The lexer's block. -/
structure Lex (w : World) (b : Nat) (s : ByteArray) (tab : Int → Int) (at_ : Int) : Prop where
  lt : b < w.heap.size
  c0 : w.cell? ⟨b, 0, none⟩ = some (.string s)
  ct : ∀ c : Nat, c < 256 → w.cell? ⟨b, 1 + c, none⟩ = some (.int .i64 (tab c))
  ca : w.cell? ⟨b, 257, none⟩ = some (.int .i64 at_)
  fr : ∀ o, w.frozen? ⟨b, o, none⟩ = false
  sz : s.size ≤ 16384
  tb : TabOk tab
theorem Lex.same {w w' : World} {b : Nat} {s : ByteArray} {tab : Int → Int} {at_ : Int} (h : Lex w b s tab at_) (hs : w.heap.size ≤ w'.heap.size) (hb : w'.heap[b]? = w.heap[b]?) : Lex w' b s tab at_ where
  lt := Nat.lt_of_lt_of_le h.lt hs
  c0 := (World.cell?_of_block (w := w) hb).trans h.c0
  ct := fun c hc => (World.cell?_of_block (w := w) hb).trans (h.ct c hc)
  ca := (World.cell?_of_block (w := w) hb).trans h.ca
  fr := fun o => (World.frozen?_of_block (w := w) hb).trans (h.fr o)
  sz := h.sz
  tb := h.tb
theorem Lex.below {w w' : World} {b : Nat} {s : ByteArray} {tab : Int → Int} {at_ : Int} (h : Lex w b s tab at_) {B : Nat} (hb : Below B w w') (hB : b < B) : Lex w' b s tab at_ := h.same hb.size (hb.block b hB)
theorem Lex.drewN {w : World} {b : Nat} {s : ByteArray} {tab : Int → Int} {at_ : Int} (h : Lex w b s tab at_) (n : Nat) : Lex (w.drewN n) b s tab at_ := h.same (Nat.le_refl _) rfl

/-- The character at a byte. -/
theorem Lex.tabc {w : World} {b : Nat} {s : ByteArray} {tab : Int → Int} {at_ : Int} (h : Lex w b s tab at_) (k : Nat) (hk : k < s.size) : w.cell? ⟨b, 1 + s[k].toNat, none⟩ = some (.int .i64 (rawAt (cvt tab s.data.toList) k)) := by
  have hl : k < s.data.toList.length := by simpa using hk
  have e : (tab (bAt s.data.toList k)) = rawAt (cvt tab s.data.toList) k := by
    rw [cvt_at tab h.tb _ _ hl, rawAt_in _ _ (by rw [cvt_len]; exact hl)]
  rw [h.ct s[k].toNat s[k].toNat_lt, bAt_mk s k hk, e]

set_option maxHeartbeats 400000 in
theorem lex_char (b : Nat) (s : ByteArray) (tab : Int → Int) (at_ i : Int) (w : World) (h : Lex w b s tab at_) (h0 : 0 ≤ i) :
    Calls Tryd.prog 68 #[.pointer (some ⟨b, 0, none⟩), .int .i64 i] w fun e w' => e = .returned (.int .i64 (rawAt (cvt tab s.data.toList) i.toNat)) ∧ Below w.heap.size w w' := by
  obtain ⟨k, rfl⟩ := Int.eq_ofNat_of_zero_le h0
  have hsz := h.sz
  have c0 := h.c0
  by_cases hlt : k < s.size
  · have c1 := h.tabc k hlt
    have hb := bAt_lo s.data.toList k
    have hlt' : (s[k].toNat : Int) < 256 := by have := s[k].toNat_lt; omega
    go_enter Tryd.func68, Tryd.ntmps68
    go_wp2
    go_quiet (fail)
    go_wp2
    go_ret
    exact ⟨ret_int rfl, bl_drewN (Below.refl _ _) _⟩
  · have HR := Lib.hid (rawAt_out (cvt tab s.data.toList) k (by rw [cvt_len]; simp; omega))
    go_enter Tryd.func68, Tryd.ntmps68
    go_wp2
    go_ret
    exact ⟨ret_int HR.out.symm, Below.refl _ _⟩

set_option maxHeartbeats 400000 in
theorem lex_raw (b : Nat) (s : ByteArray) (tab : Int → Int) (at_ i : Int) (w : World) (h : Lex w b s tab at_) (h0 : 0 ≤ i) :
    Calls Tryd.prog 84 #[.pointer (some ⟨b, 0, none⟩), .int .i64 i] w fun e w' => e = .returned (.int .i64 (rawAt s.data.toList i.toNat)) ∧ w = w' := by
  obtain ⟨k, rfl⟩ := Int.eq_ofNat_of_zero_le h0
  have hsz := h.sz
  have c0 := h.c0
  by_cases hlt : k < s.size
  · have hb := bAt_mk s k hlt
    have HR := Lib.hid (rawAt_in s.data.toList k (by simpa using hlt))
    have hb0 := bAt_lo s.data.toList k
    have hb1 := bAt_hi s.data.toList k
    go_enter Tryd.func84, Tryd.ntmps84
    go_wp2
    go_ret
    exact ⟨ret_int HR.out.symm, rfl⟩
  · have HR := Lib.hid (rawAt_out s.data.toList k (by simp; omega))
    go_enter Tryd.func84, Tryd.ntmps84
    go_wp2
    go_ret
    exact ⟨ret_int HR.out.symm, rfl⟩

set_option maxHeartbeats 400000 in
theorem lex_notNl (c : Int) (w : World) :
    Calls Tryd.prog 76 #[.int .i64 c] w fun e w' => e = .returned (.bool (notNl c)) ∧ Below w.heap.size w w' := by
  go_enter Tryd.func76, Tryd.ntmps76
  go_wp2
  go_ret
  exact ⟨ret_bool (by unfold notNl; simp [bne]), Below.refl _ _⟩
set_option maxHeartbeats 400000 in
theorem lex_isSym (c : Int) (w : World) :
    Calls Tryd.prog 83 #[.int .i64 c] w fun e w' => e = .returned (.bool (isSym c)) ∧ Below w.heap.size w w' := by
  go_enter Tryd.func83, Tryd.ntmps83
  go_wp2_with (go_at_call 34; refine (chars_class _ _).mono ?_; rintro e w' ⟨rfl, hB⟩)
  go_ret
  exact ⟨ret_bool rfl, hB⟩
set_option maxHeartbeats 400000 in
theorem lex_alnum (c : Int) (w : World) :
    Calls Tryd.prog 77 #[.int .i64 c] w fun e w' => e = .returned (.bool (alnum c)) ∧ Below w.heap.size w w' := by
  go_enter Tryd.func77, Tryd.ntmps77
  go_wp2_with (go_at_call 34; refine (chars_class _ _).mono ?_; rintro e w' ⟨rfl, hB⟩)
  all_goals (go_ret; exact ⟨ret_bool (by grind [alnum]), hB⟩)
set_option maxHeartbeats 400000 in
theorem lex_isDig (c base : Int) (g : Nat) (w : World) (hg : w.cell? ⟨g, 0, none⟩ = some (.int .i64 base)) :
    Calls Tryd.prog 93 #[.int .i64 c, .pointer (some ⟨g, 0, none⟩)] w fun e w' => e = .returned (.bool (digOk c base)) ∧ Below w.heap.size w w' := by
  go_enter Tryd.func93, Tryd.ntmps93
  go_wp2_with (go_at_call 92; refine (chars_digit _ _ _).mono ?_; rintro e w' ⟨rfl, rfl⟩)
  go_ret
  exact ⟨ret_bool rfl, Below.refl _ _⟩

set_option maxHeartbeats 800000 in
theorem run_notNl (b : Nat) (s : ByteArray) (tab : Int → Int) (at_ i : Int) (w : World) (h : Lex w b s tab at_) (h0 : 0 ≤ i) :
    Calls Tryd.prog 75 #[.pointer (some ⟨b, 0, none⟩), .int .i64 i, .func (.func 76) #[] #[]] w fun e w' => e = .returned (.int .i64 (i + span (notNl) ((cvt tab s.data.toList).drop i.toNat))) ∧ Below w.heap.size w w' := by
  obtain ⟨k0, rfl⟩ := Int.eq_ofNat_of_zero_le h0
  have hsz := h.sz
  have HL := Lib.hid h
  have hlt0 := h.lt
  clear h
  rw [Int.toNat_natCast]
  go_enter Tryd.func75, Tryd.ntmps75
  go_wp2
  go_loopw [1] (fun i wr => ∃ k : Nat, i = .int .i64 k ∧ Below w.heap.size w wr ∧ Hid (k + span (notNl) ((cvt tab s.data.toList).drop k) = k0 + span (notNl) ((cvt tab s.data.toList).drop k0))) (fun i _ => s.size - (intOf i).toNat)
  case atStart => exact ⟨k0, rfl, Below.refl _ _, rfl⟩
  case round =>
    obtain ⟨k, rfl, hB, HE⟩ := hrel
    have L := HL.out.below hB hlt0
    have c0 := L.c0
    have hs := hB.size
    by_cases hlt : k < s.size
    · have hkl : k < (cvt tab s.data.toList).length := by rw [cvt_len]; simpa using hlt
      have HR := Lib.hid (rawAt_in (cvt tab s.data.toList) k hkl)
      cases hq : (notNl) (rawAt (cvt tab s.data.toList) k)
      · have HN := Lib.hid (span_no (notNl) (cvt tab s.data.toList) k hkl (by rw [← HR.out]; exact hq))
        have Hq := Lib.hid hq
        clear hq
        go_wp2_with (first | (go_at_call 68; refine (lex_char _ _ _ _ _ _ L (by omega)).mono ?_; rintro e w1 ⟨rfl, hB1⟩; rw [Int.toNat_natCast]) | (go_at_call 76; refine (lex_notNl _ _).mono ?_; rintro e w2 ⟨rfl, hB2⟩; rw [show notNl (rawAt (cvt tab s.data.toList) k) = false from Hq.out]))
        go_ret
        exact ⟨ret_int (by have h1 := HE.out; have h2 := HN.out; omega), hB.trans ((hB1.mono (by omega)).trans (hB2.mono (by have := hB1.size; omega)))⟩
      · have HN := Lib.hid (span_yes (notNl) (cvt tab s.data.toList) k hkl (by rw [← HR.out]; exact hq))
        have Hq := Lib.hid hq
        clear hq
        go_wp2_with (first | (go_at_call 68; refine (lex_char _ _ _ _ _ _ L (by omega)).mono ?_; rintro e w1 ⟨rfl, hB1⟩; rw [Int.toNat_natCast]) | (go_at_call 76; refine (lex_notNl _ _).mono ?_; rintro e w2 ⟨rfl, hB2⟩; rw [show notNl (rawAt (cvt tab s.data.toList) k) = true from Hq.out]))
        go_roundw
        case rel => exact ⟨k + 1, by go_num, hB.trans ((hB1.mono (by omega)).trans (hB2.mono (by have := hB1.size; omega))), by have h1 := HE.out; have h2 := HN.out; show _ = _; omega⟩
        case measure => simp [intOf]; omega
    · have HN := Lib.hid (span_end (notNl) (cvt tab s.data.toList) k (by rw [cvt_len]; simp; omega))
      go_wp2
      go_ret
      exact ⟨ret_int (by have h1 := HE.out; have h2 := HN.out; omega), hB⟩

set_option maxHeartbeats 800000 in
theorem run_sym (b : Nat) (s : ByteArray) (tab : Int → Int) (at_ i : Int) (w : World) (h : Lex w b s tab at_) (h0 : 0 ≤ i) :
    Calls Tryd.prog 75 #[.pointer (some ⟨b, 0, none⟩), .int .i64 i, .func (.func 83) #[] #[]] w fun e w' => e = .returned (.int .i64 (i + span (isSym) ((cvt tab s.data.toList).drop i.toNat))) ∧ Below w.heap.size w w' := by
  obtain ⟨k0, rfl⟩ := Int.eq_ofNat_of_zero_le h0
  have hsz := h.sz
  have HL := Lib.hid h
  have hlt0 := h.lt
  clear h
  rw [Int.toNat_natCast]
  go_enter Tryd.func75, Tryd.ntmps75
  go_wp2
  go_loopw [1] (fun i wr => ∃ k : Nat, i = .int .i64 k ∧ Below w.heap.size w wr ∧ Hid (k + span (isSym) ((cvt tab s.data.toList).drop k) = k0 + span (isSym) ((cvt tab s.data.toList).drop k0))) (fun i _ => s.size - (intOf i).toNat)
  case atStart => exact ⟨k0, rfl, Below.refl _ _, rfl⟩
  case round =>
    obtain ⟨k, rfl, hB, HE⟩ := hrel
    have L := HL.out.below hB hlt0
    have c0 := L.c0
    have hs := hB.size
    by_cases hlt : k < s.size
    · have hkl : k < (cvt tab s.data.toList).length := by rw [cvt_len]; simpa using hlt
      have HR := Lib.hid (rawAt_in (cvt tab s.data.toList) k hkl)
      cases hq : (isSym) (rawAt (cvt tab s.data.toList) k)
      · have HN := Lib.hid (span_no (isSym) (cvt tab s.data.toList) k hkl (by rw [← HR.out]; exact hq))
        have Hq := Lib.hid hq
        clear hq
        go_wp2_with (first | (go_at_call 68; refine (lex_char _ _ _ _ _ _ L (by omega)).mono ?_; rintro e w1 ⟨rfl, hB1⟩; rw [Int.toNat_natCast]) | (go_at_call 83; refine (lex_isSym _ _).mono ?_; rintro e w2 ⟨rfl, hB2⟩; rw [show isSym (rawAt (cvt tab s.data.toList) k) = false from Hq.out]))
        go_ret
        exact ⟨ret_int (by have h1 := HE.out; have h2 := HN.out; omega), hB.trans ((hB1.mono (by omega)).trans (hB2.mono (by have := hB1.size; omega)))⟩
      · have HN := Lib.hid (span_yes (isSym) (cvt tab s.data.toList) k hkl (by rw [← HR.out]; exact hq))
        have Hq := Lib.hid hq
        clear hq
        go_wp2_with (first | (go_at_call 68; refine (lex_char _ _ _ _ _ _ L (by omega)).mono ?_; rintro e w1 ⟨rfl, hB1⟩; rw [Int.toNat_natCast]) | (go_at_call 83; refine (lex_isSym _ _).mono ?_; rintro e w2 ⟨rfl, hB2⟩; rw [show isSym (rawAt (cvt tab s.data.toList) k) = true from Hq.out]))
        go_roundw
        case rel => exact ⟨k + 1, by go_num, hB.trans ((hB1.mono (by omega)).trans (hB2.mono (by have := hB1.size; omega))), by have h1 := HE.out; have h2 := HN.out; show _ = _; omega⟩
        case measure => simp [intOf]; omega
    · have HN := Lib.hid (span_end (isSym) (cvt tab s.data.toList) k (by rw [cvt_len]; simp; omega))
      go_wp2
      go_ret
      exact ⟨ret_int (by have h1 := HE.out; have h2 := HN.out; omega), hB⟩

set_option maxHeartbeats 800000 in
theorem run_alnum (b : Nat) (s : ByteArray) (tab : Int → Int) (at_ i : Int) (w : World) (h : Lex w b s tab at_) (h0 : 0 ≤ i) :
    Calls Tryd.prog 75 #[.pointer (some ⟨b, 0, none⟩), .int .i64 i, .func (.func 77) #[] #[]] w fun e w' => e = .returned (.int .i64 (i + span (alnum) ((cvt tab s.data.toList).drop i.toNat))) ∧ Below w.heap.size w w' := by
  obtain ⟨k0, rfl⟩ := Int.eq_ofNat_of_zero_le h0
  have hsz := h.sz
  have HL := Lib.hid h
  have hlt0 := h.lt
  clear h
  rw [Int.toNat_natCast]
  go_enter Tryd.func75, Tryd.ntmps75
  go_wp2
  go_loopw [1] (fun i wr => ∃ k : Nat, i = .int .i64 k ∧ Below w.heap.size w wr ∧ Hid (k + span (alnum) ((cvt tab s.data.toList).drop k) = k0 + span (alnum) ((cvt tab s.data.toList).drop k0))) (fun i _ => s.size - (intOf i).toNat)
  case atStart => exact ⟨k0, rfl, Below.refl _ _, rfl⟩
  case round =>
    obtain ⟨k, rfl, hB, HE⟩ := hrel
    have L := HL.out.below hB hlt0
    have c0 := L.c0
    have hs := hB.size
    by_cases hlt : k < s.size
    · have hkl : k < (cvt tab s.data.toList).length := by rw [cvt_len]; simpa using hlt
      have HR := Lib.hid (rawAt_in (cvt tab s.data.toList) k hkl)
      cases hq : (alnum) (rawAt (cvt tab s.data.toList) k)
      · have HN := Lib.hid (span_no (alnum) (cvt tab s.data.toList) k hkl (by rw [← HR.out]; exact hq))
        have Hq := Lib.hid hq
        clear hq
        go_wp2_with (first | (go_at_call 68; refine (lex_char _ _ _ _ _ _ L (by omega)).mono ?_; rintro e w1 ⟨rfl, hB1⟩; rw [Int.toNat_natCast]) | (go_at_call 77; refine (lex_alnum _ _).mono ?_; rintro e w2 ⟨rfl, hB2⟩; rw [show alnum (rawAt (cvt tab s.data.toList) k) = false from Hq.out]))
        go_ret
        exact ⟨ret_int (by have h1 := HE.out; have h2 := HN.out; omega), hB.trans ((hB1.mono (by omega)).trans (hB2.mono (by have := hB1.size; omega)))⟩
      · have HN := Lib.hid (span_yes (alnum) (cvt tab s.data.toList) k hkl (by rw [← HR.out]; exact hq))
        have Hq := Lib.hid hq
        clear hq
        go_wp2_with (first | (go_at_call 68; refine (lex_char _ _ _ _ _ _ L (by omega)).mono ?_; rintro e w1 ⟨rfl, hB1⟩; rw [Int.toNat_natCast]) | (go_at_call 77; refine (lex_alnum _ _).mono ?_; rintro e w2 ⟨rfl, hB2⟩; rw [show alnum (rawAt (cvt tab s.data.toList) k) = true from Hq.out]))
        go_roundw
        case rel => exact ⟨k + 1, by go_num, hB.trans ((hB1.mono (by omega)).trans (hB2.mono (by have := hB1.size; omega))), by have h1 := HE.out; have h2 := HN.out; show _ = _; omega⟩
        case measure => simp [intOf]; omega
    · have HN := Lib.hid (span_end (alnum) (cvt tab s.data.toList) k (by rw [cvt_len]; simp; omega))
      go_wp2
      go_ret
      exact ⟨ret_int (by have h1 := HE.out; have h2 := HN.out; omega), hB⟩

set_option maxHeartbeats 800000 in
theorem run_dig (b : Nat) (s : ByteArray) (tab : Int → Int) (at_ i : Int) (base : Int) (g : Nat) (w : World) (h : Lex w b s tab at_) (h0 : 0 ≤ i) (hgl : g < w.heap.size) (hg : w.cell? ⟨g, 0, none⟩ = some (.int .i64 base)) :
    Calls Tryd.prog 75 #[.pointer (some ⟨b, 0, none⟩), .int .i64 i, .func (.func 93) #[] #[.pointer (some ⟨g, 0, none⟩)]] w fun e w' => e = .returned (.int .i64 (i + span (fun c => digOk c base) ((cvt tab s.data.toList).drop i.toNat))) ∧ Below w.heap.size w w' := by
  obtain ⟨k0, rfl⟩ := Int.eq_ofNat_of_zero_le h0
  have hsz := h.sz
  have HL := Lib.hid h
  have hlt0 := h.lt
  clear h
  rw [Int.toNat_natCast]
  have HG := Lib.hid hg
  clear hg
  go_enter Tryd.func75, Tryd.ntmps75
  go_wp2
  go_loopw [1] (fun i wr => ∃ k : Nat, i = .int .i64 k ∧ Below w.heap.size w wr ∧ Hid (k + span (fun c => digOk c base) ((cvt tab s.data.toList).drop k) = k0 + span (fun c => digOk c base) ((cvt tab s.data.toList).drop k0))) (fun i _ => s.size - (intOf i).toNat)
  case atStart => exact ⟨k0, rfl, Below.refl _ _, rfl⟩
  case round =>
    obtain ⟨k, rfl, hB, HE⟩ := hrel
    have L := HL.out.below hB hlt0
    have c0 := L.c0
    have hs := hB.size
    have hg1 := (hB.cell (p := ⟨g, 0, none⟩) hgl).trans HG.out
    have hgl1 : g < wr.heap.size := by omega
    by_cases hlt : k < s.size
    · have hkl : k < (cvt tab s.data.toList).length := by rw [cvt_len]; simpa using hlt
      have HR := Lib.hid (rawAt_in (cvt tab s.data.toList) k hkl)
      cases hq : (fun c => digOk c base) (rawAt (cvt tab s.data.toList) k)
      · have HN := Lib.hid (span_no (fun c => digOk c base) (cvt tab s.data.toList) k hkl (by rw [← HR.out]; exact hq))
        have Hq := Lib.hid hq
        clear hq
        go_wp2_with (first | (go_at_call 68; refine (lex_char _ _ _ _ _ _ L (by omega)).mono ?_; rintro e w1 ⟨rfl, hB1⟩; rw [Int.toNat_natCast]) | (go_at_call 93; go_must (refine (lex_isDig _ base g _ ((hB1.cell (p := ⟨g, 0, none⟩) hgl1).trans hg1)).mono ?_); rintro e w2 ⟨rfl, hB2⟩; rw [show digOk (rawAt (cvt tab s.data.toList) k) base = false from Hq.out]))
        go_ret
        exact ⟨ret_int (by have h1 := HE.out; have h2 := HN.out; omega), hB.trans ((hB1.mono (by omega)).trans (hB2.mono (by have := hB1.size; omega)))⟩
      · have HN := Lib.hid (span_yes (fun c => digOk c base) (cvt tab s.data.toList) k hkl (by rw [← HR.out]; exact hq))
        have Hq := Lib.hid hq
        clear hq
        go_wp2_with (first | (go_at_call 68; refine (lex_char _ _ _ _ _ _ L (by omega)).mono ?_; rintro e w1 ⟨rfl, hB1⟩; rw [Int.toNat_natCast]) | (go_at_call 93; go_must (refine (lex_isDig _ base g _ ((hB1.cell (p := ⟨g, 0, none⟩) hgl1).trans hg1)).mono ?_); rintro e w2 ⟨rfl, hB2⟩; rw [show digOk (rawAt (cvt tab s.data.toList) k) base = true from Hq.out]))
        go_roundw
        case rel => exact ⟨k + 1, by go_num, hB.trans ((hB1.mono (by omega)).trans (hB2.mono (by have := hB1.size; omega))), by have h1 := HE.out; have h2 := HN.out; show _ = _; omega⟩
        case measure => simp [intOf]; omega
    · have HN := Lib.hid (span_end (fun c => digOk c base) (cvt tab s.data.toList) k (by rw [cvt_len]; simp; omega))
      go_wp2
      go_ret
      exact ⟨ret_int (by have h1 := HE.out; have h2 := HN.out; omega), hB⟩
end Go.Proofs.YtmjeajfakhmakaaDoor
