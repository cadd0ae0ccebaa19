/- Contracts of the lexer: words, symbols, solos. -/
import Derived.Test.YtmjeajfakhmakaaDoorLex3
import Derived.Test.YtmjeajfakhmakaaDoorTokS
import Derived.Deep.RegionHeld3
namespace Go.Proofs.YtmjeajfakhmakaaDoor
open Go.RowKit Hb
set_option maxRecDepth 100000

theorem trans3 {w w1 w2 w3 : World} {B : Nat} (h0 : B ≤ w.heap.size) (h1 : Below w.heap.size w w1) (h2 : Below w1.heap.size w1 w2) (h3 : Below w2.heap.size w2 w3) : Below B w w3 :=
  (h1.mono h0).trans ((h2.mono (Nat.le_trans h0 h1.size)).trans (h3.mono (Nat.le_trans h0 (Nat.le_trans h1.size h2.size))))
theorem trans2 {w w1 w2 : World} {B : Nat} (h0 : B ≤ w.heap.size) (h1 : Below w.heap.size w w1) (h2 : Below w1.heap.size w1 w2) : Below B w w2 :=
  (h1.mono h0).trans (h2.mono (Nat.le_trans h0 h1.size))

theorem ret_tok {k k' n n' a a' e e' x x' : Int} {t t' : ByteArray} {l l' : Bool} (h1 : k = k') (h2 : t = t') (h3 : n = n') (h4 : a = a') (h5 : e = e') (h6 : l = l') (h7 : x = x') :
    Ending.returned (.tuple #[.agg #[.int .i64 k, .string t, .int .i64 n, .int .i64 a, .int .i64 e, .bool l], .int .i64 x]) = .returned (.tuple #[.agg #[.int .i64 k', .string t', .int .i64 n', .int .i64 a', .int .i64 e', .bool l'], .int .i64 x']) := by
  rw [h1, h2, h3, h4, h5, h6, h7]

/-- The value of a reader's result. -/
def tokTup (r : LexR) : Value := .tuple #[.agg #[.int .i64 r.kind, .string ⟨r.text.toArray⟩, .int .i64 r.n, .int .i64 r.at_, .int .i64 r.end_, .bool false], .int .i64 r.err]
def Gives (r : LexR) (e : Ending) : Prop := e = .returned (tokTup r)

set_option maxHeartbeats 800000 in
theorem lex_named (b : Nat) (s : ByteArray) (tab : Int → Int) (at_ kind end_ : Int) (t : List UInt8) (w : World) (h : Lex w b s tab at_) (ht : t.length ≤ 9223372036854775807) :
    Calls Tryd.prog 78 #[.pointer (some ⟨b, 0, none⟩), .int .i64 kind, .string ⟨t.toArray⟩, .int .i64 end_] w fun e w' => Gives (namedR kind t at_ end_) e ∧ Below w.heap.size w w' := by
  have ca := h.ca
  have hlt := h.lt
  by_cases hk : 100 < t.length
  · have HR := Lib.hid (show namedR kind t at_ end_ = errR 2 by unfold namedR; rw [if_pos hk])
    go_enter Tryd.func78, Tryd.ntmps78
    go_wp2
    refine bodyPost_ret (v := .tuple #[.agg #[.int .i64 0, .string ⟨#[]⟩, .int .i64 0, .int .i64 0, .int .i64 0, .bool false], .int .i64 2]) (by simp [results, Tryd.results78, go_sem]) rfl ⟨?_, (Below.refl _ _).alloc (Nat.le_refl _) _⟩
    rw [HR.out]; rfl
  · have HR := Lib.hid (show namedR kind t at_ end_ = ⟨kind, t, 0, at_, end_, 0⟩ by unfold namedR; rw [if_neg hk])
    go_enter Tryd.func78, Tryd.ntmps78
    go_wp2
    refine bodyPost_ret (v := .tuple #[.agg #[.int .i64 kind, .string ⟨t.toArray⟩, .int .i64 0, .int .i64 at_, .int .i64 end_, .bool false], .int .i64 0]) (by simp [results, Tryd.results78, go_sem]) rfl ⟨?_, (Below.refl _ _).alloc (Nat.le_refl _) _⟩
    rw [HR.out]; rfl

/-- The result's variable, behind calls that leave it alone. -/
def tokZero : Obj := .cells #[.int .i64 0, .string ⟨#[]⟩, .int .i64 0, .int .i64 0, .int .i64 0, .bool false] 36
theorem tok_cells {w w' : World} {B : Nat} (hB : Below B (w.alloc tokZero) w') (h : w.heap.size < B) :
    w'.cell? ⟨w.heap.size, 0, none⟩ = some (.int .i64 0) ∧ w'.cell? ⟨w.heap.size, 1, none⟩ = some (.string ⟨#[]⟩) ∧ w'.cell? ⟨w.heap.size, 2, none⟩ = some (.int .i64 0) ∧ w'.cell? ⟨w.heap.size, 3, none⟩ = some (.int .i64 0) ∧ w'.cell? ⟨w.heap.size, 4, none⟩ = some (.int .i64 0) ∧ w'.cell? ⟨w.heap.size, 5, none⟩ = some (.bool false) ∧ ∀ o, w'.frozen? ⟨w.heap.size, o, none⟩ = false := by
  have e : ∀ o, w'.cell? ⟨w.heap.size, o, none⟩ = (w.alloc tokZero).cell? ⟨w.heap.size, o, none⟩ := fun o => hB.cell (p := ⟨w.heap.size, o, none⟩) h
  have hb : (w.alloc tokZero).heap[w.heap.size]? = some tokZero := by show (w.heap.push _)[w.heap.size]? = _; simp
  refine ⟨?_, ?_, ?_, ?_, ?_, ?_, fun o => ?_⟩
  · rw [e]; unfold tokZero; rw [World.cell?_alloc_new]; rfl
  · rw [e]; unfold tokZero; rw [World.cell?_alloc_new]; rfl
  · rw [e]; unfold tokZero; rw [World.cell?_alloc_new]; rfl
  · rw [e]; unfold tokZero; rw [World.cell?_alloc_new]; rfl
  · rw [e]; unfold tokZero; rw [World.cell?_alloc_new]; rfl
  · rw [e]; unfold tokZero; rw [World.cell?_alloc_new]; rfl
  · rw [hB.frozen (p := ⟨w.heap.size, o, none⟩) h]
    unfold World.frozen?; simp only [hb]; unfold tokZero; simp
theorem below_sets {w w' : World} {B g : Nat} (h : Below B w w') (hg : B ≤ g) (a b c d e f : Value) : Below B w ((((((w'.setCell ⟨g, 0, none⟩ a).setCell ⟨g, 1, none⟩ b).setCell ⟨g, 2, none⟩ c).setCell ⟨g, 3, none⟩ d).setCell ⟨g, 4, none⟩ e).setCell ⟨g, 5, none⟩ f) :=
  (((((h.setCell (p := ⟨g, _, none⟩) hg _).setCell (p := ⟨g, _, none⟩) hg _).setCell (p := ⟨g, _, none⟩) hg _).setCell (p := ⟨g, _, none⟩) hg _).setCell (p := ⟨g, _, none⟩) hg _).setCell (p := ⟨g, _, none⟩) hg _

set_option maxHeartbeats 800000 in
theorem lex_word (b : Nat) (s : ByteArray) (tab : Int → Int) (p : Nat) (w : World) (h : Lex w b s tab p) (hp : p ≤ s.size) :
    Calls Tryd.prog 63 #[.pointer (some ⟨b, 0, none⟩)] w fun e w' => Gives (wordR (cvt tab s.data.toList) p) e ∧ Below w.heap.size w w' := by
  have ca := h.ca
  have hlt := h.lt
  have hsz := h.sz
  have HL := Lib.hid h
  clear h
  have hlen : Hid ((cvt tab s.data.toList).length = s.size) := by show _ = _; rw [cvt_len]; simp
  have hsp := span_le alnum ((cvt tab s.data.toList).drop p)
  rw [List.length_drop, hlen.out] at hsp
  generalize hM : cvt tab s.data.toList = M at *
  have HM := Lib.hid hM
  clear hM
  have HK := Lib.hid (show wordR M p = namedR (wordKind (rawAt M p)) ((M.drop p).take (span alnum (M.drop p))) p (p + span alnum (M.drop p)) from rfl)
  have hA := (Below.refl w.heap.size w).alloc (Nat.le_refl _) tokZero
  have hA' : w.heap.size < (w.alloc tokZero).heap.size := by simp
  cases b1 : cls (rawAt M p) == 3
  all_goals
    have HB := Lib.hid b1
    clear b1
    go_enter Tryd.func63, Tryd.ntmps63
    go_wp2_with fail
    refine (lex_char _ _ _ _ _ _ (HL.out.below hA hlt) (by omega)).mono ?_; rintro e w1 ⟨rfl, hB1⟩; rw [Int.toNat_natCast, HM.out]
    have L1 := (HL.out.below hA hlt).below hB1 (by simp; omega)
    go_wp2_with fail
    refine (chars_class _ _).mono ?_; rintro e w2 ⟨rfl, hB2⟩
    have L2 := L1.below hB2 L1.lt
    have c2 := L2.ca
    have HB2 := HB.out
    go_wp2_with fail
    refine (run_alnum _ _ _ _ _ _ L2 (by omega)).mono ?_; rintro e w3 ⟨rfl, hB3⟩; rw [Int.toNat_natCast, HM.out]
    have L3 := L2.below hB3 L2.lt
    have c3 := L3.ca
    go_wp2_with fail
    refine (lex_part _ _ _ _ _ _ _ L3 (by omega) (by omega) (by omega)).mono ?_; rintro e w4 ⟨rfl, hB4⟩; rw [Int.toNat_natCast, HM.out, show ((p : Int) + span alnum (M.drop p) - p).toNat = span alnum (M.drop p) by omega]
    have L4 := L3.below hB4 L3.lt
    go_wp2_with fail
    refine (lex_named _ _ _ _ _ _ _ _ L4 (by have := List.length_take_le (span alnum (M.drop p)) (M.drop p); omega)).mono ?_; rintro e w5 ⟨he, hB5⟩
    generalize hr : namedR _ _ _ _ = r at he
    have HR := Lib.hid hr
    clear hr
    unfold Gives tokTup at he; subst he
    have hB := (trans3 (Nat.le_refl _) hB1 hB2 hB3).trans (trans2 (by have := hB1.size; have := hB2.size; have := hB3.size; omega) hB4 hB5)
    obtain ⟨t0, t1, t2, t3, t4, t5, t6⟩ := tok_cells hB hA'
    have hlt5 : w.heap.size < w5.heap.size := Nat.lt_of_lt_of_le hA' hB.size
    clear hB1 hB2 hB3 hB4 hB5 L1 L2 L3 L4 c2 c3 ca
    go_wp2_with fail
    refine bodyPost_ret (v := tokTup r) (by simp [tokTup, results, Tryd.results63, go_sem, t0, t1, t2, t3, t4, t5]) rfl ⟨?_, below_sets (hA.trans (hB.mono (by omega))) (Nat.le_refl _) _ _ _ _ _ _⟩
    rw [HK.out]; unfold wordKind; first | (rw [if_pos (by simpa using HB.out), HR.out]; rfl) | (rw [if_neg (by simpa using HB.out), HR.out]; rfl)
end Go.Proofs.YtmjeajfakhmakaaDoor
