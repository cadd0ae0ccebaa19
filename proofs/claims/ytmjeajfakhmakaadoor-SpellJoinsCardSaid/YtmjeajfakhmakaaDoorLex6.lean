/- Contracts of the lexer: solos. -/
import Derived.Test.YtmjeajfakhmakaaDoorLex5
import Derived.RegionTactic
import Derived.Deep.RegionWith
import Derived.BigRegion
namespace Go.Proofs.YtmjeajfakhmakaaDoor
open Go.RowKit Hb
set_option maxRecDepth 100000

/-- A result variable of six cells, of the call's own, and the lexer: what holds while a reader runs. -/
def Tok6 (w : World) (g : Nat) : Prop := (∀ o, w.frozen? ⟨g, o, none⟩ = false) ∧ ∃ v0 v1 v2 v3 v4 v5, w.cell? ⟨g, 0, none⟩ = some v0 ∧ w.cell? ⟨g, 1, none⟩ = some v1 ∧ w.cell? ⟨g, 2, none⟩ = some v2 ∧ w.cell? ⟨g, 3, none⟩ = some v3 ∧ w.cell? ⟨g, 4, none⟩ = some v4 ∧ w.cell? ⟨g, 5, none⟩ = some v5
structure Held (w0 w : World) (b : Nat) (s : ByteArray) (tab : Int → Int) (p : Int) : Prop where
  lex : Lex w b s tab p
  bel : Below w0.heap.size w0 w
  tok : Tok6 w w0.heap.size
  lt : w0.heap.size < w.heap.size
  blt : b < w0.heap.size
section
variable {w0 w w' : World} {b : Nat} {s : ByteArray} {tab : Int → Int} {p : Int}
theorem Held.start (h : Lex w0 b s tab p) : Held w0 (w0.alloc tokZero) b s tab p := by
  have hA := (Below.refl w0.heap.size w0).alloc (Nat.le_refl _) tokZero
  obtain ⟨t0, t1, t2, t3, t4, t5, t6⟩ := tok_cells (Below.refl (w0.alloc tokZero).heap.size (w0.alloc tokZero)) (by simp)
  exact ⟨h.below hA h.lt, hA, ⟨t6, _, _, _, _, _, _, t0, t1, t2, t3, t4, t5⟩, by simp, h.lt⟩
theorem Held.call (hB : Below w.heap.size w w') (h : Held w0 w b s tab p) : Held w0 w' b s tab p := by
  obtain ⟨t6, v0, v1, v2, v3, v4, v5, t0, t1, t2, t3, t4, t5⟩ := h.tok
  have e : ∀ o, w'.cell? ⟨w0.heap.size, o, none⟩ = w.cell? ⟨w0.heap.size, o, none⟩ := fun o => hB.cell (p := ⟨w0.heap.size, o, none⟩) h.lt
  exact ⟨h.lex.below hB h.lex.lt, h.bel.trans (hB.mono (Nat.le_of_lt h.lt)), ⟨fun o => (hB.frozen (p := ⟨w0.heap.size, o, none⟩) h.lt).trans (t6 o), v0, v1, v2, v3, v4, v5, (e 0).trans t0, (e 1).trans t1, (e 2).trans t2, (e 3).trans t3, (e 4).trans t4, (e 5).trans t5⟩, Nat.lt_of_lt_of_le h.lt hB.size, h.blt⟩
theorem Held.callB {B : Nat} (hB : Below B w w') (h1 : w0.heap.size < B) (h : Held w0 w b s tab p) : Held w0 w' b s tab p := by
  obtain ⟨t6, v0, v1, v2, v3, v4, v5, t0, t1, t2, t3, t4, t5⟩ := h.tok
  have e : ∀ o, w'.cell? ⟨w0.heap.size, o, none⟩ = w.cell? ⟨w0.heap.size, o, none⟩ := fun o => hB.cell (p := ⟨w0.heap.size, o, none⟩) h1
  exact ⟨h.lex.below hB (Nat.lt_trans h.blt h1), h.bel.trans (hB.mono (Nat.le_of_lt h1)), ⟨fun o => (hB.frozen (p := ⟨w0.heap.size, o, none⟩) h1).trans (t6 o), v0, v1, v2, v3, v4, v5, (e 0).trans t0, (e 1).trans t1, (e 2).trans t2, (e 3).trans t3, (e 4).trans t4, (e 5).trans t5⟩, Nat.lt_of_lt_of_le h.lt hB.size, h.blt⟩
theorem Held.drew (h : Held w0 w b s tab p) : Held w0 w.drew b s tab p := Held.call ((Below.refl _ w).drew) h
theorem Held.ca (h : Held w0 w b s tab p) : w.cell? ⟨b, 257, none⟩ = some (.int .i64 p) := h.lex.ca
theorem frozen_set (w : World) (a : Addr) (v : Value) (q : Addr) : (w.setCell a v).frozen? q = w.frozen? q := by
  unfold World.frozen? World.setCell
  simp only [Array.getElem?_modify]
  by_cases h : a.block = q.block
  · rw [if_pos h]
    cases w.heap[q.block]? with
    | none => rfl
    | some o => cases o <;> rfl
  · rw [if_neg h]
theorem Held.set (h : Held w0 w b s tab p) (o : Nat) (v : Value) : Held w0 (w.setCell ⟨w0.heap.size, o, none⟩ v) b s tab p := by
  obtain ⟨t6, v0, v1, v2, v3, v4, v5, t0, t1, t2, t3, t4, t5⟩ := h.tok
  have hsz : (w.setCell ⟨w0.heap.size, o, none⟩ v).heap.size = w.heap.size := by simp [World.setCell]
  have e : ∀ (k : Nat) (u : Value), w.cell? ⟨w0.heap.size, k, none⟩ = some u → ∃ u', (w.setCell ⟨w0.heap.size, o, none⟩ v).cell? ⟨w0.heap.size, k, none⟩ = some u' := fun k u hu => by
    by_cases hk : o = k
    · subst hk; exact ⟨v, World.cell?_setCell_same w _ v hu⟩
    · exact ⟨u, (World.cell?_setCell_other w _ _ v (by intro hh; injection hh with _ h2 _; exact hk h2)).trans hu⟩
  obtain ⟨u0, e0⟩ := e 0 _ t0
  obtain ⟨u1, e1⟩ := e 1 _ t1
  obtain ⟨u2, e2⟩ := e 2 _ t2
  obtain ⟨u3, e3⟩ := e 3 _ t3
  obtain ⟨u4, e4⟩ := e 4 _ t4
  obtain ⟨u5, e5⟩ := e 5 _ t5
  exact ⟨h.lex.same (by rw [hsz]; exact Nat.le_refl _) (Below.heap_setCell w _ v b (by have := h.blt; show b ≠ w0.heap.size; omega)), h.bel.setCell (p := ⟨w0.heap.size, o, none⟩) (Nat.le_refl _) v, ⟨fun k => (frozen_set _ _ _ _).trans (t6 k), u0, u1, u2, u3, u4, u5, e0, e1, e2, e3, e4, e5⟩, by rw [hsz]; exact h.lt, h.blt⟩
theorem Held.sets (h : Held w0 w b s tab p) (x0 x1 x2 x3 x4 x5 : Value) : Held w0 ((((((w.setCell ⟨w0.heap.size, 0, none⟩ x0).setCell ⟨w0.heap.size, 1, none⟩ x1).setCell ⟨w0.heap.size, 2, none⟩ x2).setCell ⟨w0.heap.size, 3, none⟩ x3).setCell ⟨w0.heap.size, 4, none⟩ x4).setCell ⟨w0.heap.size, 5, none⟩ x5) b s tab p :=
  (((((h.set 0 x0).set 1 x1).set 2 x2).set 3 x3).set 4 x4).set 5 x5
/-- What the drawn region keeps. -/
theorem Held.keep (h : Held w0 w b s tab p) : w.cell? ⟨b, 257, none⟩ = some (.int .i64 p) ∧ Held w0 w b s tab p := ⟨h.ca, h⟩
end

set_option maxHeartbeats 600000 in
theorem lex_solo (b : Nat) (s : ByteArray) (tab : Int → Int) (p : Nat) (w : World) (h : Lex w b s tab p) (hp : p < s.size) :
    Calls Tryd.prog 66 #[.pointer (some ⟨b, 0, none⟩)] w fun e w' => Gives (soloR (cvt tab s.data.toList) p) e ∧ Below w.heap.size w w' := by
  have hsz := h.sz
  have H0 := Held.start h
  have hlt := h.lt
  have ca := h.ca
  clear h
  have hlen : Hid ((cvt tab s.data.toList).length = s.size) := by show _ = _; rw [cvt_len]; simp
  generalize hM : cvt tab s.data.toList = M at *
  have HM := Lib.hid hM
  clear hM
  have HK := Lib.hid (show soloR M p = namedR (soloKind (rawAt M p)) ((M.drop p).take 1) p (p + 1) from rfl)
  have hd : ((rawAt M p == 33) = true ∨ ((rawAt M p == 33) = false ∧ (rawAt M p == 59) = true)) ∨ ((rawAt M p == 33) = false ∧ (rawAt M p == 59) = false) := by grind
  rcases hd with (d1 | ⟨d1, d2⟩) | ⟨d1, d2⟩
  all_goals
    have HS : ∃ q, Hid (soloKind (rawAt M p) = q) ∧ (q = 1 ∨ q = 6) := ⟨_, rfl, by unfold soloKind; split <;> simp⟩
    go_enter Tryd.func66, Tryd.ntmps66
    go_wp2_with fail
    refine (lex_char _ _ _ _ _ _ H0.lex (by omega)).mono ?_; rintro e w1 ⟨rfl, hB1⟩; rw [Int.toNat_natCast, HM.out]
    have H1 := Held.call hB1 H0
    clear H0 hB1
    go_wp2_with fail
    have hw : IntKind.i64.wrap ((p : Int) + 1) = (p : Int) + 1 := IntWalk.i64_in _ (by omega)
    go_region_held3 (fun w' => w'.cell? ⟨b, 257, none⟩ = some (.int .i64 p) ∧ Held w w' b s tab p) (first | with_reducible exact H1.drew.keep | with_reducible exact Held.keep (Held.call (by with_reducible assumption) (And.right (by with_reducible assumption))) | with_reducible exact Held.keep (Held.sets (And.right (by with_reducible assumption)) _ _ _ _ _ _))
      (first
        | (go_at_call 79; ((with_reducible refine (lex_part b s tab p p (p + 1) _ ?_ ?_ ?_ ?_).mono ?_); (· with_reducible exact Held.lex (And.right (by with_reducible assumption))); (· omega); (· omega); (· omega); rintro e w2 ⟨rfl, hB2⟩; rw [Int.toNat_natCast, HM.out, show ((p : Int) + 1 - p).toNat = 1 by omega]))
        | (go_at_call 78; ((with_reducible refine (lex_named b s tab p _ _ _ _ ?_ ?_).mono ?_); (· with_reducible exact Held.lex (And.right (by with_reducible assumption))); (· have := List.length_take_le 1 (M.drop p); simp; omega); rintro e w2 ⟨he, hB2⟩; generalize hr : namedR _ _ _ _ = r at he; have HR := Lib.hid hr; clear hr; unfold Gives tokTup at he; subst he; obtain ⟨t6, v0, v1, v2, v3, v4, v5, t0, t1, t2, t3, t4, t5⟩ := (Held.call hB2 (And.right (by with_reducible assumption))).tok; have hlt2 := (Held.call hB2 (And.right (by with_reducible assumption))).lt)))
    go_wp2_with fail
    refine bodyPost_ret (v := tokTup r) (by simp [tokTup, results, Tryd.results66, go_sem, t0, t1, t2, t3, t4, t5]) rfl ⟨?_, Held.bel (And.right (by with_reducible assumption))⟩
    have HR2 := HR.out
    rw [HK.out, ← HR2]
    unfold soloKind; first | (rw [if_pos (by simpa using Or.inl (by simpa using d1))]; rfl) | (rw [if_pos (by simp at d2; exact Or.inr d2)]; rfl) | (rw [if_neg (by simp at d1 d2; omega)]; rfl)
end Go.Proofs.YtmjeajfakhmakaaDoor
