/- Contracts of the lexer: the next token. -/
import Derived.Test.YtmjeajfakhmakaaDoorLex9
import Derived.RegionTactic
import Derived.BigRegion
import Derived.Laws.EntriesVeiled
namespace Go.Proofs.YtmjeajfakhmakaaDoor
open Go.RowKit Hb
set_option maxRecDepth 100000

theorem cls_dig (c : Int) (h : cls c = 4) : isDig 10 c = true := by
  have hc : 48 ≤ c ∧ c ≤ 57 := by unfold cls at h; grind (splits := 30)
  unfold isDig; rw [digOk_dgt _ _ (by decide) (by decide)]; unfold dgt; rw [if_pos hc]; simp; omega

/-- Only block g may have changed, of what was there. -/
structure Only (g : Nat) (w w' : World) : Prop where
  os : w'.os = w.os
  tape : w'.tape = w.tape
  output : w'.output = w.output
  size : w.heap.size ≤ w'.heap.size
  block : ∀ k, k < w.heap.size → k ≠ g → w'.heap[k]? = w.heap[k]?
theorem Only.refl (g : Nat) (w : World) : Only g w w := ⟨rfl, rfl, rfl, Nat.le_refl _, fun _ _ _ => rfl⟩
theorem Only.trans {g : Nat} {a b c : World} (h : Only g a b) (k : Only g b c) : Only g a c :=
  ⟨k.os.trans h.os, k.tape.trans h.tape, k.output.trans h.output, Nat.le_trans h.size k.size, fun i hi hg => (k.block i (Nat.lt_of_lt_of_le hi h.size) hg).trans (h.block i hi hg)⟩
theorem Only.below {g : Nat} {a b c : World} (h : Only g a b) {B : Nat} (hb : Below B b c) (hB : a.heap.size ≤ B) : Only g a c :=
  ⟨hb.os.trans h.os, hb.tape.trans h.tape, hb.output.trans h.output, Nat.le_trans h.size hb.size, fun i hi hg => (hb.block i (by omega)).trans (h.block i hi hg)⟩
theorem Only.drew {g : Nat} {a b : World} (h : Only g a b) : Only g a b.drew := ⟨h.os, h.tape, h.output, h.size, h.block⟩
theorem Only.set {g : Nat} {a b : World} (h : Only g a b) (o : Nat) (v : Value) : Only g a (b.setCell ⟨g, o, none⟩ v) :=
  ⟨h.os, h.tape, h.output, by simp [World.setCell]; exact h.size, fun i hi hg => (Below.heap_setCell b _ v i hg).trans (h.block i hi hg)⟩
theorem Only.setNew {g : Nat} {a b : World} (h : Only g a b) (p : Addr) (hp : a.heap.size ≤ p.block) (v : Value) : Only g a (b.setCell p v) :=
  ⟨h.os, h.tape, h.output, by simp [World.setCell]; exact h.size, fun i hi hg => (Below.heap_setCell b _ v i (by omega)).trans (h.block i hi hg)⟩
theorem Only.toBelow {g : Nat} {a b : World} (h : Only g a b) (hg : a.heap.size ≤ g) : Below a.heap.size a b := ⟨h.os, h.tape, h.output, h.size, fun k hk => h.block k hk (by omega)⟩
theorem Only.toBelow' {g : Nat} {a b : World} (h : Only g a b) {B : Nat} (hg : B ≤ g) (hB : B ≤ a.heap.size) : Below B a b := ⟨h.os, h.tape, h.output, h.size, fun k hk => h.block k (by omega) (by omega)⟩

theorem Lex.setAt {w : World} {b : Nat} {s : ByteArray} {tab : Int → Int} {a : Int} (h : Lex w b s tab a) (p : Int) : Lex (w.setCell ⟨b, 257, none⟩ (.int .i64 p)) b s tab p where
  lt := by simp [World.setCell]; exact h.lt
  c0 := (World.cell?_setCell_other w _ _ _ (by intro hh; injection hh with _ h2 _; omega)).trans h.c0
  ct := fun c hc => (World.cell?_setCell_other w _ _ _ (by intro hh; injection hh with _ h2 _; omega)).trans (h.ct c hc)
  ca := World.cell?_setCell_same w _ _ h.ca
  fr := fun o => (frozen_set _ _ _ _).trans (h.fr o)
  sz := h.sz
  tb := h.tb

/-- What holds while 'next' runs. -/
structure NHeld (w0 w : World) (b : Nat) (s : ByteArray) (tab : Int → Int) (p : Int) : Prop where
  lex : Lex w b s tab p
  only : Only b w0 w
  tok : Tok6 w w0.heap.size
  lt : w0.heap.size < w.heap.size
  blt : b < w0.heap.size
section
variable {w0 w w' : World} {b : Nat} {s : ByteArray} {tab : Int → Int} {p : Int}
theorem NHeld.start (h : Lex w0 b s tab p) : NHeld w0 (w0.alloc tokZero) b s tab p := by
  have H := Held.start h
  exact ⟨H.lex, (Only.refl b w0).below H.bel (Nat.le_refl _), H.tok, H.lt, H.blt⟩
theorem Tok6.below {B g : Nat} (h : Tok6 w g) (hB : Below B w w') (hg : g < B) : Tok6 w' g := by
  obtain ⟨t6, v0, v1, v2, v3, v4, v5, t0, t1, t2, t3, t4, t5⟩ := h
  have e : ∀ o, w'.cell? ⟨g, o, none⟩ = w.cell? ⟨g, o, none⟩ := fun o => hB.cell (p := ⟨g, o, none⟩) hg
  exact ⟨fun o => (hB.frozen (p := ⟨g, o, none⟩) hg).trans (t6 o), v0, v1, v2, v3, v4, v5, (e 0).trans t0, (e 1).trans t1, (e 2).trans t2, (e 3).trans t3, (e 4).trans t4, (e 5).trans t5⟩
theorem NHeld.call {B : Nat} (hB : Below B w w') (h1 : w0.heap.size < B) (h : NHeld w0 w b s tab p) : NHeld w0 w' b s tab p :=
  ⟨h.lex.below hB (Nat.lt_trans h.blt h1), h.only.below hB (Nat.le_of_lt h1), h.tok.below hB h1, Nat.lt_of_lt_of_le h.lt hB.size, h.blt⟩
theorem NHeld.setAt (h : NHeld w0 w b s tab p) (q : Int) : NHeld w0 (w.setCell ⟨b, 257, none⟩ (.int .i64 q)) b s tab q := by
  obtain ⟨t6, v0, v1, v2, v3, v4, v5, t0, t1, t2, t3, t4, t5⟩ := h.tok
  have hne : b ≠ w0.heap.size := by have := h.blt; omega
  have e : ∀ o, (w.setCell ⟨b, 257, none⟩ (.int .i64 q)).cell? ⟨w0.heap.size, o, none⟩ = w.cell? ⟨w0.heap.size, o, none⟩ := fun o => World.cell?_setCell_other w _ _ _ (by intro hh; injection hh with h1 _ _; exact hne h1)
  exact ⟨h.lex.setAt q, h.only.set 257 _, ⟨fun o => (frozen_set _ _ _ _).trans (t6 o), v0, v1, v2, v3, v4, v5, (e 0).trans t0, (e 1).trans t1, (e 2).trans t2, (e 3).trans t3, (e 4).trans t4, (e 5).trans t5⟩, by simp [World.setCell]; exact h.lt, h.blt⟩
end
theorem only_sets {w w' : World} {b g : Nat} (h : Only b w w') (hg : w.heap.size ≤ g) (a0 a1 a2 a3 a4 a5 : Value) : Only b w ((((((w'.setCell ⟨g, 0, none⟩ a0).setCell ⟨g, 1, none⟩ a1).setCell ⟨g, 2, none⟩ a2).setCell ⟨g, 3, none⟩ a3).setCell ⟨g, 4, none⟩ a4).setCell ⟨g, 5, none⟩ a5) :=
  (((((h.setNew ⟨g, _, none⟩ hg _).setNew ⟨g, _, none⟩ hg _).setNew ⟨g, _, none⟩ hg _).setNew ⟨g, _, none⟩ hg _).setNew ⟨g, _, none⟩ hg _).setNew ⟨g, _, none⟩ hg _
theorem lex_sets {w : World} {b g : Nat} {s : ByteArray} {tab : Int → Int} {p : Int} (h : Lex w b s tab p) (hg : b ≠ g) (a0 a1 a2 a3 a4 a5 : Value) : Lex ((((((w.setCell ⟨g, 0, none⟩ a0).setCell ⟨g, 1, none⟩ a1).setCell ⟨g, 2, none⟩ a2).setCell ⟨g, 3, none⟩ a3).setCell ⟨g, 4, none⟩ a4).setCell ⟨g, 5, none⟩ a5) b s tab p := by
  refine h.same (by simp [World.setCell]) ?_
  rw [Below.heap_setCell _ _ _ _ hg, Below.heap_setCell _ _ _ _ hg, Below.heap_setCell _ _ _ _ hg, Below.heap_setCell _ _ _ _ hg, Below.heap_setCell _ _ _ _ hg, Below.heap_setCell _ _ _ _ hg]

theorem only_sets_alloc {w w' : World} {b g : Nat} (h : Only b w w') (hg : w.heap.size ≤ g) (a0 a1 a2 a3 a4 a5 : Value) (o : Obj) : Only b w (((((((w'.setCell ⟨g, 0, none⟩ a0).setCell ⟨g, 1, none⟩ a1).setCell ⟨g, 2, none⟩ a2).setCell ⟨g, 3, none⟩ a3).setCell ⟨g, 4, none⟩ a4).setCell ⟨g, 5, none⟩ a5).alloc o) :=
  (only_sets h hg a0 a1 a2 a3 a4 a5).below ((Below.refl _ _).alloc (Nat.le_refl _) o) (only_sets h hg a0 a1 a2 a3 a4 a5).size
theorem lex_sets_alloc {w : World} {b g : Nat} {s : ByteArray} {tab : Int → Int} {p : Int} (h : Lex w b s tab p) (hg : b ≠ g) (a0 a1 a2 a3 a4 a5 : Value) (o : Obj) : Lex (((((((w.setCell ⟨g, 0, none⟩ a0).setCell ⟨g, 1, none⟩ a1).setCell ⟨g, 2, none⟩ a2).setCell ⟨g, 3, none⟩ a3).setCell ⟨g, 4, none⟩ a4).setCell ⟨g, 5, none⟩ a5).alloc o) b s tab p :=
  (lex_sets h hg a0 a1 a2 a3 a4 a5).below ((Below.refl _ _).alloc (Nat.le_refl _) o) (lex_sets h hg a0 a1 a2 a3 a4 a5).lt

def nxtTup (r : NextR) : Value := .tuple #[.agg #[.int .i64 r.r.kind, .string ⟨r.r.text.toArray⟩, .int .i64 r.r.n, .int .i64 r.r.at_, .int .i64 r.r.end_, .bool r.lay], .int .i64 r.where_, .int .i64 r.r.err]
def GivesN (r : NextR) (e : Ending) : Prop := e = .returned (nxtTup r)
def readers : Obj := .cells #[.func (.func 62) #[] #[], .func (.func 62) #[] #[], .func (.func 63) #[] #[], .func (.func 63) #[] #[], .func (.func 64) #[] #[], .func (.func 65) #[] #[], .func (.func 66) #[] #[], .func (.func 67) #[] #[], .func (.func 62) #[] #[]] 88
theorem reader_cell0 (w : World) : (w.alloc readers).cell? ⟨w.heap.size, 0, none⟩ = some (.func (.func 62) #[] #[]) := by unfold readers; rw [World.cell?_alloc_new]; rfl
theorem reader_cell1 (w : World) : (w.alloc readers).cell? ⟨w.heap.size, 1, none⟩ = some (.func (.func 62) #[] #[]) := by unfold readers; rw [World.cell?_alloc_new]; rfl
theorem reader_cell2 (w : World) : (w.alloc readers).cell? ⟨w.heap.size, 2, none⟩ = some (.func (.func 63) #[] #[]) := by unfold readers; rw [World.cell?_alloc_new]; rfl
theorem reader_cell3 (w : World) : (w.alloc readers).cell? ⟨w.heap.size, 3, none⟩ = some (.func (.func 63) #[] #[]) := by unfold readers; rw [World.cell?_alloc_new]; rfl
theorem reader_cell4 (w : World) : (w.alloc readers).cell? ⟨w.heap.size, 4, none⟩ = some (.func (.func 64) #[] #[]) := by unfold readers; rw [World.cell?_alloc_new]; rfl
theorem reader_cell5 (w : World) : (w.alloc readers).cell? ⟨w.heap.size, 5, none⟩ = some (.func (.func 65) #[] #[]) := by unfold readers; rw [World.cell?_alloc_new]; rfl
theorem reader_cell6 (w : World) : (w.alloc readers).cell? ⟨w.heap.size, 6, none⟩ = some (.func (.func 66) #[] #[]) := by unfold readers; rw [World.cell?_alloc_new]; rfl
theorem reader_cell7 (w : World) : (w.alloc readers).cell? ⟨w.heap.size, 7, none⟩ = some (.func (.func 67) #[] #[]) := by unfold readers; rw [World.cell?_alloc_new]; rfl
theorem reader_cell8 (w : World) : (w.alloc readers).cell? ⟨w.heap.size, 8, none⟩ = some (.func (.func 62) #[] #[]) := by unfold readers; rw [World.cell?_alloc_new]; rfl

set_option maxHeartbeats 800000 in
theorem lex_next_end (b : Nat) (s : ByteArray) (tab : Int → Int) (a : Nat) (at0 : Int) (w : World) (h : Lex w b s tab at0) (_ha : a ≤ s.size) (e1 : (a + skipN ((cvt tab s.data.toList).drop a)) = s.size) :
    Calls Tryd.prog 50 #[.pointer (some ⟨b, 0, none⟩), .int .i64 a] w fun e w' => GivesN (nextR (cvt tab s.data.toList) s.data.toList a) e ∧ Only b w w' ∧ ∃ q, Lex w' b s tab q := by
  have H0 := NHeld.start h
  have hlt := h.lt
  have hsz := h.sz
  clear h
  have hlen : Hid ((cvt tab s.data.toList).length = s.size) := by show _ = _; rw [cvt_len]; simp
  have HRl : Hid (s.data.toList.length = s.size) := size_data s
  have hsk := skipN_le ((cvt tab s.data.toList).drop a)
  rw [List.length_drop, hlen.out] at hsk
  generalize hM : cvt tab s.data.toList = M at *
  have HM := Lib.hid hM
  clear hM
  generalize hS : skipN (M.drop a) = S at *
  have HS := Lib.hid hS
  clear hS
  have HK := Lib.hid (show nextR M s.data.toList a = ⟨errR 14, false, a + S⟩ by unfold nextR; simp only [HS.out]; rw [if_pos (by rw [HRl.out]; exact e1)]; simp)
  have b1 : ((a : Int) + S == (s.size : Int)) = true := by simp; omega
  have he1 := Lib.hid e1
  clear e1
  go_enter Tryd.func50, Tryd.ntmps50
  go_wp2_with fail
  refine (lex_skip _ _ _ _ _ _ H0.lex (by omega)).mono ?_; rintro e w1 ⟨rfl, hB1⟩; rw [Int.toNat_natCast, HM.out, HS.out]
  have H1 := NHeld.call hB1 H0.lt H0
  have c1 := H1.lex.ca
  have f1 := H1.lex.fr 257
  have hl1 := H1.lex.lt
  have H2 := H1.setAt (a + S)
  clear hB1 H0 H1
  go_wp2_with fail
  generalize hw2 : w1.setCell ⟨b, 257, none⟩ (.int .i64 ((a : Int) + S)) = w2 at *
  clear hw2 c1 f1 hl1
  have c2 := H2.lex.ca
  have d2 := H2.lex.c0
  go_quiet (fail)
  have H3 := NHeld.call (bl_drewN (Below.refl w2.heap.size w2) nq) H2.lt H2
  clear H2 c2 d2
  generalize hw3 : w2.drewN nq = w3 at *
  clear hw3
  have c3 := H3.lex.ca
  obtain ⟨t6, v0, v1, v2, v3, v4, v5, t0, t1, t2, t3, t4, t5⟩ := H3.tok
  have hl3 := H3.lt
  have hb3 := H3.lex.lt
  have H4 := fun o => NHeld.call ((Below.refl w3.heap.size w3).alloc (Nat.le_refl _) o) H3.lt H3
  go_wp2_with fail
  go_region
  go_wp2_with fail
  refine bodyPost_ret (v := nxtTup ⟨errR 14, false, (a : Int) + S⟩) (by simp [nxtTup, errR, results, Tryd.results50, go_sem, t0, t1, t2, t3, t4, t5]) rfl ⟨?_, (only_sets H3.only (Nat.le_refl _) _ _ _ _ _ _).drew, _, (lex_sets H3.lex (by have := H3.blt; omega) _ _ _ _ _ _).drewN 1⟩
  rw [HK.out]; rfl

set_option maxHeartbeats 800000 in
theorem lex_next_open (b : Nat) (s : ByteArray) (tab : Int → Int) (a : Nat) (at0 : Int) (w : World) (h : Lex w b s tab at0) (ha : a ≤ s.size) (e1 : ¬(a + skipN ((cvt tab s.data.toList).drop a)) = s.size) (e2 : rawAt (cvt tab s.data.toList) (a + skipN ((cvt tab s.data.toList).drop a)) = 47 ∧ rawAt (cvt tab s.data.toList) ((a + skipN ((cvt tab s.data.toList).drop a)) + 1) = 42) :
    Calls Tryd.prog 50 #[.pointer (some ⟨b, 0, none⟩), .int .i64 a] w fun e w' => GivesN (nextR (cvt tab s.data.toList) s.data.toList a) e ∧ Only b w w' ∧ ∃ q, Lex w' b s tab q := by
  have H0 := NHeld.start h
  have hlt := h.lt
  have hsz := h.sz
  clear h
  have hlen : Hid ((cvt tab s.data.toList).length = s.size) := by show _ = _; rw [cvt_len]; simp
  have HRl : Hid (s.data.toList.length = s.size) := size_data s
  have hsk := skipN_le ((cvt tab s.data.toList).drop a)
  rw [List.length_drop, hlen.out] at hsk
  generalize hM : cvt tab s.data.toList = M at *
  have HM := Lib.hid hM
  clear hM
  generalize hS : skipN (M.drop a) = S at *
  have HS := Lib.hid hS
  clear hS
  have b1 : ((a : Int) + S == (s.size : Int)) = false := by simp; omega
  have HKN : Hid (∀ e, ¬e = 0 → (tokR M s.data.toList (a + S)).err = e → Hid (nextR M s.data.toList a = ⟨errR e, false, a + S⟩)) := fun e he h => by
    show nextR M s.data.toList a = _
    unfold nextR; simp only [HS.out]; rw [if_neg (by rw [HRl.out]; exact e1), if_neg (by rw [h]; exact he), h]; simp
  have HKY : Hid ((tokR M s.data.toList (a + S)).err = 0 → Hid (nextR M s.data.toList a = ⟨tokR M s.data.toList (a + S), decide (a < a + S), 0⟩)) := fun h => by
    show nextR M s.data.toList a = _
    unfold nextR; simp only [HS.out]; rw [if_neg (by rw [HRl.out]; exact e1), if_pos h]
  have hp : a + S < s.size := by omega
  have he1 := Lib.hid e1
  clear e1
  have HK := HKN.out 7 (by decide) (by unfold tokR; rw [if_pos e2]; rfl)
  have b2 : (rawAt M (a + S) == 47) = true := by simp [e2.1]
  have b3 : (rawAt M (a + S + 1) == 42) = true := by simp [e2.2]
  clear e2
  go_enter Tryd.func50, Tryd.ntmps50
  go_wp2_with fail
  refine (lex_skip _ _ _ _ _ _ H0.lex (by omega)).mono ?_; rintro e w1 ⟨rfl, hB1⟩; rw [Int.toNat_natCast, HM.out, HS.out]
  have H1 := NHeld.call hB1 H0.lt H0
  have c1 := H1.lex.ca
  have f1 := H1.lex.fr 257
  have hl1 := H1.lex.lt
  have H2 := H1.setAt (a + S)
  clear hB1 H0 H1
  go_wp2_with fail
  generalize hw2 : w1.setCell ⟨b, 257, none⟩ (.int .i64 ((a : Int) + S)) = w2 at *
  clear hw2 c1 f1 hl1
  have c2 := H2.lex.ca
  have d2 := H2.lex.c0
  go_quiet (fail)
  have H3 := NHeld.call (bl_drewN (Below.refl w2.heap.size w2) nq) H2.lt H2
  clear H2 c2 d2
  generalize hw3 : w2.drewN nq = w3 at *
  clear hw3
  have c3 := H3.lex.ca
  obtain ⟨t6, v0, v1, v2, v3, v4, v5, t0, t1, t2, t3, t4, t5⟩ := H3.tok
  have hl3 := H3.lt
  have hb3 := H3.lex.lt
  have H4 := fun o => NHeld.call ((Below.refl w3.heap.size w3).alloc (Nat.le_refl _) o) H3.lt H3
  go_wp2_with fail
  refine (lex_char _ _ _ _ _ _ (H4 _).lex (by omega)).mono ?_; rintro e w5 ⟨rfl, hB5⟩; rw [show ((a : Int) + S).toNat = a + S by omega, HM.out]
  have H5 := NHeld.call hB5 (H4 _).lt (H4 _)
  have c5 := H5.lex.ca
  have r5 := hB5
  go_wp2_with fail
  refine (lex_char _ _ _ _ _ _ H5.lex (by omega)).mono ?_; rintro e w6 ⟨rfl, hB6⟩; rw [show ((a : Int) + S + 1).toNat = a + S + 1 by omega, HM.out]
  have H6 := NHeld.call hB6 H5.lt H5
  have c6 := H6.lex.ca
  have r6 := r5.trans (hB6.mono hB5.size)
  go_wp2_with fail
  clear t0 t1 t2 t3 t4 t5 t6
  obtain ⟨t6, x0, x1, x2, x3, x4, x5, t0, t1, t2, t3, t4, t5⟩ := H6.tok
  have hl6 := H6.lt
  have hb6 := H6.lex.lt
  go_region
  go_wp2_with fail
  refine bodyPost_ret (v := nxtTup ⟨errR 7, false, (a : Int) + S⟩) (by simp [nxtTup, errR, results, Tryd.results50, go_sem, t0, t1, t2, t3, t4, t5]) rfl ⟨?_, (only_sets H6.only (Nat.le_refl _) _ _ _ _ _ _).drew, _, (lex_sets H6.lex (by have := H6.blt; omega) _ _ _ _ _ _).drewN 1⟩
  rw [HK.out]; rfl
end Go.Proofs.YtmjeajfakhmakaaDoor
