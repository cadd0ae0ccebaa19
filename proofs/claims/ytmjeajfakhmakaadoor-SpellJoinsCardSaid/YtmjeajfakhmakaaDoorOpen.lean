/- Contracts of the lexer: opening. -/
import Derived.Test.YtmjeajfakhmakaaDoorLexE
import Derived.Test.YtmjeajfakhmakaaDoorPairs
import Derived.RegionTactic
import Derived.BigRegion
namespace Go.Proofs.YtmjeajfakhmakaaDoor
open Go.RowKit Hb
set_option maxRecDepth 100000

def lexCells (s : ByteArray) (at_ : Int) : Array Value := #[.string s] ++ Array.replicate 256 (.int .i64 0) ++ #[.int .i64 at_]
def lexV (s : ByteArray) (at_ : Int) : Value := .agg (lexCells s at_)
theorem build_lexer (s : ByteArray) (at_ : Int) (w : World) : (Instr.build 83 #[(0, .string s), (2, .int .i64 at_)]).run Tryd.prog w = .ok (lexV s at_) w := by kernel_rfl
theorem box_lexer (s : ByteArray) (at_ : Int) (w : World) : (Instr.box 83 (lexV s at_)).run Tryd.prog w = .ok (.pointer (some ⟨w.heap.size, 0, none⟩)) (w.alloc (.cells (lexCells s at_) 83)) := by kernel_rfl

theorem wpList_build_lexer {ops : Array Oper} {rest : List Oper} {o : Oper} {a : Act} {Q : Exit → Act → World → Prop} {w : World} (hgd : o.guard = none) (x y : Operand) (s : ByteArray) (at_ : Int)
    (ho : o.op = .build 83 #[(0, x), (2, y)]) (hx : a.eval x = .string s) (hy : a.eval y = .int .i64 at_)
    (h : wpList Tryd.prog ops Q rest (a.put o.dst (lexV s at_)) w) : wpList Tryd.prog ops Q (o :: rest) a w := by
  refine wpList_plain hgd fun K hK => ?_
  have e : (execOp a.eval o).run Tryd.prog w = .ok (.value (lexV s at_)) w := by
    unfold execOp
    rw [ho]
    have hm : Array.map (fun x => (x.fst, a.eval x.snd)) #[(0, x), (2, y)] = #[(0, .string s), (2, .int .i64 at_)] := by simp [hx, hy]
    simp only [hm]
    rw [Sem.run_bind, build_lexer]
    rfl
  unfold Oper.wp
  rw [e]
  exact hK _ _ h
theorem wpList_box_lexer {ops : Array Oper} {rest : List Oper} {o : Oper} {a : Act} {Q : Exit → Act → World → Prop} {w : World} (hgd : o.guard = none) (x : Operand) (s : ByteArray) (at_ : Int)
    (ho : o.op = .box 83 x) (hx : a.eval x = lexV s at_)
    (h : wpList Tryd.prog ops Q rest (a.put o.dst (.pointer (some ⟨w.heap.size, 0, none⟩))) (w.alloc (.cells (lexCells s at_) 83))) : wpList Tryd.prog ops Q (o :: rest) a w := by
  refine wpList_plain hgd fun K hK => ?_
  have e : (execOp a.eval o).run Tryd.prog w = .ok (.value (.pointer (some ⟨w.heap.size, 0, none⟩))) (w.alloc (.cells (lexCells s at_) 83)) := by
    unfold execOp
    rw [ho]
    simp only [hx]
    rw [Sem.run_bind, box_lexer]
    rfl
  unfold Oper.wp
  rw [e]
  exact hK _ _ h

theorem lexCells_get (s : ByteArray) (at_ : Int) : (lexCells s at_)[0]? = some (.string s) ∧ (lexCells s at_)[257]? = some (.int .i64 at_) := by
  unfold lexCells
  constructor
  · rw [Array.getElem?_append_left (by simp), Array.getElem?_append_left (by simp)]; rfl
  · rw [Array.getElem?_append_right (by simp)]; simp
/-- The lexer's block, whatever its table. -/
structure LexP (w : World) (b : Nat) (s : ByteArray) (tab : Int → Int) (at_ : Int) : Prop where
  lt : b < w.heap.size
  c0 : w.cell? ⟨b, 0, none⟩ = some (.string s)
  ct : ∀ c : Nat, c < 256 → w.cell? ⟨b, 1 + c, none⟩ = some (.int .i64 (tab c))
  ca : w.cell? ⟨b, 257, none⟩ = some (.int .i64 at_)
  fr : ∀ o, w.frozen? ⟨b, o, none⟩ = false
theorem lexCells_at (s : ByteArray) (at_ : Int) (c : Nat) (h : c < 256) : (lexCells s at_)[1 + c]? = some (.int .i64 0) := by
  unfold lexCells
  rw [Array.getElem?_append_left (by simp; omega), Array.getElem?_append_right (by simp)]
  simp [Array.getElem?_replicate]; omega
theorem LexP.start (w : World) (s : ByteArray) (at_ : Int) (t : TypeId) : LexP (w.alloc (.cells (lexCells s at_) t)) w.heap.size s (fun _ => 0) at_ where
  lt := by simp
  c0 := by rw [World.cell?_alloc_new]; exact (lexCells_get s at_).1
  ct := fun c hc => by rw [World.cell?_alloc_new]; exact lexCells_at s at_ c hc
  ca := by rw [World.cell?_alloc_new]; exact (lexCells_get s at_).2
  fr := fun o => by
    have hb : (w.alloc (.cells (lexCells s at_) t)).heap[w.heap.size]? = some (.cells (lexCells s at_) t) := by show (w.heap.push _)[w.heap.size]? = _; simp
    unfold World.frozen?; simp only [hb]; simp
theorem LexP.set {w : World} {b : Nat} {s : ByteArray} {tab : Int → Int} {at_ : Int} (h : LexP w b s tab at_) (k : Nat) (hk : k < 256) (v : Int) : LexP (w.setCell ⟨b, 1 + k, none⟩ (.int .i64 v)) b s (fun x => if x = k then v else tab x) at_ where
  lt := by simp [World.setCell]; exact h.lt
  c0 := (World.cell?_setCell_other w _ _ _ (by intro hh; injection hh with _ h2 _; omega)).trans h.c0
  ct := fun c hc => by
    by_cases hck : c = k
    · subst hck
      rw [World.cell?_setCell_same w _ _ (h.ct c hc)]; simp
    · rw [World.cell?_setCell_other w _ _ _ (by intro hh; injection hh with _ h2 _; omega), h.ct c hc]
      simp [show ¬((c : Int) = (k : Int)) by omega]
  ca := (World.cell?_setCell_other w _ _ _ (by intro hh; injection hh with _ h2 _; omega)).trans h.ca
  fr := fun o => (frozen_set _ _ _ _).trans (h.fr o)
theorem LexP.same {w w' : World} {b : Nat} {s : ByteArray} {tab : Int → Int} {at_ : Int} (h : LexP w b s tab at_) (hs : w.heap.size ≤ w'.heap.size) (hb : w'.heap[b]? = w.heap[b]?) : LexP w' b s tab at_ where
  lt := Nat.lt_of_lt_of_le h.lt hs
  c0 := (World.cell?_of_block (w := w) hb).trans h.c0
  ct := fun c hc => (World.cell?_of_block (w := w) hb).trans (h.ct c hc)
  ca := (World.cell?_of_block (w := w) hb).trans h.ca
  fr := fun o => (World.frozen?_of_block (w := w) hb).trans (h.fr o)
theorem LexP.congr {w : World} {b : Nat} {s : ByteArray} {tab tab' : Int → Int} {at_ : Int} (h : LexP w b s tab at_) (e : ∀ c : Nat, c < 256 → tab c = tab' c) : LexP w b s tab' at_ :=
  ⟨h.lt, h.c0, fun c hc => by rw [h.ct c hc, e c hc], h.ca, h.fr⟩
theorem LexP.lex {w : World} {b : Nat} {s : ByteArray} {tab : Int → Int} {at_ : Int} (h : LexP w b s tab at_) (hz : s.size ≤ 16384) (ht : TabOk tab) : Lex w b s tab at_ := ⟨h.lt, h.c0, h.ct, h.ca, h.fr, hz, ht⟩

theorem convT_snoc (l : List (Int × Int)) (k : Nat) (h : k < l.length) (c : Int) : convT (l.take (k + 1)) c = if prF l k = c then prT l k else convT (l.take k) c := by
  unfold convT
  rw [List.take_succ_eq_append_getElem h, List.foldl_append]
  simp only [List.foldl_cons, List.foldl_nil]
  rw [prF_get _ _ h, prT_get _ _ h]
theorem convT_ok (l : List (Int × Int)) (h : ∀ j, j < l.length → 0 ≤ prT l j ∧ prT l j ≤ 255) : ∀ k, k ≤ l.length → TabOk (convT (l.take k))
  | 0, _ => fun c h0 h1 => by simp [convT]; omega
  | k + 1, hk => fun c h0 h1 => by
    rw [convT_snoc l k (by omega)]
    split
    · exact h k (by omega)
    · exact convT_ok l h k (by omega) c h0 h1
def openOk (s : ByteArray) (at_ : Int) (l : List (Int × Int)) : Prop := s.size ≤ 16384 ∧ 0 ≤ at_ ∧ at_ ≤ s.size ∧ pvalid l = true

set_option maxHeartbeats 800000 in
theorem lex_open_no (s : ByteArray) (at_ : Int) (A : Option Addr) (n cap : Nat) (l : List (Int × Int)) (w : World) (hn : n = l.length) (hm : n ≤ maxLen) (hs : s.size ≤ maxLen) (hp : Pairs w A l) (ho : ¬openOk s at_ l) :
    Calls Tryd.prog 49 #[.string s, .int .i64 at_, .slice A n cap] w fun e w' => e = .returned (.tuple #[.pointer none, .bool false]) ∧ Below w.heap.size w w' := by
  unfold maxLen at hs
  have hd : (16384 : Int) < s.size ∨ ((s.size : Int) ≤ 16384 ∧ at_ < 0) ∨ ((s.size : Int) ≤ 16384 ∧ 0 ≤ at_ ∧ (s.size : Int) < at_) ∨ ((s.size : Int) ≤ 16384 ∧ 0 ≤ at_ ∧ at_ ≤ s.size ∧ pvalid l = false) := by
    unfold openOk at ho
    by_cases c1 : s.size ≤ 16384
    · by_cases c2 : 0 ≤ at_
      · by_cases c3 : at_ ≤ s.size
        · refine .inr (.inr (.inr ⟨by omega, c2, c3, ?_⟩))
          cases hv : pvalid l
          · rfl
          · exact absurd ⟨c1, c2, c3, hv⟩ ho
        · exact .inr (.inr (.inl ⟨by omega, c2, by omega⟩))
      · exact .inr (.inl ⟨by omega, by omega⟩)
    · exact .inl (by omega)
  have HV := Lib.hid (chars_valid A n cap l w hn hm hp)
  clear hn hp ho
  rcases hd with d1 | ⟨d1, d2⟩ | ⟨d1, d2, d3⟩ | ⟨d1, d2, d3, d4⟩
  · have e1 : decide (16384 < s.size) = true := by simp; omega
    go_enter Tryd.func49, Tryd.ntmps49
    go_wp2_with fail
    go_ret2
    exact ⟨rfl, Below.refl _ _⟩
  · have e1 : decide (16384 < s.size) = false := by simp; omega
    have e2 : decide (at_ < 0) = true := by simp; omega
    go_enter Tryd.func49, Tryd.ntmps49
    go_wp2_with fail
    go_ret2
    exact ⟨rfl, Below.refl _ _⟩
  · have e1 : decide (16384 < s.size) = false := by simp; omega
    have e2 : decide (at_ < 0) = false := by simp; omega
    have e3 : decide ((s.size : Int) < at_) = true := by simp; omega
    go_enter Tryd.func49, Tryd.ntmps49
    go_wp2_with fail
    go_ret2
    exact ⟨rfl, Below.refl _ _⟩
  · have e1 : decide (16384 < s.size) = false := by simp; omega
    have e2 : decide (at_ < 0) = false := by simp; omega
    have e3 : decide ((s.size : Int) < at_) = false := by simp; omega
    have D4 := Lib.hid d4
    clear d4
    go_enter Tryd.func49, Tryd.ntmps49
    go_wp2_with fail
    refine HV.out.mono ?_; rintro e w1 ⟨rfl, hB⟩; rw [D4.out]
    go_wp2_with fail
    go_ret2
    exact ⟨rfl, hB⟩

set_option maxHeartbeats 1600000 in
theorem lex_open_yes (s : ByteArray) (at_ : Int) (A : Option Addr) (n cap : Nat) (l : List (Int × Int)) (w : World) (hn : n = l.length) (hm : n ≤ maxLen) (hp : Pairs w A l) (ho : openOk s at_ l) :
    Calls Tryd.prog 49 #[.string s, .int .i64 at_, .slice A n cap] w fun e w' => ∃ b, e = .returned (.tuple #[.pointer (some ⟨b, 0, none⟩), .bool true]) ∧ w.heap.size ≤ b ∧ Below w.heap.size w w' ∧ Lex w' b s (convT l) at_ := by
  obtain ⟨d1, d2, d3, d4⟩ := ho
  have e1 : decide (16384 < s.size) = false := by simp; omega
  have e2 : decide (at_ < 0) = false := by simp; omega
  have e3 : decide ((s.size : Int) < at_) = false := by simp; omega
  have HV := Lib.hid (chars_valid A n cap l w hn hm hp)
  have HP := Lib.hid hp
  have HN := Lib.hid hn
  have D4 := Lib.hid d4
  unfold maxLen at hm
  have hbd : Hid (∀ j, j < l.length → (0 ≤ prF l j ∧ prF l j ≤ 255) ∧ 0 ≤ prT l j ∧ prT l j ≤ 255) := fun j hj => by
    have := pvalid_at l D4.out j hj
    unfold okAt at this
    simp only [Bool.and_eq_true] at this
    exact ⟨(isCh_iff _).1 this.1, (isCh_iff _).1 this.2.1⟩
  clear hn hp d4
  go_enter Tryd.func49, Tryd.ntmps49
  go_wp2_with fail
  refine HV.out.mono ?_; rintro e w1 ⟨rfl, hB⟩; rw [D4.out]
  go_wp2_with (first | (refine wpList_build_lexer rfl _ _ s at_ rfl rfl rfl ?_) | (refine wpList_box_lexer rfl _ s at_ rfl rfl ?_))
  have P0 := LexP.start w1 s at_ 83
  have hB0 := hB.trans (((Below.refl w1.heap.size w1).alloc (Nat.le_refl _) (.cells (lexCells s at_) 83)).mono hB.size)
  have hbge := hB.size
  generalize hw2 : w1.alloc (.cells (lexCells s at_) 83) = w2 at *
  generalize hbb : w1.heap.size = b at *
  clear hw2 hbb hB
  go_loopw [34] (fun i wr => ∃ k : Nat, k ≤ 256 ∧ i = .int .i64 k ∧ Below w.heap.size w wr ∧ LexP wr b s (fun x => if x < k then x else 0) at_) (fun i _ => 256 - (intOf i).toNat)
  case atStart => exact ⟨0, Nat.zero_le _, rfl, hB0, P0.congr fun c _ => by rw [if_neg (by omega)]⟩
  case round =>
    obtain ⟨k, hk, rfl, hB1, P1⟩ := hrel
    by_cases hlt : k < 256
    · have ck := P1.ct k hlt
      have fk := P1.fr (1 + k)
      have hbl := P1.lt
      have P2 := P1.set k hlt k
      go_wp2_with fail
      go_roundw
      case rel => exact ⟨k + 1, by omega, by go_num, hB1.setCell (p := ⟨b, _, none⟩) hbge _, P2.congr fun c _ => by grind⟩
      case measure => simp [intOf]; omega
    · obtain rfl : k = 256 := by omega
      have Q0 : LexP wr b s (convT (l.take 0)) at_ := P1.congr fun c hc => by rw [if_pos (by omega)]; rfl
      clear P1
      go_wp2_with fail
      go_loopw [46] (fun i wx => ∃ k : Nat, k ≤ n ∧ i = .int .i64 k ∧ Below w.heap.size w wx ∧ LexP wx b s (convT (l.take k)) at_) (fun i _ => n - (intOf i).toNat)
      case atStart => exact ⟨0, Nat.zero_le _, rfl, hB1, Q0⟩
      case round =>
        obtain ⟨k, hk, rfl, hB2, P2⟩ := hrel
        by_cases hlt2 : k < n
        · have hkl : k < l.length := by have := HN.out; omega
          obtain ⟨b', off, rfl, hb', c1, c2⟩ := (HP.out.below hB2) k hkl
          rw [prF_get _ _ hkl] at c1
          rw [prT_get _ _ hkl] at c2
          obtain ⟨⟨q0, q1⟩, q2, q3⟩ := hbd.out k hkl
          obtain ⟨m, hmF⟩ := Int.eq_ofNat_of_zero_le q0
          rw [hmF] at c1
          have hm1 : m < 256 := by omega
          have HT := Lib.hid (convT_snoc l k hkl)
          have HmF := Lib.hid hmF
          clear q0 q1 hmF
          go_wp2_with fail
          have hA := (Below.refl wr.heap.size wr).alloc (Nat.le_refl _) (.cells #[.int .i64 m, .int .i64 (prT l k)] 85)
          have P4 := P2.same hA.size (hA.block b P2.lt)
          have hB4 := hB2.trans (hA.mono hB2.size)
          have g0 : (wr.alloc (.cells #[.int .i64 m, .int .i64 (prT l k)] 85)).cell? ⟨wr.heap.size, 0, none⟩ = some (.int .i64 m) := by rw [World.cell?_alloc_new]; rfl
          have g1 : (wr.alloc (.cells #[.int .i64 m, .int .i64 (prT l k)] 85)).cell? ⟨wr.heap.size, 1, none⟩ = some (.int .i64 (prT l k)) := by rw [World.cell?_alloc_new]; rfl
          generalize hw4 : wr.alloc (.cells #[.int .i64 m, .int .i64 (prT l k)] 85) = w4 at *
          clear hw4 hA P2
          have ck := P4.ct m hm1
          have fk := P4.fr (1 + m)
          have hbl := P4.lt
          have P5 := P4.set m hm1 (prT l k)
          go_region
          go_wp2_with fail
          go_roundw
          case rel => exact ⟨k + 1, by omega, by go_num, (hB4.setCell (p := ⟨b, _, none⟩) hbge _).drew, (P5.congr fun c _ => by rw [HT.out, HmF.out]; grind).same (Nat.le_refl _) rfl⟩
          case measure => simp [intOf]; omega
        · have hkn : k = l.length := by have := HN.out; omega
          have HT := Lib.hid (show l.take k = l from List.take_of_length_le (by omega))
          rw [HT.out] at P2
          have hok := convT_ok l (fun j hj => (hbd.out j hj).2) l.length (Nat.le_refl _)
          rw [List.take_length] at hok
          have HO := Lib.hid hok
          clear hok
          go_wp2_with fail
          go_ret2
          exact ⟨b, rfl, hbge, hB2, P2.lex d1 HO.out⟩
end Go.Proofs.YtmjeajfakhmakaaDoor
