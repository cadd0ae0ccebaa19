/- Contracts of layer 9's reference: New, valid. -/
import Derived.Test.YtmjeajfakhmakaaRef2
import Derived.Test.YtmjeajfakhmakaaNext
import Derived.Laws.Tables
import Derived.Laws.CopyOwn
namespace Go.Proofs.Ytmjeajfakhmakaa
open Go.RowKit Hb
set_option maxRecDepth 100000

theorem txt_ext (s : ByteArray) (tab : Int → Int) (cs : Array Value) (hsz : cs.size = 257) (h0 : cs[0]? = some (.string s)) (hc : ∀ c : Nat, c < 256 → cs[1 + c]? = some (.int .i64 (tab c))) : cs = txtCells s tab := by
  apply Array.ext_getElem?
  intro i
  match i with
  | 0 => rw [h0, txtCells_0]
  | i + 1 =>
    rw [Nat.add_comm i 1]
    by_cases hi : i < 256
    · rw [hc i hi, txtCells_at s tab i hi]
    · rw [Array.getElem?_eq_none (by omega), Array.getElem?_eq_none (by rw [txtCells_size]; omega)]
theorem txtCells_congr (s : ByteArray) (tab tab' : Int → Int) (h : ∀ c : Nat, c < 256 → tab c = tab' c) : txtCells s tab = txtCells s tab' :=
  txt_ext s tab' _ (txtCells_size s tab) (txtCells_0 s tab) fun c hc => by rw [txtCells_at s tab c hc, h c hc]
theorem txtCells_set (s : ByteArray) (tab : Int → Int) (k : Nat) (hk : k < 256) (v : Int) : (txtCells s tab).setIfInBounds (1 + k) (.int .i64 v) = txtCells s (fun x => if x = k then v else tab x) := by
  refine txt_ext s _ _ (by simp [txtCells_size]) ?_ fun c hc => ?_
  · rw [Array.getElem?_setIfInBounds_ne (by omega), txtCells_0]
  · by_cases hck : c = k
    · subst hck
      rw [Array.getElem?_setIfInBounds_self_of_lt (by rw [txtCells_size]; omega)]; simp
    · rw [Array.getElem?_setIfInBounds_ne (by omega), txtCells_at s tab c hc]; simp [show ¬((c : Int) = (k : Int)) by omega]
theorem Txt.set {w : World} {b : Nat} {s : ByteArray} {tab : Int → Int} (h : Txt w b s tab) (k : Nat) (hk : k < 256) (v : Int) : Txt (w.setCell ⟨b, 1 + k, none⟩ (.int .i64 v)) b s (fun x => if x = k then v else tab x) where
  lt := by simp [World.setCell]; exact h.lt
  blk := by rw [heap_setCell_same w b (1 + k) _ _ _ h.blk, txtCells_set s tab k hk v]
theorem Txt.congr {w : World} {b : Nat} {s : ByteArray} {tab tab' : Int → Int} (h : Txt w b s tab) (e : ∀ c : Nat, c < 256 → tab c = tab' c) : Txt w b s tab' := ⟨h.lt, by rw [h.blk, txtCells_congr s tab tab' e]⟩
theorem Txt.fr {w : World} {b : Nat} {s : ByteArray} {tab : Int → Int} (h : Txt w b s tab) (o : Nat) : w.frozen? ⟨b, o, none⟩ = false := by
  unfold World.frozen?; simp only [h.blk]; simp
theorem txtCells_one (s : ByteArray) (tab : Int → Int) : (txtCells s tab).all (·.oneCell') = true := by
  unfold txtCells
  rw [Array.all_append, Bool.and_eq_true]
  refine ⟨by simp [Value.oneCell'], ?_⟩
  rw [Array.all_eq_true]
  intro i hi
  rw [Array.getElem_ofFn]; rfl
def tab0 : Int → Int := fun _ => 0
theorem alloc_txt (w : World) : (Instr.alloc 52 true (.tuple #[])).run Try.prog w = .ok (.pointer (some ⟨w.heap.size, 0, none⟩)) (w.alloc (.cells (txtCells ⟨#[]⟩ tab0) 52)) := by kernel_rfl
theorem build_txt (s : ByteArray) (w : World) : (Instr.build 52 #[(0, .string s)]).run Try.prog w = .ok (txtV s tab0) w := by kernel_rfl
theorem wpList_alloc_txt {ops : Array Oper} {rest : List Oper} {o : Oper} {a : Act} {Q : Exit → Act → World → Prop} {w : World} (hgd : o.guard = none) (ho : o.op = .alloc 52)
    (h : ∀ b w1, Txt w1 b ⟨#[]⟩ tab0 → w.heap.size ≤ b → Below w.heap.size w w1 → wpList Try.prog ops Q rest (a.put o.dst (.pointer (some ⟨b, 0, none⟩))) w1) : wpList Try.prog ops Q (o :: rest) a w := by
  refine wpList_plain hgd fun K hK => ?_
  have e : (execOp a.eval o).run Try.prog w = .ok (.value (.pointer (some ⟨w.heap.size, 0, none⟩))) (w.alloc (.cells (txtCells ⟨#[]⟩ tab0) 52)) := by
    unfold execOp
    rw [ho]
    simp only []
    rw [Sem.run_bind, alloc_txt]
    rfl
  unfold Oper.wp
  rw [e]
  exact hK _ _ (h _ _ ⟨by simp, heap_alloc_new w _⟩ (Nat.le_refl _) ((Below.refl _ _).alloc (Nat.le_refl _) _))
theorem wpList_build_txt {ops : Array Oper} {rest : List Oper} {o : Oper} {a : Act} {Q : Exit → Act → World → Prop} {w : World} (hgd : o.guard = none) (x : Operand) (s : ByteArray)
    (ho : o.op = .build 52 #[(0, x)]) (hx : a.eval x = .string s)
    (h : wpList Try.prog ops Q rest (a.put o.dst (txtV s tab0)) w) : wpList Try.prog ops Q (o :: rest) a w := by
  refine wpList_plain hgd fun K hK => ?_
  have e : (execOp a.eval o).run Try.prog w = .ok (.value (txtV s tab0)) w := by
    unfold execOp
    rw [ho]
    have hm : Array.map (fun x => (x.fst, a.eval x.snd)) #[(0, x)] = #[(0, .string s)] := by simp [hx]
    simp only [hm]
    rw [Sem.run_bind, build_txt]
    rfl
  unfold Oper.wp
  rw [e]
  exact hK _ _ h
theorem wpList_store_txt {ops : Array Oper} {rest : List Oper} {o : Oper} {a : Act} {Q : Exit → Act → World → Prop} {w : World} (hgd : o.guard = none) (x y : Operand) {b : Nat} {s s' : ByteArray} {tab tab' : Int → Int}
    (ho : o.op = .store 52 x y) (hx : a.eval x = .pointer (some ⟨b, 0, none⟩)) (hy : a.eval y = txtV s tab) (T : Txt w b s' tab')
    (h : ∀ w1, Txt w1 b s tab → w1.heap.size = w.heap.size → (∀ k, k ≠ b → w1.heap[k]? = w.heap[k]?) → (∀ B w0, Below B w0 w → B ≤ b → Below B w0 w1) → wpList Try.prog ops Q rest (a.put o.dst undef) w1) : wpList Try.prog ops Q (o :: rest) a w :=
  wpList_store_row hgd _ x y ho b (txtCells s tab) hx hy _ _ T.blk (by rw [infoTxt, txtCells_size]) (by rw [txtCells_size, txtCells_size]) (txtCells_one s tab)
    (h _ ⟨by rw [size_setRow]; exact T.lt, setRow_heap w b _ _ _ _ T.blk⟩ (size_setRow _ _ _) (fun k hk => setRow_other w b k _ hk) fun B w0 hB hb => below_setRow hB hb _)
theorem at_txt {ops : Array Oper} {rest : List Oper} {a : Act} {Q : Exit → Act → World → Prop} {w : World} {d t p f x y g} (h : wpList Try.prog ops Q (⟨d, .store 52 x y, t, p, f, g⟩ :: rest) a w) : wpList Try.prog ops Q (⟨d, .store 52 x y, t, p, f, g⟩ :: rest) a w := h
theorem at_atxt {ops : Array Oper} {rest : List Oper} {a : Act} {Q : Exit → Act → World → Prop} {w : World} {d t p f g} (h : wpList Try.prog ops Q (⟨d, .alloc 52, t, p, f, g⟩ :: rest) a w) : wpList Try.prog ops Q (⟨d, .alloc 52, t, p, f, g⟩ :: rest) a w := h
theorem at_btxt {ops : Array Oper} {rest : List Oper} {a : Act} {Q : Exit → Act → World → Prop} {w : World} {d t p f g x} (h : wpList Try.prog ops Q (⟨d, .build 52 x, t, p, f, g⟩ :: rest) a w) : wpList Try.prog ops Q (⟨d, .build 52 x, t, p, f, g⟩ :: rest) a w := h

set_option maxHeartbeats 800000 in
theorem ref_new (s : ByteArray) (A : Option Addr) (n cap : Nat) (l : List (Int × Int)) (w : World) (hn : n = l.length) (hm : n ≤ maxLen) (hp : Pairs w A l) (hv : pvalid l = true) :
    Calls Try.prog 28 #[.string s, .slice A n cap] w fun e w' => e = .returned (txtV s (convT l)) ∧ Below w.heap.size w w' := by
  have HP := Lib.hid hp
  have HN := Lib.hid hn
  unfold maxLen at hm
  have hbd : Hid (∀ j, j < l.length → (0 ≤ prF l j ∧ prF l j ≤ 255) ∧ 0 ≤ prT l j ∧ prT l j ≤ 255) := fun j hj => by
    have := pvalid_at l hv j hj
    unfold okAt at this
    simp only [Bool.and_eq_true] at this
    exact ⟨(isCh_iff _).1 this.1, (isCh_iff _).1 this.2.1⟩
  clear hn hp hv
  go_enter Try.func28, Try.ntmps28
  go_wp2_with (first | (with_reducible refine at_atxt ?_; have _m := R1; refine wpList_alloc_txt rfl rfl ?_; intro b w2 T2 hb hB2) | (with_reducible refine at_atxt ?_; refine wpList_alloc_txt rfl rfl ?_; intro r w1 R1 hr hB1) | (with_reducible refine at_btxt ?_; refine wpList_build_txt rfl _ s rfl rfl ?_) | (with_reducible refine at_txt ?_; refine wpList_store_txt rfl _ _ rfl rfl rfl T2 ?_; intro w3 T3 hz3 ho3 hB3))
  have hrl := R1.lt
  have R3 : Txt w3 r ⟨#[]⟩ tab0 := (R1.below hB2 hrl).same (by omega) (ho3 r (by omega))
  have hB3' := hB3 w.heap.size w (hB1.trans (hB2.mono hB1.size)) (by have := hB1.size; omega)
  have hbge : w.heap.size ≤ b := by have := hB1.size; omega
  have hrb : r ≠ b := by omega
  clear hB3 ho3 hB2 R1 T2 hB1
  go_loopw [6] (fun i wr => ∃ k : Nat, k ≤ 256 ∧ i = .int .i64 k ∧ Below w.heap.size w wr ∧ Txt wr r ⟨#[]⟩ tab0 ∧ Txt wr b s (fun x => if x < k then x else 0)) (fun i _ => 256 - (intOf i).toNat)
  case atStart => exact ⟨0, Nat.zero_le _, rfl, hB3', R3, T3.congr fun c _ => by rw [if_neg (by omega)]; rfl⟩
  case round =>
    obtain ⟨k, hk, rfl, hB4, R4, T4⟩ := hrel
    by_cases hlt : k < 256
    · have hle : decide ((k : Int) ≤ 255) = true := by simp; omega
      have ck := T4.ct k hlt
      have fk := T4.fr (1 + k)
      have hbl := T4.lt
      have T5 := T4.set k hlt k
      have R5 := R4.same (w' := wr.setCell ⟨b, 1 + k, none⟩ (.int .i64 k)) (by simp [World.setCell]) (Below.heap_setCell _ _ _ _ hrb)
      go_wp2_with fail
      go_roundw
      case rel => exact ⟨k + 1, by omega, by go_num, hB4.setCell (p := ⟨b, _, none⟩) hbge _, R5, T5.congr fun c _ => by grind⟩
      case measure => simp [intOf]; omega
    · obtain rfl : k = 256 := by omega
      have Q0 : Txt wr b s (convT (l.take 0)) := T4.congr fun c hc => by rw [if_pos (by omega)]; rfl
      clear T4
      go_wp2_with fail
      go_loopw [7] (fun i wx => ∃ k : Nat, k ≤ n ∧ i = .int .i64 k ∧ Below w.heap.size w wx ∧ Txt wx r ⟨#[]⟩ tab0 ∧ Txt wx b s (convT (l.take k))) (fun i _ => n - (intOf i).toNat)
      case atStart => exact ⟨0, Nat.zero_le _, rfl, hB4, R4, Q0⟩
      case round =>
        obtain ⟨k, hk, rfl, hB5, R5, T5⟩ := hrel
        by_cases hlt2 : k < n
        · have hkl : k < l.length := by have := HN.out; omega
          obtain ⟨b', off, rfl, hb', c1, c2⟩ := (HP.out.below hB5) k hkl
          rw [prF_get _ _ hkl] at c1
          rw [prT_get _ _ hkl] at c2
          obtain ⟨⟨q0, q1⟩, q2, q3⟩ := hbd.out k hkl
          obtain ⟨m, hmF⟩ := Int.eq_ofNat_of_zero_le q0
          rw [hmF] at c1
          have hm1 : m < 256 := by omega
          have HT := Lib.hid (convT_snoc l k hkl)
          have HmF := Lib.hid hmF
          clear q0 q1 hmF
          have ck := T5.ct m hm1
          have fk := T5.fr (1 + m)
          have hbl := T5.lt
          have T6 := T5.set m hm1 (prT l k)
          have R6 := R5.same (w' := wr.setCell ⟨b, 1 + m, none⟩ (.int .i64 (prT l k))) (by simp [World.setCell]) (Below.heap_setCell _ _ _ _ hrb)
          go_wp2_with fail
          go_region
          go_wp2_with fail
          go_roundw
          case rel => exact ⟨k + 1, by omega, by go_num, (hB5.setCell (p := ⟨b, _, none⟩) hbge _).drew, R6.same (Nat.le_refl _) rfl, (T6.congr fun c _ => by rw [HT.out, HmF.out]; grind).same (Nat.le_refl _) rfl⟩
          case measure => simp [intOf]; omega
        · have hkn : k = l.length := by have := HN.out; omega
          have HT := Lib.hid (show l.take k = l from List.take_of_length_le (by omega))
          rw [HT.out] at T5
          clear HT hkn
          go_wp2_with (first | (with_reducible refine at_load0 ?_; refine wpList_load_txt rfl _ rfl rfl T5 ?_) | (with_reducible refine at_txt ?_; refine wpList_store_txt rfl _ _ rfl rfl rfl R5 ?_; intro w9 T9 hz9 ho9 hB9))
          refine bodyPost_ret (v := txtV s (convT l)) (results_cell_row rfl _ _ r _ _ _ _ rfl T9.blk Try.underlying52 rfl (by rw [infoTxt, txtCells_size])) rfl ⟨rfl, hB9 _ _ hB5 hr⟩

set_option maxHeartbeats 400000 in
theorem ref_validA (s : ByteArray) (at_ : Int) (A : Option Addr) (n cap : Nat) (l : List (Int × Int)) (w : World) (hn : n = l.length) (hm : n ≤ maxLen) (hp : Pairs w A l) :
    Calls Try.prog 27 #[.string s, .int .i64 at_, .slice A n cap] w fun e w' => e = .returned (.bool (okArgs s.data.toList at_ l)) ∧ Below w.heap.size w w' := by
  have HV := Lib.hid (ref_valid A n cap l w hn hm hp)
  have HK := Lib.hid (show okArgs s.data.toList at_ l = (decide ((s.size : Int) ≤ 16384) && (decide (at_ ≥ 0) && (decide (at_ ≤ s.size) && pvalid l))) by unfold okArgs; rw [size_data, show decide (s.size ≤ 16384) = decide ((s.size : Int) ≤ 16384) from decide_eq_decide.2 (by omega)])
  clear hn hp
  rw [HK.out]
  by_cases d1 : (s.size : Int) ≤ 16384
  · have e1 : decide ((s.size : Int) ≤ 16384) = true := by simp; omega
    by_cases d2 : at_ ≥ 0
    · have e2 : decide (at_ ≥ 0) = true := by simp; omega
      by_cases d3 : at_ ≤ s.size
      · have e3 : decide (at_ ≤ s.size) = true := by simp; omega
        rw [e1, e2, e3]
        go_enter Try.func27, Try.ntmps27
        go_wp2_with fail
        refine HV.out.mono ?_; rintro e w1 ⟨rfl, hB⟩
        go_wp2_with fail
        go_ret
        exact ⟨ret_bool (by simp), hB⟩
      · have e3 : decide (at_ ≤ s.size) = false := by simp; omega
        rw [e1, e2, e3]
        go_enter Try.func27, Try.ntmps27
        go_wp2_with fail
        go_ret
        exact ⟨ret_bool (by simp), Below.refl _ _⟩
    · have e2 : decide (at_ ≥ 0) = false := by simp; omega
      rw [e1, e2]
      go_enter Try.func27, Try.ntmps27
      go_wp2_with fail
      go_ret
      exact ⟨ret_bool (by simp), Below.refl _ _⟩
  · have e1 : decide ((s.size : Int) ≤ 16384) = false := by simp; omega
    rw [e1]
    go_enter Try.func27, Try.ntmps27
    go_wp2_with fail
    go_ret
    exact ⟨ret_bool (by simp), Below.refl _ _⟩
end Go.Proofs.Ytmjeajfakhmakaa
