/- Operators: DeleteFunc with Set's closure. -/
import Derived.Test.YteddbeifnolklaaOpC
import Derived.Test.YteddbeifnolklaaOpV
namespace Hb
open Go Go.RowKit
/-- Operators of one name and class. -/
def eqOp (o a : OpR) : Bool := cmpOp a o == 0
def restL (o : OpR) (l : List OpR) : List OpR := l.filter fun a => !eqOp o a
theorem opsCells_take : ∀ (l : List OpR) (i : Nat), (opsCells l).take (i * 3) = opsCells (l.take i)
  | [], i => by simp [opsCells]
  | p :: l, 0 => by simp [opsCells]
  | p :: l, i + 1 => by
    have e : opsCells (p :: l) = .string p.name :: .int .i64 p.typ :: .int .i64 p.prec :: opsCells l := rfl
    rw [e, show (i + 1) * 3 = i * 3 + 3 by omega, List.take_succ_cons, List.take_succ_cons, List.take_succ_cons, opsCells_take l i]
    rfl
theorem opsCells_drop : ∀ (l : List OpR) (i : Nat), (opsCells l).drop (i * 3) = opsCells (l.drop i)
  | [], i => by simp [opsCells]
  | p :: l, 0 => by simp
  | p :: l, i + 1 => by
    have e : opsCells (p :: l) = .string p.name :: .int .i64 p.typ :: .int .i64 p.prec :: opsCells l := rfl
    rw [e, show (i + 1) * 3 = i * 3 + 3 by omega, List.drop_succ_cons, List.drop_succ_cons, List.drop_succ_cons, opsCells_drop l i]
    rfl
theorem opsCells_set : ∀ (l : List OpR) (i : Nat) (o : OpR), ((((opsCells l).set (i * 3) (.string o.name)).set (i * 3 + 1) (.int .i64 o.typ)).set (i * 3 + 2) (.int .i64 o.prec)) = opsCells (l.set i o)
  | [], i, o => by simp [opsCells]
  | p :: l, 0, o => rfl
  | p :: l, i + 1, o => by
    have e : opsCells (p :: l) = .string p.name :: .int .i64 p.typ :: .int .i64 p.prec :: opsCells l := rfl
    have e2 : opsCells ((p :: l).set (i + 1) o) = .string p.name :: .int .i64 p.typ :: .int .i64 p.prec :: opsCells (l.set i o) := rfl
    rw [e, e2, ← opsCells_set l i o, show (i + 1) * 3 = i * 3 + 3 by omega]
    rfl
theorem stored3 {w : World} {base e n g cap : Nat} {l : List OpR} (h : w.ownsRow base e 3 (.slice (some ⟨g, 0, none⟩) n cap) n (opsCells l)) (i : Nat) (o : OpR) :
    (((w.setCell ⟨g, i * 3, none⟩ (.string o.name)).setCell ⟨g, i * 3 + 1, none⟩ (.int .i64 o.typ)).setCell ⟨g, i * 3 + 2, none⟩ (.int .i64 o.prec)).ownsRow base e 3 (.slice (some ⟨g, 0, none⟩) n cap) n (opsCells (l.set i o)) := by
  have h3 := (((h.stored (i * 3) (.string o.name)).1.stored (i * 3 + 1) (.int .i64 o.typ)).1.stored (i * 3 + 2) (.int .i64 o.prec)).1
  rw [opsCells_set] at h3
  exact h3
theorem filt_yes (q : OpR → Bool) (l : List OpR) (j : Nat) (hj : j < l.length) (h : q l[j] = true) : (l.take (j + 1)).filter q = (l.take j).filter q ++ [l[j]] := by
  rw [List.take_succ_eq_append_getElem hj, List.filter_append]; simp [h]
theorem filt_no (q : OpR → Bool) (l : List OpR) (j : Nat) (hj : j < l.length) (h : q l[j] = false) : (l.take (j + 1)).filter q = (l.take j).filter q := by
  rw [List.take_succ_eq_append_getElem hj, List.filter_append]; simp [h]
theorem own_len {w : World} {base e n : Nat} {v : Value} {l : List OpR} (h : w.ownsRow base e 3 v n (opsCells l)) : l.length = n := by
  have := h.1; rw [opsCells_len] at this; omega
theorem own_below {w w' : World} {base e n : Nat} {v : Value} {xs : List Value} (h : w.ownsRow base e 3 v n xs) (hB : Below w.heap.size w w') : w'.ownsRow base e 3 v n xs := by
  refine ⟨h.1, ?_⟩
  rcases h.2 with hn | ⟨g, cap, cur, hv, hb, hg, rest⟩
  · exact .inl hn
  · refine .inr ⟨g, cap, cur, hv, hb, ?_, rest⟩
    have hlt : g < w.heap.size := (Array.getElem?_eq_some_iff.1 hg).1
    rw [← hg]; exact hB.block g hlt
/-- How far the table is done: the first i are what stays of the first j, and from j on it is as it was. -/
structure Done (q : OpR → Bool) (l L : List OpR) (i j : Nat) : Prop where
  len : L.length = l.length
  le : i < j
  jl : j ≤ l.length
  pre : L.take i = (l.take j).filter q
  post : L.drop j = l.drop j
theorem Done.start {q : OpR → Bool} {l : List OpR} {k : Nat} (hk : k < l.length) (h : q l[k] = false) (hb : ∀ j (hj : j < k), q (l[j]'(by omega)) = true) : Done q l l k (k + 1) where
  len := rfl
  le := by omega
  jl := hk
  pre := by
    rw [filt_no q l k hk h]
    refine (List.filter_eq_self.2 fun a ha => ?_).symm
    obtain ⟨j, hj, rfl⟩ := List.getElem_of_mem ha
    rw [List.length_take] at hj
    rw [List.getElem_take]
    exact hb j (by omega)
  post := rfl
theorem Done.no {q : OpR → Bool} {l L : List OpR} {i j : Nat} (h : Done q l L i j) (hj : j < l.length) (hq : q l[j] = false) : Done q l L i (j + 1) where
  len := h.len
  le := by have := h.le; omega
  jl := hj
  pre := by rw [filt_no q l j hj hq]; exact h.pre
  post := by rw [← List.drop_drop, h.post, List.drop_drop]
theorem Done.yes {q : OpR → Bool} {l L : List OpR} {i j : Nat} (h : Done q l L i j) (hj : j < l.length) (hq : q l[j] = true) : Done q l (L.set i l[j]) (i + 1) (j + 1) where
  len := by rw [List.length_set]; exact h.len
  le := by have := h.le; omega
  jl := hj
  pre := by
    have hi : i < L.length := by have := h.le; have := h.len; omega
    rw [filt_yes q l j hj hq, ← h.pre, List.take_succ_eq_append_getElem (by rw [List.length_set]; exact hi), List.take_set_of_le (Nat.le_refl i), List.getElem_set_self]
  post := by rw [List.drop_set_of_lt (by have := h.le; omega), ← List.drop_drop, h.post, List.drop_drop]
theorem Done.at {q : OpR → Bool} {l L : List OpR} {i j : Nat} (h : Done q l L i j) (hj : j < l.length) (hj2 : j < L.length) : L[j] = l[j] := by
  have : (L.drop j)[0]? = (l.drop j)[0]? := by rw [h.post]
  rw [List.getElem?_drop, List.getElem?_drop, Nat.add_zero, List.getElem?_eq_getElem hj, List.getElem?_eq_getElem hj2] at this
  exact Option.some.inj this
theorem Done.last {q : OpR → Bool} {l L : List OpR} {i : Nat} (h : Done q l L i l.length) : L.take i = l.filter q := by rw [h.pre, List.take_length]
end Hb
namespace Go.Proofs.Yteddbeifnolklaa
open Go.RowKit Hb
set_option maxRecDepth 100000
theorem set_1 (a o : OpR) (g1 : Nat) (w : World) (n0 : w.cell? ⟨g1, 0, none⟩ = some (.string o.name)) (n1 : w.cell? ⟨g1, 1, none⟩ = some (.int .i64 o.typ)) (n2 : w.cell? ⟨g1, 2, none⟩ = some (.int .i64 o.prec)) (_l1 : g1 < w.heap.size) :
    Calls Try.prog 42 #[opV a, .pointer (some ⟨g1, 0, none⟩)] w fun e w' => e = .returned (.bool (eqOp o a)) ∧ Below w.heap.size w w' := by
  have HC := Lib.hid (fun W => op_compare a o W)
  unfold opV at *
  have HS := Lib.hid (show eqOp o a = (cmpOp a o == 0) from rfl)
  have hB0 := (Below.refl w.heap.size w).alloc (Nat.le_refl _) (.cells #[.string a.name, .int .i64 a.typ, .int .i64 a.prec] 34)
  have m0 := (World.grownBy_alloc w (.cells #[.string a.name, .int .i64 a.typ, .int .i64 a.prec] 34) none).cell n0 (by simp)
  have m1 := (World.grownBy_alloc w (.cells #[.string a.name, .int .i64 a.typ, .int .i64 a.prec] 34) none).cell n1 (by simp)
  have m2 := (World.grownBy_alloc w (.cells #[.string a.name, .int .i64 a.typ, .int .i64 a.prec] 34) none).cell n2 (by simp)
  generalize cmpOp a o = c at *
  go_enter Try.func42, Try.ntmps42
  go_wp2_with fail
  refine (HC.out _).mono ?_; rintro e w1 ⟨rfl, hB1⟩
  go_wp2_with fail
  go_ret
  exact ⟨ret_bool HS.out.symm, hB0.trans (hB1.mono (by simp))⟩
set_option maxHeartbeats 1600000 in
theorem ops_index2 (A : Option Addr) (n cap : Nat) (l : List OpR) (g1 : Nat) (o : OpR) (w : World) (hn : n = l.length) (hm : n ≤ 400) (hp : OpsAt w A l) (n0 : w.cell? ⟨g1, 0, none⟩ = some (.string o.name)) (n1 : w.cell? ⟨g1, 1, none⟩ = some (.int .i64 o.typ)) (n2 : w.cell? ⟨g1, 2, none⟩ = some (.int .i64 o.prec)) (l1 : g1 < w.heap.size) :
    Calls Try.prog 57 #[.slice A n cap, .func (.func 42) #[] #[.pointer (some ⟨g1, 0, none⟩)]] w fun e w' => e = .returned (.int .i64 (idxI (eqOp o) l)) ∧ Below w.heap.size w w' := by
  have HN := Lib.hid hn
  have HP := Lib.hid hp
  clear hn hp
  go_enter Try.func57, Try.ntmps57
  go_wp2_with fail
  go_loopw [8] (fun i wr => ∃ k : Nat, k ≤ n ∧ i = .int .i64 k ∧ Below w.heap.size w wr ∧ Hid (∀ j (hj : j < l.length), j < k → eqOp o l[j] = false)) (fun i _ => n - (intOf i).toNat)
  case atStart => exact ⟨0, Nat.zero_le _, rfl, Below.refl _ _, fun j _ hj => absurd hj (by omega)⟩
  case round =>
    obtain ⟨k, hk, rfl, hB, HA⟩ := hrel
    by_cases hlt : k < n
    · have hbs := hB.size
      have hkl : k < l.length := by have := HN.out; omega
      obtain ⟨b, off, rfl, hb, c0, c1, c2⟩ := (HP.out.below hB) k hkl
      have HH := Lib.hid (fun h => idxI_hit (eqOp o) l k hkl h (fun j hj => HA.out j (by omega) hj))
      have HC := Lib.hid (set_1 l[k] o g1 wr ((hB.cell (p := ⟨g1, 0, none⟩) l1).trans n0) ((hB.cell (p := ⟨g1, 1, none⟩) l1).trans n1) ((hB.cell (p := ⟨g1, 2, none⟩) l1).trans n2) (Nat.lt_of_lt_of_le l1 hbs))
      have HR := Lib.hid (fun (h : eqOp o l[k] = false) => (show ∀ j (hj : j < l.length), j < k + 1 → eqOp o l[j] = false from fun j hj hjk => by
        rcases Nat.lt_or_ge j k with h' | h'
        · exact HA.out j hj h'
        · have : j = k := by omega
          subst this; exact h))
      generalize l[k] = a at *
      unfold opV at HC
      cases hi : eqOp o a
      · rw [hi] at HC
        have HI := Lib.hid hi
        clear hi
        go_wp2_with fail
        refine HC.out.mono ?_; rintro e w1 ⟨rfl, hB1⟩
        go_wp2_with fail
        go_roundw
        case rel => exact ⟨k + 1, by omega, by go_num, hB.trans (hB1.mono hbs), HR.out HI.out⟩
        case measure => simp [intOf] <;> omega
      · rw [hi] at HC
        have HI := Lib.hid hi
        clear hi
        go_wp2_with fail
        refine HC.out.mono ?_; rintro e w1 ⟨rfl, hB1⟩
        go_wp2_with fail
        go_ret
        exact ⟨ret_int (HH.out HI.out).symm, hB.trans (hB1.mono hbs)⟩
    · obtain rfl : k = n := by omega
      have HM := Lib.hid (idxI_miss (eqOp o) l (fun j hj => HA.out j hj (by have := HN.out; omega)))
      go_wp2_with fail
      go_ret
      exact ⟨ret_int HM.out.symm, hB⟩
theorem zero_len (k : Nat) : (Builtin.zeroCells (Value.agg #[.string ⟨#[]⟩, .int .i64 0, .int .i64 0]).cells k).toList.length = k * 3 := by
  rw [Array.length_toList, size_zeroCells]; rfl
theorem zero_size (k : Nat) : (Builtin.zeroCells (Value.agg #[.string ⟨#[]⟩, .int .i64 0, .int .i64 0]).cells k).size = k * 3 := by
  rw [size_zeroCells]; rfl
theorem zero_one (k : Nat) : ∀ u ∈ (Builtin.zeroCells (Value.agg #[.string ⟨#[]⟩, .int .i64 0, .int .i64 0]).cells k).toList, u.oneCell' = true := by
  intro u hu
  obtain ⟨j, hj, rfl⟩ := List.getElem_of_mem hu
  simp [Builtin.zeroCells, Value.cells]
  have : j % 3 = 0 ∨ j % 3 = 1 ∨ j % 3 = 2 := by omega
  rcases this with h | h | h <;> simp [h, Value.oneCell']
theorem at_clear {ops : Array Oper} {rest : List Oper} {a : Act} {Q : Exit → Act → World → Prop} {w : World} {d t p f x g} (h : wpList Try.prog ops Q (⟨d, .call { callee := .builtin .clear, args := x, argTypes := #[22] }, t, p, f, g⟩ :: rest) a w) : wpList Try.prog ops Q (⟨d, .call { callee := .builtin .clear, args := x, argTypes := #[22] }, t, p, f, g⟩ :: rest) a w := h
theorem wpList_clear_op {w : World} {ops : Array Oper} {rest : List Oper} {o : Oper} {a : Act} {Q : Exit → Act → World → Prop} (hgd : o.guard = none) (x : Operand)
    (ho : o.op = .call { callee := .builtin .clear, args := #[x], argTypes := #[22] })
    (base g n cap i z c : Nat) (L : List OpR) (hown : w.ownsRow base 34 3 (.slice (some ⟨g, 0, none⟩) n cap) n (opsCells L)) (hi : i < n) (hz : z = 0) (hx : a.eval x = .slice (some ⟨g, z + i * 3, none⟩) (n - i) c)
    (h : ∀ w', w'.ownsRow base 34 3 (.slice (some ⟨g, 0, none⟩) i cap) i (opsCells (L.take i)) → (∀ B w0, Below B w0 w → B ≤ base → Below B w0 w') → wpList Try.prog ops Q rest (a.put o.dst (.tuple #[])) w') : wpList Try.prog ops Q (o :: rest) a w := by
  subst hz
  rw [Nat.zero_add] at hx
  refine wpList_plain hgd fun K hK => ?_
  have hlen := own_len hown
  rcases hown.2 with ⟨hv, _⟩ | ⟨g', cap', cur, hv, hb, hg, hnc, hcm, hcs, htake⟩
  · cases hv
  · injection hv with h1 h2 h3
    injection h1 with h1
    injection h1 with h1 _ _
    subst h1; subst h3
    have hst := run_storeCells_at Try.prog g (i * 3) 34 (Builtin.zeroCells (Value.agg #[.string ⟨#[]⟩, .int .i64 0, .int .i64 0]).cells (n - i)).toList 0 cur w hg (by rw [zero_len, hcs]; omega) (zero_one _)
    rw [Nat.add_zero] at hst
    obtain ⟨m, hm⟩ : ∃ m, n - i = m + 1 := ⟨n - i - 1, by omega⟩
    have hrun : (Builtin.clear_ #[22] o.type #[.slice (some ⟨g, i * 3, none⟩) (n - i) c]).run Try.prog w = .ok (.tuple #[]) (w.setRow g (cur.toList.take (i * 3) ++ (Builtin.zeroCells (Value.agg #[.string ⟨#[]⟩, .int .i64 0, .int .i64 0]).cells (n - i)).toList ++ cur.toList.drop (i * 3 + (Builtin.zeroCells (Value.agg #[.string ⟨#[]⟩, .int .i64 0, .int .i64 0]).cells (n - i)).toList.length)).toArray) := by
      rw [hm] at hst ⊢
      simp [Builtin.clear_, run_underlying Try.underlying22, hst]
    unfold Oper.wp
    simp only [execOp, ho, resolve, invoke, builtin, Sem.run_bind, Sem.run_pure, Result.andThen_ok, List.map_toArray, List.map_cons, List.map_nil, hx, hrun]
    refine hK _ _ (h _ ⟨by rw [opsCells_len, List.length_take]; omega, .inr ⟨g, cap, _, rfl, hb, setRow_heap w g _ _ _ _ hg, by omega, hcm, ?_, ?_⟩⟩ fun B w0 hB hbb => below_setRow hB (Nat.le_trans hbb hb) _)
    · simp only [List.size_toArray, List.length_append, List.length_take, List.length_drop, Array.length_toList, zero_size, hcs]
      omega
    · rw [← opsCells_take, ← htake, List.take_take, List.take_append_of_le_length (by simp only [List.length_append, List.length_take, Array.length_toList, hcs]; omega), List.take_append_of_le_length (by simp only [List.length_take, Array.length_toList, hcs]; omega), List.take_take]
      congr 1; omega
set_option maxHeartbeats 3200000 in
theorem ops_delete (A : Option Addr) (n cap : Nat) (l : List OpR) (o : OpR) (g1 base : Nat) (w : World) (hm : n ≤ 400) (hown : w.ownsRow base 34 3 (.slice A n cap) n (opsCells l)) (hg1 : g1 < base) (hbw : base ≤ w.heap.size) (n0 : w.cell? ⟨g1, 0, none⟩ = some (.string o.name)) (n1 : w.cell? ⟨g1, 1, none⟩ = some (.int .i64 o.typ)) (n2 : w.cell? ⟨g1, 2, none⟩ = some (.int .i64 o.prec)) :
    Calls Try.prog 40 #[.slice A n cap, .func (.func 42) #[] #[.pointer (some ⟨g1, 0, none⟩)]] w fun e w' => ∃ n', e = .returned (.slice A n' cap) ∧ Below base w w' ∧ w'.ownsRow base 34 3 (.slice A n' cap) n' (opsCells (restL o l)) := by
  have hnl := own_len hown
  have HI := Lib.hid (ops_index2 A n cap l g1 o w hnl.symm hm (ops_own hown) n0 n1 n2 (by omega))
  by_cases hex : ∃ k, ∃ hk : k < l.length, eqOp o l[k] = true ∧ ∀ j (hj : j < k), eqOp o (l[j]'(by omega)) = false
  · obtain ⟨k, hkl, h1, h2⟩ := hex
    have HD := Lib.hid (Done.start (q := fun a => !eqOp o a) hkl (by simp [h1]) (fun j hj => by simp [h2 j hj]))
    rw [idxI_hit _ l k hkl h1 h2] at HI
    obtain ⟨g, cap', hAA⟩ := own_some hown (by omega)
    injection hAA with hA _ hc
    subst hA; subst hc
    have hcap : n ≤ cap ∧ cap ≤ maxLen := by
      rcases hown.2 with ⟨hv, _⟩ | ⟨g', cap', cur, hv, _, _, h5, h6, _⟩
      · cases hv
      · injection hv with _ _ h3; subst h3; exact ⟨h5, h6⟩
    have hgb : base ≤ g := (hown.lt g rfl).1
    obtain ⟨hcap1, hcap2⟩ := hcap
    unfold maxLen at hcap2
    have HO := Lib.hid hown
    have HNL := Lib.hid hnl
    have hkn : k < n := by omega
    clear hown h1 h2 hnl hkl
    obtain ⟨z, HZ⟩ : ∃ z, Hid (z = 0) := ⟨0, Lib.hid rfl⟩
    have HZ' := Lib.hid (show (⟨g, 0, none⟩ : Addr) = ⟨g, z, none⟩ by rw [HZ.out])
    rw [HZ'.out] at HI ⊢
    have HQ := Lib.hid (show restL o l = l.filter (fun a => !eqOp o a) from rfl)
    go_enter Try.func40, Try.ntmps40
    go_wp2_with fail
    refine HI.out.mono ?_; rintro e w1 ⟨rfl, hB1⟩
    have hkm : ((k : Int) == -1) = false := by rw [beq_eq_false_iff_ne]; omega
    go_wp2_with fail
    have hO1 := own_below HO.out hB1
    have hB1' := hB1.mono hbw
    have hw1 := hB1.size
    have HN1 := Lib.hid (⟨(hB1.cell (p := ⟨g1, 0, none⟩) (by show g1 < _; omega)).trans n0, (hB1.cell (p := ⟨g1, 1, none⟩) (by show g1 < _; omega)).trans n1, (hB1.cell (p := ⟨g1, 2, none⟩) (by show g1 < _; omega)).trans n2⟩ : w1.cell? ⟨g1, 0, none⟩ = some (.string o.name) ∧ w1.cell? ⟨g1, 1, none⟩ = some (.int .i64 o.typ) ∧ w1.cell? ⟨g1, 2, none⟩ = some (.int .i64 o.prec))
    clear n0 n1 n2
    go_loopw [5, 6] (fun vi vj wr => ∃ i j : Nat, vi = .int .i64 i ∧ vj = .int .i64 j ∧ Below base w wr ∧ w1.heap.size ≤ wr.heap.size ∧ Below base w1 wr ∧ Hid (∃ L, Done (fun a => !eqOp o a) l L i j ∧ wr.ownsRow base 34 3 (.slice (some ⟨g, 0, none⟩) n cap) n (opsCells L))) (fun _ vj _ => n - (intOf vj).toNat)
    case atStart => exact ⟨k, k + 1, rfl, by go_num, hB1', Nat.le_refl _, Below.refl _ _, l, HD.out, hO1⟩
    case round =>
      obtain ⟨i, j, rfl, rfl, hB, hsz, hBr, HL⟩ := hrel
      have hij : i < j ∧ j ≤ n := by
        obtain ⟨L, hd, _⟩ := HL.out
        have h1 := hd.le; have h2 := hd.jl; have h3 := HNL.out
        exact ⟨h1, by omega⟩
      obtain ⟨hij1, hij2⟩ := hij
      by_cases hlt : j < n
      · have hjl : j < l.length := by have := HNL.out; omega
        have HLJ : Hid (wr.cell? ⟨g, z + j * 3, none⟩ = some (.string l[j].name) ∧ wr.cell? ⟨g, z + j * 3 + 1, none⟩ = some (.int .i64 l[j].typ) ∧ wr.cell? ⟨g, z + j * 3 + 2, none⟩ = some (.int .i64 l[j].prec)) := by
          obtain ⟨L, hd, ho⟩ := HL.out
          have h5 : j < L.length := by rw [hd.len]; exact hjl
          have h6 := (own_in ho) j h5
          rw [hd.at hjl h5] at h6
          rw [HZ.out]
          exact Lib.hid h6
        have HC := Lib.hid (fun (W : World) (hW : Below base w1 W) (hs : w1.heap.size ≤ W.heap.size) => set_1 l[j] o g1 W ((hW.cell (p := ⟨g1, 0, none⟩) hg1).trans HN1.out.1) ((hW.cell (p := ⟨g1, 1, none⟩) hg1).trans HN1.out.2.1) ((hW.cell (p := ⟨g1, 2, none⟩) hg1).trans HN1.out.2.2) (by omega))
        have HY := Lib.hid (fun (h : eqOp o l[j] = false) => (show ∀ L, Done (fun a => !eqOp o a) l L i j → Done (fun a => !eqOp o a) l (L.set i l[j]) (i + 1) (j + 1) from fun L hd => hd.yes hjl (by simp [h])))
        have HX := Lib.hid (fun (h : eqOp o l[j] = true) => (show ∀ L, Done (fun a => !eqOp o a) l L i j → Done (fun a => !eqOp o a) l L i (j + 1) from fun L hd => hd.no hjl (by simp [h])))
        generalize l[j] = a at *
        unfold opV at HC
        obtain ⟨c0, c1, c2⟩ := HLJ.out
        have hgr : g < wr.heap.size := by obtain ⟨L, hd, ho⟩ := HL.out; exact (ho.lt g rfl).2
        have hbr : base ≤ wr.heap.size := by omega
        have hBx := (Below.refl wr.heap.size wr).alloc (Nat.le_refl _) (.cells #[.string a.name, .int .i64 a.typ, .int .i64 a.prec] 34)
        cases hi : eqOp o a
        · rw [hi] at HC
          have HI2 := Lib.hid hi
          clear hi
          go_wp2_with fail
          refine (HC.out _ (hBr.trans (hBx.mono hbr)) (Nat.le_trans hsz hBx.size)).mono ?_; rintro e w2 ⟨rfl, hB2⟩
          have x0 : w2.cell? ⟨wr.heap.size, 0, none⟩ = some (.string a.name) := (hB2.cell (p := ⟨_, _, none⟩) (by simp)).trans (World.cell?_alloc_new _ _ _ 0)
          have x1 : w2.cell? ⟨wr.heap.size, 1, none⟩ = some (.int .i64 a.typ) := (hB2.cell (p := ⟨_, _, none⟩) (by simp)).trans (World.cell?_alloc_new _ _ _ 1)
          have x2 : w2.cell? ⟨wr.heap.size, 2, none⟩ = some (.int .i64 a.prec) := (hB2.cell (p := ⟨_, _, none⟩) (by simp)).trans (World.cell?_alloc_new _ _ _ 2)
          have hB3 : Below wr.heap.size wr w2 := hBx.trans (hB2.mono (by simp))
          have HL2 : Hid (∃ L, Done (fun a => !eqOp o a) l L i j ∧ w2.ownsRow base 34 3 (.slice (some ⟨g, 0, none⟩) n cap) n (opsCells L)) := by
            obtain ⟨L, hd, ho⟩ := HL.out
            exact Lib.hid ⟨L, hd, own_below ho hB3⟩
          have hin : i < n := by omega
          have HYc : ∃ v0 v1 v2, w2.cell? ⟨g, z + i * 3, none⟩ = some v0 ∧ w2.cell? ⟨g, z + i * 3 + 1, none⟩ = some v1 ∧ w2.cell? ⟨g, z + i * 3 + 2, none⟩ = some v2 ∧ ∀ q, w2.frozen? ⟨g, q, none⟩ = false := by
            obtain ⟨L, hd, ho⟩ := HL2.out
            have h5 : i < L.length := by have := own_len ho; omega
            obtain ⟨h6, h7, h8⟩ := (own_in ho) i h5
            rw [HZ.out]
            exact ⟨_, _, _, h6, h7, h8, ho.frozenAt⟩
          obtain ⟨v0, v1, v2, y0, y1, y2, hfr⟩ := HYc
          go_wp2_with fail
          go_roundw
          case rel =>
            have hbx : Below base w2 (((w2.setCell ⟨g, z + i * 3, none⟩ (.string a.name)).setCell ⟨g, z + i * 3 + 1, none⟩ (.int .i64 a.typ)).setCell ⟨g, z + i * 3 + 2, none⟩ (.int .i64 a.prec)) := (((Below.refl base w2).setCell (p := ⟨_, _, none⟩) hgb _).setCell (p := ⟨_, _, none⟩) hgb _).setCell (p := ⟨_, _, none⟩) hgb _
            refine ⟨i + 1, j + 1, by go_num, by go_num, (hB.trans (hB3.mono hbr)).trans hbx, Nat.le_trans (Nat.le_trans hsz hB3.size) hbx.size, (hBr.trans (hB3.mono hbr)).trans hbx, ?_⟩
            obtain ⟨L, hd, ho⟩ := HL2.out
            refine Lib.hid ⟨L.set i a, HY.out HI2.out L hd, ?_⟩
            rw [HZ.out, Nat.zero_add]
            exact stored3 ho i a
          case measure => simp [intOf] <;> omega
        · rw [hi] at HC
          have HI2 := Lib.hid hi
          clear hi
          go_wp2_with fail
          refine (HC.out _ (hBr.trans (hBx.mono hbr)) (Nat.le_trans hsz hBx.size)).mono ?_; rintro e w2 ⟨rfl, hB2⟩
          have hB3 : Below wr.heap.size wr w2 := hBx.trans (hB2.mono (by simp))
          go_wp2_with fail
          go_roundw
          case rel =>
            refine ⟨i, j + 1, rfl, by go_num, hB.trans (hB3.mono hbr), Nat.le_trans hsz hB3.size, hBr.trans (hB3.mono hbr), ?_⟩
            obtain ⟨L, hd, ho⟩ := HL.out
            exact Lib.hid ⟨L, HX.out HI2.out L hd, own_below ho hB3⟩
          case measure => simp [intOf] <;> omega
      · have hjn : j = n := by omega
        subst hjn
        have hgr : g < wr.heap.size := by obtain ⟨L, hd, ho⟩ := HL.out; exact (ho.lt g rfl).2
        obtain ⟨L, HLL⟩ : ∃ L, Hid (Done (fun a => !eqOp o a) l L i j ∧ wr.ownsRow base 34 3 (.slice (some ⟨g, 0, none⟩) j cap) j (opsCells L)) := HL.out.imp fun _ h => Lib.hid h
        have hci : ¬ (cap = i) := by omega
        have hic : i ≤ cap := by omega
        have HLast : Hid (L.take i = restL o l) := by
          have hdl := HLL.out.1
          rw [← HNL.out] at hdl
          exact Lib.hid hdl.last
        go_wp2_with ((with_reducible refine at_clear ?_); refine wpList_clear_op rfl _ rfl base g _ cap i z _ L HLL.out.2 hij1 HZ.out rfl ?_; intro w2 ho2 hB2)
        rw [HLast.out] at ho2
        have HO2 := Lib.hid ho2
        clear ho2
        go_ret
        first | exact ⟨i, rfl, hB2 _ _ hB (Nat.le_refl _), by rw [← HZ'.out]; exact HO2.out⟩ | exact ⟨hB2 _ _ hB (Nat.le_refl _), by rw [← HZ'.out]; exact HO2.out⟩
  · have hno : ∀ j (hj : j < l.length), eqOp o l[j] = false := by
      intro j
      induction j using Nat.strongRecOn with
      | ind j ih =>
        intro hj
        cases hc : eqOp o l[j] with
        | false => rfl
        | true => exact absurd ⟨j, hj, hc, fun i hi => ih i hi (by omega)⟩ hex
    rw [idxI_miss _ l hno] at HI
    have HR := Lib.hid (show restL o l = l from List.filter_eq_self.2 fun a ha => by
      obtain ⟨j, hj, rfl⟩ := List.getElem_of_mem ha
      simp [hno j hj])
    have HO := Lib.hid hown
    clear hno hex hown hnl
    go_enter Try.func40, Try.ntmps40
    go_wp2_with fail
    refine HI.out.mono ?_; rintro e w1 ⟨rfl, hB1⟩
    have HO1 := Lib.hid (own_below HO.out hB1)
    go_wp2_with fail
    go_ret
    first | exact ⟨n, rfl, hB1.mono hbw, by rw [HR.out]; exact HO1.out⟩ | exact ⟨hB1.mono hbw, by rw [HR.out]; exact HO1.out⟩
end Go.Proofs.Yteddbeifnolklaa
