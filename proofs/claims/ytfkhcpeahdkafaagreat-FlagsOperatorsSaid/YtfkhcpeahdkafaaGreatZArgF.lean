/- Flags and terms that came in, opened. -/
import Derived.Test.YtfkhcpeahdkafaaGreatZArgO
import Derived.Test.YtfkhcpeahdkafaaGreatH31
namespace Hb
open Go Go.RowKit
def nodeFit (t : Tm) : Bool := decide (-9223372036854775808 ≤ t.num) && decide (t.num ≤ 9223372036854775807)
theorem nodeFit_iff (t : Tm) : nodeFit t = true ↔ -9223372036854775808 ≤ t.num ∧ t.num ≤ 9223372036854775807 := by unfold nodeFit; rw [Bool.and_eq_true, decide_eq_true_iff, decide_eq_true_iff]
end Hb
namespace Go.Proofs.YtfkhcpeahdkafaaGreat
set_option maxRecDepth 100000
open Go.ChangeShapes Go.WideShapes Go.ChangeAt Go.RowKit Hb
theorem tm_cells4 : Tryz.prog.cellsOf 26 = 4 := by kernel_rfl
theorem i64_cells4 : Tryz.prog.cellsOf 2 = 1 := by kernel_rfl
theorem tms_cells4 : Tryz.prog.cellsOf 24 = 1 := by kernel_rfl
/-- The cells of a term. -/
def tmC (t : Tm) (A : Option Addr) (cap : Nat) : List Value := [.int .i64 t.kind, .int .i64 t.num, .string t.name, .slice A t.args.length cap]
theorem spot_none {W : World} {a : Addr} {v : Value} (h : W.cell? a = some v) : a = ⟨a.block, a.off, none⟩ := by
  have hs : a.spot = none := by
    unfold World.cell? at h
    split at h
    · split at h
      · cases h
      · rename_i hh; simpa using hh
    · cases h
  obtain ⟨x, y, z⟩ := a
  exact congrArg (Addr.mk x y) hs
section
variable {H : Type} {enc : TypeId × Value → H} {W : World} {held : Bool} {sp : Nat → Bool}
/-- A row of terms, given how a term is opened. -/
theorem tms_trod {base : Nat} (fuel : Nat) (ih : ∀ m, m < fuel → ∀ (cs : List Value) x, DataW.trod enc Tryz.prog W base sp held m 26 cs = some x → ∃ t A cap, cs = tmC t A cap ∧ TmsAt W.heap.size W A t.args ∧ Tm.All (fun x => nodeFit x = true) t)
    {cs : List Value} {x : DataW H × List MemPlace} (h : DataW.trod enc Tryz.prog W base sp held fuel 24 cs = some x) : ∃ A n cap l, cs = [.slice A n cap] ∧ n = l.length ∧ n ≤ maxLen ∧ TmsAt W.heap.size W A l ∧ (n = 0 → (Value.slice A n cap = .slice none 0 0 ∨ ∃ ad, A = some ad)) ∧ ∀ t ∈ l, Tm.All (fun x => nodeFit x = true) t := by
  rcases DataW.trod_slice Tryz.underlying24 h with ⟨hcs, _⟩ | ⟨a, len, cap, elems, rest, n, hfu, hcs, _, _, hl, hm, hlen, hel, _, _⟩
  · exact ⟨none, 0, 0, [], hcs, rfl, by decide, TmsK.nil, fun _ => .inl rfl, fun t ht => by cases ht⟩
  · have key : ∀ i, i < len → ∃ r : Tm × Option Addr × Nat, (W.cell? (a.add (i * 4)) = some (.int .i64 r.1.kind) ∧ W.cell? ((a.add (i * 4)).add 1) = some (.int .i64 r.1.num) ∧ W.cell? ((a.add (i * 4)).add 2) = some (.string r.1.name) ∧ W.cell? ((a.add (i * 4)).add 3) = some (.slice r.2.1 r.1.args.length r.2.2)) ∧ TmsAt W.heap.size W r.2.1 r.1.args ∧ Tm.All (fun x => nodeFit x = true) r.1 := fun i hi => by
      have h1 := hel i hi
      rw [List.getElem?_eq_getElem (by omega), Option.bind_eq_some_iff] at h1
      obtain ⟨cs', h1, h2⟩ := h1
      rw [tm_cells4] at h1
      obtain ⟨_, hlen4, hget⟩ := World.cells?_some h1
      obtain ⟨t, A, c, rfl, ht, hf⟩ := ih n (by omega) cs' _ h2
      have q0 := hget 0 (by omega)
      have q1 := hget 1 (by omega)
      have q2 := hget 2 (by omega)
      have q3 := hget 3 (by omega)
      exact ⟨(t, A, c), ⟨by simpa [Addr.add, tmC] using q0, by simpa [tmC] using q1, by simpa [tmC] using q2, by simpa [tmC] using q3⟩, ht, hf⟩
    haveI : Inhabited (Tm × Option Addr × Nat) := ⟨(tm0, none, 0)⟩
    obtain ⟨F, hF⟩ := Go.Deep.choose_lt key
    refine ⟨some a, len, cap, (List.range len).map fun i => (F i).1, hcs, by simp, by omega, ?_, fun _ => .inr ⟨a, rfl⟩, fun t ht => ?_⟩
    · refine .mk _ _ (fun j => (F j).2.1) (fun j => (F j).2.2) (by simp; omega) (fun j hj => ?_) (fun j hj => ?_)
      · have hj' : j < len := by simpa using hj
        have ha : a = ⟨a.block, a.off, none⟩ := by
          have h0 := (hF 0 (by omega)).1.1
          have : a.add (0 * 4) = a := by simp [Addr.add]
          rw [this] at h0
          exact spot_none h0
        obtain ⟨⟨c0, c1, c2, c3⟩, _⟩ := hF j hj'
        have e0 : a.add (j * 4) = ⟨a.block, a.off + j * 4, none⟩ := by
          unfold Addr.add
          split
          · rename_i h0; rw [h0, Nat.add_zero]; exact ha
          · rfl
        have e1 : (a.add (j * 4)).add 1 = ⟨a.block, a.off + j * 4 + 1, none⟩ := by rw [e0]; rfl
        have e2 : (a.add (j * 4)).add 2 = ⟨a.block, a.off + j * 4 + 2, none⟩ := by rw [e0]; rfl
        have e3 : (a.add (j * 4)).add 3 = ⟨a.block, a.off + j * 4 + 3, none⟩ := by rw [e0]; rfl
        rw [e3] at c3
        rw [e2] at c2
        rw [e1] at c1
        rw [e0] at c0
        refine ⟨a.block, a.off, by rw [← ha], World.block_lt_of_cell? W ⟨a.block, a.off + j * 4, none⟩ c0, ?_, ?_, ?_, ?_⟩
        · simpa using c0
        · simpa using c1
        · simpa using c2
        · simpa using c3
      · have hj' : j < len := by simpa using hj
        have := (hF j hj').2.1
        unfold TmsAt at this
        simpa using this
    · rw [List.mem_map] at ht
      obtain ⟨j, hj, rfl⟩ := ht
      exact (hF j (List.mem_range.1 hj)).2.2
theorem term_trod {base : Nat} : ∀ (fuel : Nat) (cs : List Value) x, DataW.trod enc Tryz.prog W base sp held fuel 26 cs = some x → ∃ t A cap, cs = tmC t A cap ∧ TmsAt W.heap.size W A t.args ∧ Tm.All (fun x => nodeFit x = true) t := by
  intro fuel
  induction fuel using Nat.strongRecOn with
  | ind fuel ih =>
    intro cs x h
    obtain ⟨xs, n, hfu, _, hl, hlen, hf⟩ := DataW.trod_struct Tryz.underlying26 h
    rw [tm_cells4] at hl
    match cs, hl, xs, hlen with
    | [c0, c1, c2, c3], _, [y0, y1, y2, y3], _ =>
      have g0 := hf 0 _ rfl
      have g1 := hf 1 _ rfl
      have g2 := hf 2 _ rfl
      have g3 := hf 3 _ rfl
      obtain ⟨n0, e0, _, _⟩ := DataW.trod_int Tryz.underlying3 g0
      obtain ⟨n1, e1, _, z1⟩ := DataW.trod_int Tryz.underlying2 g1
      obtain ⟨s2, e2, _, z2⟩ := DataW.trod_string Tryz.underlying9 g2
      obtain ⟨A, len, cap, l, e3, hll, _, hT, _, hfl⟩ := tms_trod n (fun m hm => ih m (by omega)) g3
      have u0 : [c0] = [Value.int IntKind.i64 n0] := by rw [← e0]; show _ = List.take (Tryz.prog.cellsOf 3) _; rw [int_cells3]; rfl
      have u1 : [c1] = [Value.int IntKind.i64 n1] := by rw [← e1]; show _ = List.take (Tryz.prog.cellsOf 2) _; rw [i64_cells4]; rfl
      have u2 : [c2] = [Value.string s2] := by rw [← e2]; show _ = List.take (Tryz.prog.cellsOf 9) _; rw [str_cells3]; rfl
      have u3 : [c3] = [Value.slice A len cap] := by rw [← e3]; show _ = List.take (Tryz.prog.cellsOf 24) _; rw [tms_cells4]; rfl
      injection u0 with u0 _
      injection u1 with u1 _
      injection u2 with u2 _
      injection u3 with u3 _
      subst u0 u1 u2 u3 hll
      refine ⟨.mk n0 n1 s2 l, A, cap, rfl, hT, .mk _ ?_ hfl⟩
      exact (nodeFit_iff _).2 (wf_range z1)
end
theorem open_term {H : Type} {enc : TypeId × Value → H} {W : World} {r : Reach} {b0 : Nat} {v : Value} {d : DataW H} {ps : List MemPlace} (hval : Value.okWide Tryz.prog W r b0 26 v)
    (h : DataW.Trod enc Tryz.prog W 0 (fun _ => true) true 26 v d ps) : ∃ t A cap, v = tmV t A cap ∧ TmsAt W.heap.size W A t.args ∧ Tm.All (fun x => nodeFit x = true) t := by
  obtain ⟨cs, rfl, _⟩ := okWide_struct Tryz.underlying26 hval
  obtain ⟨fuel, hf⟩ := h
  obtain ⟨t, A, cap, ho, hT, hfit⟩ := term_trod _ _ _ hf
  refine ⟨t, A, cap, ?_, hT, hfit⟩
  have : cs = (tmC t A cap).toArray := by
    apply Array.ext'
    simpa [Value.cells] using ho
  rw [this]
  rfl
theorem fl_cells4 : Tryz.prog.cellsOf 23 = 4 := by kernel_rfl
theorem bool_cells4 : Tryz.prog.cellsOf 4 = 1 := by kernel_rfl
theorem open_flags {H : Type} {enc : TypeId × Value → H} {W : World} {r : Reach} {b0 : Nat} {v : Value} {d : DataW H} {ps : List MemPlace} (hval : Value.okWide Tryz.prog W r b0 23 v)
    (h : DataW.Trod enc Tryz.prog W 0 (fun _ => true) true 23 v d ps) : ∃ f : FlR, v = flV f := by
  obtain ⟨cs, rfl, _⟩ := okWide_struct Tryz.underlying23 hval
  obtain ⟨fuel, hf⟩ := h
  have key : ∀ (l : List Value) x, DataW.trod enc Tryz.prog W 0 (fun _ => true) true fuel 23 l = some x → ∃ f : FlR, l = [.int .i64 f.q, .int .i64 f.u, .bool f.c, .bool f.d] := fun l x h => by
    obtain ⟨xs, n, hfu, _, hl, hlen, hf⟩ := DataW.trod_struct Tryz.underlying23 h
    rw [fl_cells4] at hl
    match l, hl, xs, hlen with
    | [c0, c1, c2, c3], _, [y0, y1, y2, y3], _ =>
      have g0 := hf 0 _ rfl
      have g1 := hf 1 _ rfl
      have g2 := hf 2 _ rfl
      have g3 := hf 3 _ rfl
      obtain ⟨n0, e0, _, _⟩ := DataW.trod_int Tryz.underlying3 g0
      obtain ⟨n1, e1, _, _⟩ := DataW.trod_int Tryz.underlying3 g1
      obtain ⟨b2, e2, _⟩ := DataW.trod_bool Tryz.underlying4 g2
      obtain ⟨b3, e3, _⟩ := DataW.trod_bool Tryz.underlying4 g3
      have u0 : [c0] = [Value.int IntKind.i64 n0] := by rw [← e0]; show _ = List.take (Tryz.prog.cellsOf 3) _; rw [int_cells3]; rfl
      have u1 : [c1] = [Value.int IntKind.i64 n1] := by rw [← e1]; show _ = List.take (Tryz.prog.cellsOf 3) _; rw [int_cells3]; rfl
      have u2 : [c2] = [Value.bool b2] := by rw [← e2]; show _ = List.take (Tryz.prog.cellsOf 4) _; rw [bool_cells4]; rfl
      have u3 : [c3] = [Value.bool b3] := by rw [← e3]; show _ = List.take (Tryz.prog.cellsOf 4) _; rw [bool_cells4]; rfl
      injection u0 with u0 _
      injection u1 with u1 _
      injection u2 with u2 _
      injection u3 with u3 _
      subst u0 u1 u2 u3
      exact ⟨⟨n0, n1, b2, b3⟩, rfl⟩
  obtain ⟨o, ho⟩ := key _ _ hf
  refine ⟨o, ?_⟩
  have : cs = #[.int .i64 o.q, .int .i64 o.u, .bool o.c, .bool o.d] := by
    apply Array.ext'
    simpa [Value.cells] using ho
  rw [this]
  rfl
end Go.Proofs.YtfkhcpeahdkafaaGreat
