/- Operators: Prefix, Infix, Postfix, Sides and the law's find. -/
import Derived.Test.YteddbeifnolklaaOp6
namespace Hb
open Go Go.RowKit
/-- A result of three cells, of the call's own. -/
structure R3 (w0 w : World) : Prop where
  bel : Below w0.heap.size w0 w
  lt : w0.heap.size < w.heap.size
  r0 : ∃ v, w.cell? ⟨w0.heap.size, 0, none⟩ = some v
  r1 : ∃ v, w.cell? ⟨w0.heap.size, 1, none⟩ = some v
  r2 : ∃ v, w.cell? ⟨w0.heap.size, 2, none⟩ = some v
  fr : ∀ o, w.frozen? ⟨w0.heap.size, o, none⟩ = false
theorem R3.call {w0 w w' : World} (h : R3 w0 w) (hB : Below w.heap.size w w') : R3 w0 w' where
  bel := h.bel.trans (hB.mono (Nat.le_of_lt h.lt))
  lt := Nat.lt_of_lt_of_le h.lt hB.size
  r0 := h.r0.imp fun _ hh => (hB.cell (p := ⟨_, _, none⟩) h.lt).trans hh
  r1 := h.r1.imp fun _ hh => (hB.cell (p := ⟨_, _, none⟩) h.lt).trans hh
  r2 := h.r2.imp fun _ hh => (hB.cell (p := ⟨_, _, none⟩) h.lt).trans hh
  fr := fun o => (hB.frozen (p := ⟨_, o, none⟩) h.lt).trans (h.fr o)
theorem R3.start (w : World) (e : TypeId) : R3 w (w.alloc (.cells #[.string ⟨#[]⟩, .int .i64 0, .int .i64 0] e)) where
  bel := (Below.refl _ _).alloc (Nat.le_refl _) _
  lt := by simp
  r0 := ⟨_, World.cell?_alloc_new _ _ _ 0⟩
  r1 := ⟨_, World.cell?_alloc_new _ _ _ 1⟩
  r2 := ⟨_, World.cell?_alloc_new _ _ _ 2⟩
  fr := fun o => World.frozen?_alloc_new _ _ _ _
theorem R3.put {w0 w : World} (h : R3 w0 w) (x y z : Value) : Below w0.heap.size w0 (((w.setCell ⟨w0.heap.size, 0, none⟩ x).setCell ⟨w0.heap.size, 1, none⟩ y).setCell ⟨w0.heap.size, 2, none⟩ z) :=
  ((h.bel.setCell (p := ⟨_, _, none⟩) (Nat.le_refl _) _).setCell (p := ⟨_, _, none⟩) (Nat.le_refl _) _).setCell (p := ⟨_, _, none⟩) (Nat.le_refl _) _
/-- The sides of an operator. -/
def sideL (o : OpR) : Int := if o.prec < 1 ∨ 1200 < o.prec then 0 else if o.typ = 1 ∨ o.typ = 2 ∨ o.typ = 6 then o.prec - 1 else if o.typ = 3 ∨ o.typ = 7 then o.prec else 0
def sideR (o : OpR) : Int := if o.prec < 1 ∨ 1200 < o.prec then 0 else if o.typ = 1 ∨ o.typ = 3 ∨ o.typ = 5 then o.prec - 1 else if o.typ = 2 ∨ o.typ = 4 then o.prec else 0
end Hb
namespace Go.Proofs.Yteddbeifnolklaa
open Go.RowKit Hb
set_option maxRecDepth 100000
set_option maxHeartbeats 1600000 in
theorem ops_prefix (A : Option Addr) (n cap : Nat) (l : List OpR) (name : ByteArray) (w : World) (hn : n = l.length) (hm : n ≤ 400) (hp : OpsAt w A l) :
    Calls Try.prog 22 #[.slice A n cap, .string name] w fun e w' => e = .returned (.tuple #[opV ((findR l name 1).getD op0), .bool (findR l name 1).isSome]) ∧ Below w.heap.size w w' := by
  have hX := R3.start w 34
  have HV := Lib.hid (ops_find A n cap l name 1 _ hn hm (hp.below hX.bel))
  clear hn hp
  generalize (findR l name 1).getD op0 = r at *
  generalize (findR l name 1).isSome = b at *
  unfold opV at *
  go_enter Try.func22, Try.ntmps22
  go_wp2_with fail
  refine HV.out.mono ?_; rintro e w1 ⟨rfl, hB1⟩
  have hY := hX.call hB1
  obtain ⟨hb, lt, ⟨v0, r0⟩, ⟨v1, r1⟩, ⟨v2, r2⟩, fr⟩ := id hY
  have fr0 := fr 0
  go_wp2_with fail
  exact bodyPost_ret (v := .tuple #[.agg #[.string r.name, .int .i64 r.typ, .int .i64 r.prec], .bool b]) (by simp [results, Try.results22, go_sem, r0, r1, r2]) rfl ⟨rfl, hY.put _ _ _⟩
set_option maxHeartbeats 1600000 in
theorem ops_infix (A : Option Addr) (n cap : Nat) (l : List OpR) (name : ByteArray) (w : World) (hn : n = l.length) (hm : n ≤ 400) (hp : OpsAt w A l) :
    Calls Try.prog 23 #[.slice A n cap, .string name] w fun e w' => e = .returned (.tuple #[opV ((findR l name 2).getD op0), .bool (findR l name 2).isSome]) ∧ Below w.heap.size w w' := by
  have hX := R3.start w 34
  have HV := Lib.hid (ops_find A n cap l name 2 _ hn hm (hp.below hX.bel))
  clear hn hp
  generalize (findR l name 2).getD op0 = r at *
  generalize (findR l name 2).isSome = b at *
  unfold opV at *
  go_enter Try.func23, Try.ntmps23
  go_wp2_with fail
  refine HV.out.mono ?_; rintro e w1 ⟨rfl, hB1⟩
  have hY := hX.call hB1
  obtain ⟨hb, lt, ⟨v0, r0⟩, ⟨v1, r1⟩, ⟨v2, r2⟩, fr⟩ := id hY
  have fr0 := fr 0
  go_wp2_with fail
  exact bodyPost_ret (v := .tuple #[.agg #[.string r.name, .int .i64 r.typ, .int .i64 r.prec], .bool b]) (by simp [results, Try.results23, go_sem, r0, r1, r2]) rfl ⟨rfl, hY.put _ _ _⟩
set_option maxHeartbeats 1600000 in
theorem ops_postfix (A : Option Addr) (n cap : Nat) (l : List OpR) (name : ByteArray) (w : World) (hn : n = l.length) (hm : n ≤ 400) (hp : OpsAt w A l) :
    Calls Try.prog 24 #[.slice A n cap, .string name] w fun e w' => e = .returned (.tuple #[opV ((findR l name 3).getD op0), .bool (findR l name 3).isSome]) ∧ Below w.heap.size w w' := by
  have hX := R3.start w 34
  have HV := Lib.hid (ops_find A n cap l name 3 _ hn hm (hp.below hX.bel))
  clear hn hp
  generalize (findR l name 3).getD op0 = r at *
  generalize (findR l name 3).isSome = b at *
  unfold opV at *
  go_enter Try.func24, Try.ntmps24
  go_wp2_with fail
  refine HV.out.mono ?_; rintro e w1 ⟨rfl, hB1⟩
  have hY := hX.call hB1
  obtain ⟨hb, lt, ⟨v0, r0⟩, ⟨v1, r1⟩, ⟨v2, r2⟩, fr⟩ := id hY
  have fr0 := fr 0
  go_wp2_with fail
  exact bodyPost_ret (v := .tuple #[.agg #[.string r.name, .int .i64 r.typ, .int .i64 r.prec], .bool b]) (by simp [results, Try.results24, go_sem, r0, r1, r2]) rfl ⟨rfl, hY.put _ _ _⟩
set_option maxHeartbeats 1600000 in
theorem law_find (A : Option Addr) (n cap : Nat) (l : List OpR) (c : Int) (name : ByteArray) (w : World) (hn : n = l.length) (hm : n ≤ 400) (hp : OpsAt w A l) (hc : 1 ≤ c ∧ c ≤ 3) :
    Calls Try.prog 20 #[.slice A n cap, .int .i64 c, .string name] w fun e w' => e = .returned (.tuple #[opV ((findR l name c).getD op0), .bool (findR l name c).isSome]) ∧ Below w.heap.size w w' := by
  have hX := R3.start w 34
  have hc3 : c = 1 ∨ c = 2 ∨ c = 3 := by omega
  clear hc
  rcases hc3 with rfl | rfl | rfl
  · have HV := Lib.hid (ops_prefix A n cap l name _ hn hm (hp.below hX.bel))
    clear hn hp
    generalize (findR l name 1).getD op0 = r at *
    generalize (findR l name 1).isSome = b at *
    unfold opV at *
    go_enter Try.func20, Try.ntmps20
    go_wp2_with fail
    refine HV.out.mono ?_; rintro e w1 ⟨rfl, hB1⟩
    have hY := hX.call hB1
    obtain ⟨hb, lt, ⟨v0, r0⟩, ⟨v1, r1⟩, ⟨v2, r2⟩, fr⟩ := id hY
    have fr0 := fr 0
    go_wp2_with fail
    exact bodyPost_ret (v := .tuple #[.agg #[.string r.name, .int .i64 r.typ, .int .i64 r.prec], .bool b]) (by simp [results, Try.results20, go_sem, r0, r1, r2]) rfl ⟨rfl, hY.put _ _ _⟩
  · have HV := Lib.hid (ops_infix A n cap l name _ hn hm (hp.below hX.bel))
    clear hn hp
    generalize (findR l name 2).getD op0 = r at *
    generalize (findR l name 2).isSome = b at *
    unfold opV at *
    go_enter Try.func20, Try.ntmps20
    go_wp2_with fail
    refine HV.out.mono ?_; rintro e w1 ⟨rfl, hB1⟩
    have hY := hX.call hB1
    obtain ⟨hb, lt, ⟨v0, r0⟩, ⟨v1, r1⟩, ⟨v2, r2⟩, fr⟩ := id hY
    have fr0 := fr 0
    go_wp2_with fail
    exact bodyPost_ret (v := .tuple #[.agg #[.string r.name, .int .i64 r.typ, .int .i64 r.prec], .bool b]) (by simp [results, Try.results20, go_sem, r0, r1, r2]) rfl ⟨rfl, hY.put _ _ _⟩
  · have HV := Lib.hid (ops_postfix A n cap l name _ hn hm (hp.below hX.bel))
    clear hn hp
    generalize (findR l name 3).getD op0 = r at *
    generalize (findR l name 3).isSome = b at *
    unfold opV at *
    go_enter Try.func20, Try.ntmps20
    go_wp2_with fail
    refine HV.out.mono ?_; rintro e w1 ⟨rfl, hB1⟩
    have hY := hX.call hB1
    obtain ⟨hb, lt, ⟨v0, r0⟩, ⟨v1, r1⟩, ⟨v2, r2⟩, fr⟩ := id hY
    have fr0 := fr 0
    go_wp2_with fail
    exact bodyPost_ret (v := .tuple #[.agg #[.string r.name, .int .i64 r.typ, .int .i64 r.prec], .bool b]) (by simp [results, Try.results20, go_sem, r0, r1, r2]) rfl ⟨rfl, hY.put _ _ _⟩
set_option maxHeartbeats 1600000 in
theorem ops_sides (o : OpR) (w : World) (hp : -9223372036854775808 ≤ o.prec ∧ o.prec ≤ 9223372036854775807) : Calls Try.prog 21 #[opV o] w fun e w' => e = .returned (.tuple #[.int .i64 (sideL o), .int .i64 (sideR o)]) ∧ Below w.heap.size w w' := by
  unfold opV
  generalize hL : sideL o = x
  generalize hR : sideR o = y
  have HL := Lib.hid hL
  have HR := Lib.hid hR
  clear hL hR
  obtain ⟨name, typ, prec⟩ := o
  have hd : prec < 1 ∨ 1200 < prec ∨ ((1 ≤ prec ∧ prec ≤ 1200) ∧ (typ = 1 ∨ typ = 2 ∨ typ = 3 ∨ typ = 4 ∨ typ = 5 ∨ typ = 6 ∨ typ = 7 ∨ (¬typ = 1 ∧ ¬typ = 2 ∧ ¬typ = 3 ∧ ¬typ = 4 ∧ ¬typ = 5 ∧ ¬typ = 6 ∧ ¬typ = 7))) := by omega
  rcases hd with h | h | ⟨⟨h1, h2⟩, rfl | rfl | rfl | rfl | rfl | rfl | rfl | ⟨n1, n2, n3, n4, n5, n6, n7⟩⟩
  all_goals
    go_enter Try.func21, Try.ntmps21
    go_wp2_with fail
    try (go_quiet (fail); go_wp2_with fail)
    refine bodyPost_ret (v := .tuple #[.int .i64 x, .int .i64 y]) ?_ rfl ⟨rfl, by first | exact (Below.refl _ _).alloc (Nat.le_refl _) _ | exact bl_drewN ((Below.refl _ _).alloc (Nat.le_refl _) _) _⟩
    have hl := HL.out
    have hr := HR.out
    unfold sideL at hl
    unfold sideR at hr
    simp [results, Try.results21, go_sem]
    grind
end Go.Proofs.Yteddbeifnolklaa
