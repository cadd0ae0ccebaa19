/- What the listed variables give a walk: the tables of math/bits and strconv. Writing: the world of a call; rows of pieces; name, between, bracket, digit. Writing: place, term, argument, row. Writing: term, argument, row. -/
import Derived.Test.YtgapnafkelokaaaGreatDoorRows
import Derived.Test.YtgapnafkelokaaaGreatDoorTie
import Derived.Test.YtgapnafkelokaaaGreatDoorCards
import Derived.ProofKit
import Derived.LaidMore
import Derived.OpenShut
import Derived.Stop.Joined
import Derived.Stop.LaidErr
import Derived.Lib.LaidTab
import Derived.Lib.ItoaNum
import Derived.Lib.SmallJoins
import Derived.SevenTiedAt
import Derived.Test.YtgapnafkelokaaaGreatDoorM04
import Derived.Test.YtgapnafkelokaaaGreatDoorM06
import Derived.Test.YtgapnafkelokaaaGreatDoorM07
import Derived.Test.YtgapnafkelokaaaGreatDoorM08
import Derived.Test.YtgapnafkelokaaaGreatDoorM03
namespace Go.Proofs.YtgapnafkelokaaaGreatDoor
open Go.ChangeShapes Go.WideShapes Go.ChangeAt Go.RowKit
set_option maxRecDepth 100000
theorem ownDoor : ownKnob Tryz.prog.godebug = none := by kernel_rfl
theorem laidOutDoor : laidOutB Tryz.prog = true := by kernel_rfl
/-- The variables that the rows list. -/
def laid3 : List (String × DataW Unit) := [("math/bits.deBruijn32tab", Rows.laid_math_bits_deBruijn32tab), ("math/bits.deBruijn64tab", Rows.laid_math_bits_deBruijn64tab), ("internal/strconv.uint64pow10", Rows.laid_internal_strconv_uint64pow10)]
theorem door_met (os : Os) (args : Array Value) : laidMetH Tryz.prog laid3 ((World.doorLaid Tryz.prog 400 os).forCall (fun _ _ => 0) ⟨#[], args, []⟩).memory :=
  laidMetH_of_parts3 (fuel := 8) (laidMet_of_run' 8 (by kernel_rfl) (by kernel_rfl)) (by kernel_rfl) (by kernel_rfl)
def tab64 : List Int := [0, 1, 56, 2, 57, 49, 28, 3, 61, 58, 42, 50, 38, 29, 17, 4, 62, 47, 59, 36, 45, 43, 51, 22, 53, 39, 33, 30, 24, 18, 12, 5, 63, 55, 48, 27, 60, 41, 37, 16, 46, 35, 44, 21, 52, 32, 23, 11, 54, 26, 40, 15, 34, 20, 31, 10, 25, 14, 19, 9, 13, 8, 7, 6]
theorem g64 : Tryz.prog.globalNamed "math/bits.deBruijn64tab" = some 3 := by kernel_rfl
theorem g64t : (Tryz.prog.globals[3]?).map (·.type) = some 235 := by kernel_rfl
theorem g10 : Tryz.prog.globalNamed "internal/strconv.uint64pow10" = some 0 := by kernel_rfl
theorem g10t : (Tryz.prog.globals[0]?).map (·.type) = some 218 := by kernel_rfl
theorem c8 : Tryz.prog.cellsOf 5 = 1 := by kernel_rfl
theorem c64a : Tryz.prog.cellsOf 235 = 64 := by kernel_rfl
theorem cu64 : Tryz.prog.cellsOf 197 = 1 := by kernel_rfl
theorem c20a : Tryz.prog.cellsOf 218 = 20 := by kernel_rfl
/-- What a walk may know of the world in which a call begins. -/
structure DoorOk (W : World) : Prop where
  lt : 3 < W.heap.size
  c15 : W.cell? ⟨3, 15, none⟩ = some (.int .u8 4)
  pow : Lib.TabIs Tryz.prog W "internal/strconv.uint64pow10" .u64 Lib.pow10Tab
theorem door_of {W : World} (h : laidMetH Tryz.prog laid3 W) : DoorOk W := by
  rw [MakeChecks.laidMetH_plain _ _ _ (by kernel_rfl)] at h
  have h1 := laidMet.tail h
  have h2 := laidMet.tail h1
  have hT := Lib.tabIs_of_head (k := .u8) (zs := tab64) g64 g64t Tryz.underlying235 Tryz.underlying5 c8 c64a h1
  have hP := Lib.tabIs_of_head (k := .u64) (zs := Lib.pow10Tab) g10 g10t Tryz.underlying218 Tryz.underlying197 cu64 c20a h2
  have hc : W.cell? ⟨3, 15, none⟩ = some (.int .u8 4) := hT.cell g64 15 (by decide)
  exact ⟨World.block_lt_of_cell? W ⟨_, 15, none⟩ hc, hc, hP⟩
theorem DoorOk.below {W W' : World} (h : DoorOk W) (hB : Below W.heap.size W W') : DoorOk W' :=
  ⟨Nat.lt_of_lt_of_le h.lt hB.size, (hB.cell (p := ⟨_, 15, none⟩) h.lt).trans h.c15, Joins.tab_stays g10 h.pow hB (Nat.le_refl _)⟩
end Go.Proofs.YtgapnafkelokaaaGreatDoor
namespace Hb
open Go Go.RowKit
/-- A row of strings of the call's own. -/
def OwnS (e : TypeId) (b : Nat) (w : World) (v : Value) (l : List ByteArray) : Prop := w.ownsRow b e 1 v l.length (l.map Value.string)
theorem OwnS.below {e b : Nat} {w w' : World} {v : Value} {l : List ByteArray} (h : OwnS e b w v l) (hB : Below w.heap.size w w') : OwnS e b w' v l := own_below h hB
theorem OwnS.mono {e b c : Nat} {w : World} {v : Value} {l : List ByteArray} (h : OwnS e b w v l) (hc : c ≤ b) : OwnS e c w v l := by
  refine ⟨h.1, ?_⟩
  rcases h.2 with hn | ⟨g, cap, cur, hv, hbg, rest⟩
  · exact .inl hn
  · exact .inr ⟨g, cap, cur, hv, Nat.le_trans hc hbg, rest⟩
theorem OwnS.strs {e b : Nat} {w : World} {v : Value} {l : List ByteArray} (h : OwnS e b w v l) : ∃ A cap, v = .slice A l.length cap ∧ StrsAt w A l ∧ HeadOk A l.length cap := by
  obtain ⟨A, cap, hv, hs⟩ := strs_own h
  refine ⟨A, cap, hv, hs, fun h0 => ?_⟩
  rcases h.2 with ⟨hv', _⟩ | ⟨g, c, cur, hv', _⟩
  · rw [hv] at hv'; injection hv' with h1 _ h3; exact .inl ⟨h1, h3⟩
  · rw [hv] at hv'; injection hv' with h1 _ _; exact .inr ⟨_, h1⟩
theorem OwnS.src {e b : Nat} {w : World} {v : Value} {l : List ByteArray} (h : OwnS e b w v l) : ∃ A cap, v = .slice A l.length cap ∧ SrcRow w A l.length cap 1 (l.map Value.string) := by
  obtain ⟨A, cap, hv, hs, hh⟩ := h.strs
  exact ⟨A, cap, hv, strs_src rfl hs hh⟩
theorem OwnS.one (e : TypeId) (w : World) (s : ByteArray) : OwnS e w.heap.size (w.alloc (.cells #[.string s] e)) (.slice (some ⟨w.heap.size, 0, none⟩) 1 1) [s] :=
  ⟨by simp, .inr ⟨w.heap.size, 1, #[.string s], rfl, Nat.le_refl _, by show (w.heap.push _)[w.heap.size]? = _; simp, Nat.le_refl _, by unfold maxLen; omega, by simp, by simp⟩⟩
theorem strs_one (l : List ByteArray) : ∀ u ∈ l.map Value.string, u.oneCell' = true := by
  intro u hu; rw [List.mem_map] at hu; obtain ⟨s, _, rfl⟩ := hu; rfl
theorem SrcRow.far {w w' : World} {A : Option Addr} {m cap size : Nat} {ys : List Value} (h : SrcRow w A m cap size ys) (hA : ∀ ad, A = some ad → ad.block < w.heap.size) (hB : Below w.heap.size w w') : SrcRow w' A m cap size ys := by
  rcases h with h | ⟨ad, rfl, hl, hc⟩
  · exact .inl h
  · refine .inr ⟨ad, rfl, hl, fun j u hu => ?_⟩
    have : (ad.add j).block = ad.block := by unfold Addr.add; split <;> rfl
    rw [hB.cell (p := ad.add j) (by rw [this]; exact hA ad rfl)]; exact hc j u hu
/-- An append of a row to a row of the call's own: where the new one lies. -/
theorem wpList_append_rowA {P : Program} {w : World} {ops : Array Oper} {rest : List Oper} {o : Oper} {a : Act} {Q : Exit → Act → World → Prop} (hgd : o.guard = none) (s x : Operand) (t e : TypeId)
    (ho : o.op = .call { callee := .builtin .append, args := #[s, x], argTypes := #[t, t] }) (ht : P.underlying t = some (.slice e)) (z : Value) (size bytes : Nat)
    (hinfo : (P.info? e).map (fun i => (i.zero, i.size, i.bytes)) = some (some z, size, bytes)) (hzs : z.cells.size = size) (hsz : 0 < size)
    (base : Nat) (v : Value) (n : Nat) (xs : List Value) (hs : a.eval s = v) (hown : w.ownsRow base e size v n xs) (A : Option Addr) (m cap : Nat) (ys : List Value) (hx : a.eval x = .slice A m cap) (hrow : SrcRow w A m cap size ys)
    (h1 : ∀ u ∈ ys, u.oneCell' = true) (h63 : n + m ≤ 4611686018427387904) (hbytes : (n + m) * bytes ≤ 140737488355328) (hbase : base ≤ w.heap.size)
    (h : ∀ v' w', w'.ownsRow base e size v' (n + m) (xs ++ ys) → w.grownBy w' v.ownBlock → (v'.ownBlock = v.ownBlock ∨ v'.ownBlock = some w.heap.size) → wpList P ops Q rest (a.put o.dst v') w') : wpList P ops Q (o :: rest) a w := by
  obtain ⟨i, hi, hz0, hz1, hz2⟩ := info_parts hinfo
  rcases hrow with ⟨rfl, rfl, rfl, rfl⟩ | ⟨ad, rfl, hl, hc⟩
  · refine wpList_append_own_none hgd s x t ho base e i size ht hi v n xs hs hown hx ?_
    exact h v w (by rw [Nat.add_zero, List.append_nil]; exact hown) ⟨rfl, rfl, rfl, Nat.le_refl _, fun _ _ _ => rfl⟩ (.inl rfl)
  · refine wpList_append_own_at _ hgd s x t ho base e i z size bytes ht hi hz0 hz1 hz2 hzs hsz v n xs hs hown ad m cap ys hx hl hc h1 (by unfold maxLen; omega) hbytes hbase ?_
    intro v' w' ho' hg' _ hat
    exact h v' w' ho' hg' hat
theorem grown_below {B : Nat} {W w w' : World} {e size n : Nat} {v : Value} {xs : List Value} (hown : w.ownsRow B e size v n xs) (hB : Below B W w) (hg : w.grownBy w' v.ownBlock) (hb : B ≤ w.heap.size) : Below B W w' :=
  hB.grown hg hb fun k hk => (hown.lt k hk).1
end Hb
namespace Go.Proofs.YtgapnafkelokaaaGreatDoor
open Go.RowKit Hb
set_option maxRecDepth 100000
theorem at_appSS {ops : Array Oper} {rest : List Oper} {a : Act} {Q : Exit → Act → World → Prop} {w : World} {d t p f x g} (h : wpList Tryz.prog ops Q (⟨d, .call { callee := .builtin .append, args := x, argTypes := #[28, 28] }, t, p, f, g⟩ :: rest) a w) : wpList Tryz.prog ops Q (⟨d, .call { callee := .builtin .append, args := x, argTypes := #[28, 28] }, t, p, f, g⟩ :: rest) a w := h
/-- What a call of the writer may lean on. -/
structure Env (T : List OpR) (TA : Option Addr) (TN TC : Nat) (w : World) : Prop where
  door : DoorOk w
  tab : Tab w TA TN TC T
  few : TN ≤ 400
theorem Env.below {T : List OpR} {TA : Option Addr} {TN TC : Nat} {w w' : World} (h : Env T TA TN TC w) (hB : Below w.heap.size w w') : Env T TA TN TC w' := ⟨h.door.below hB, h.tab.below hB, h.few⟩
theorem DoorOk.tab15 {w : World} (h : DoorOk w) : Tab15 w := ⟨h.lt, h.c15⟩
def wrV (o : WO) (TA : Option Addr) (TN TC : Nat) : Value := .agg #[.bool o.q, .bool o.ig, .bool o.nu, .slice TA TN TC]
theorem fmt10 (n : Int) (h0 : -9223372036854775808 ≤ n) (h1 : n ≤ 9223372036854775807) (w : World) (hD : DoorOk w) :
    Calls Tryz.prog 81 #[.int .i64 n, .int .i64 10] w fun e w' => e = .returned (.string (fmI n)) ∧ Below w.heap.size w w' :=
  (Tryz.strconv_FormatInt_10 n h0 h1 w hD.pow).mono fun _ _ ⟨he, k, os, hw⟩ => ⟨he, by rw [hw]; exact bl_grow w k os⟩
set_option maxHeartbeats 800000 in
theorem w_name (o : WO) (TA : Option Addr) (TN TC : Nat) (s : ByteArray) (w : World) (hs : s.size ≤ 1000000) (hD : DoorOk w) :
    Calls Tryz.prog 83 #[wrV o TA TN TC, .string s] w fun e w' => e = .returned (.string (nmW o s)) ∧ Below w.heap.size w w' := by
  have hB0 := (Below.refl w.heap.size w).alloc (Nat.le_refl _) (.cells #[.bool o.q, .bool o.ig, .bool o.nu, .slice TA TN TC] 67)
  have HA := Lib.hid (fun W (h : Below w.heap.size w W) => sp_atom s W hs (hD.tab15.below h))
  unfold wrV
  cases hq : o.q
  · have HN := Lib.hid (show nmW o s = s by unfold nmW; rw [hq]; rfl)
    rw [hq] at hB0
    clear hq
    go_enter Tryz.func83, Tryz.ntmps83
    go_wp2_with fail
    go_ret
    exact ⟨ret_str HN.out.symm, hB0⟩
  · have HN := Lib.hid (show nmW o s = ⟨(atomN s.data.toList).toArray⟩ by unfold nmW; rw [hq]; rfl)
    rw [hq] at hB0
    clear hq
    go_enter Tryz.func83, Tryz.ntmps83
    go_wp2_with fail
    refine (HA.out _ hB0).mono ?_; rintro e w1 ⟨rfl, hB1⟩
    have hB2 := hB0.trans (hB1.mono hB0.size)
    go_wp2_with fail
    go_ret
    exact ⟨ret_str HN.out.symm, hB2⟩
set_option maxHeartbeats 800000 in
theorem w_between (x y : ByteArray) (A : Option Addr) (n cap : Nat) (l : List ByteArray) (w : World) (hn : n = l.length) (hm : n ≤ 100000) (hS : StrsAt w A l) (hH : HeadOk A n cap) :
    Calls Tryz.prog 118 #[.string x, .slice A n cap, .string y] w fun e w' => ∃ v, e = .returned v ∧ Below w.heap.size w w' ∧ OwnS 9 w.heap.size w' v (x :: (l ++ [y])) := by
  have H1 := Lib.hid (OwnS.one 9 w x)
  have hB1 := (Below.refl w.heap.size w).alloc (Nat.le_refl _) (.cells #[.string x] 9)
  have hsz1 := hB1.size
  have HSRC := Lib.hid (strs_src hn (hS.below hB1) hH)
  have HN := Lib.hid hn
  clear hS hH hn
  go_enter Tryz.func118, Tryz.ntmps118
  go_wp2_with (first
    | ((with_reducible refine at_appSS ?_); refine wpList_append_row rfl _ _ 28 9 rfl Tryz.underlying28 _ 1 16 infoStr rfl (by decide) w.heap.size _ _ _ rfl H1.out A n cap _ rfl HSRC.out (strs_one _) (by simp; omega) (by simp; omega) hsz1 w hB1 ?_; intro v2 w2 ho2 hB2 hg2; have HO2 := Lib.hid ho2; have hs2 := hB2.size; clear ho2)
    | ((with_reducible refine at_appSS ?_); refine wpList_append_one rfl _ _ 28 9 rfl Tryz.underlying28 _ 1 16 infoStr rfl (by decide) w.heap.size _ _ _ rfl w2 HO2.out #[.string y] rfl (by simp [Value.oneCell']) rfl rfl (by simp; omega) (by simp; omega) hs2 ?_; intro v3 w3 ho3 hB3 hg3))
  go_ret
  refine ⟨v3, rfl, hB2.trans hB3, ?_⟩
  unfold OwnS
  have e1 : (x :: (l ++ [y])).length = [x].length + n + 1 := by rw [HN.out]; simp; omega
  have e2 : (x :: (l ++ [y])).map Value.string = [x].map Value.string ++ l.map Value.string ++ #[Value.string y].toList := by simp
  rw [e1, e2]; exact ho3
set_option maxHeartbeats 800000 in
theorem w_bracket (b : Bool) (v : Value) (base : Nat) (l : List ByteArray) (w : World) (hm : l.length ≤ 100000) (hO : OwnS 9 base w v l) (hb : base ≤ w.heap.size) :
    Calls Tryz.prog 82 #[v, .bool b] w fun e w' => ∃ v', e = .returned v' ∧ Below w.heap.size w w' ∧ OwnS 9 base w' v' (brk l b) := by
  obtain ⟨A, cap, rfl, hS, hH⟩ := hO.strs
  have HO := Lib.hid hO
  have HBT := Lib.hid (w_between (s1 40) (s1 41) A l.length cap l w rfl hm hS hH)
  clear hO hS hH
  unfold s1 at HBT
  generalize l.length = n at *
  cases b
  · go_enter Tryz.func82, Tryz.ntmps82
    go_wp2_with fail
    go_ret
    exact ⟨_, rfl, Below.refl _ _, HO.out⟩
  · go_enter Tryz.func82, Tryz.ntmps82
    go_wp2_with fail
    refine HBT.out.mono ?_; rintro e w1 ⟨v1, rfl, hB1, hO1⟩
    have HO1 := Lib.hid hO1
    clear hO1
    go_wp2_with fail
    go_ret
    exact ⟨v1, rfl, hB1, HO1.out.mono hb⟩
set_option maxHeartbeats 800000 in
theorem w_digit (s : ByteArray) (i : Nat) (w : World) (_hs : s.size ≤ maxLen) (_hi : i ≤ 1) :
    Calls Tryz.prog 173 #[.string s, .int .i64 i] w fun e w' => e = .returned (.bool (digW s i)) ∧ w = w' := by
  unfold maxLen at _hs
  by_cases h : i < s.size
  · have hb := bAt_mk s i h
    have h0 := bAt_lo s.data.toList i
    have h1 := bAt_hi s.data.toList i
    have HD := Lib.hid (show digW s i = (decide (48 ≤ bAt s.data.toList i) && decide (bAt s.data.toList i ≤ 57)) by unfold digW; rw [decide_eq_true h, Bool.true_and])
    generalize bAt s.data.toList i = c at *
    go_enter Tryz.func173, Tryz.ntmps173
    go_wp2_with fail
    all_goals go_ret
    all_goals exact ⟨ret_bool (by rw [HD.out]; grind), rfl⟩
  · have HD := Lib.hid (show digW s i = false by unfold digW; rw [decide_eq_false h, Bool.false_and])
    go_enter Tryz.func173, Tryz.ntmps173
    go_wp2_with fail
    go_ret
    exact ⟨ret_bool HD.out.symm, rfl⟩
end Go.Proofs.YtgapnafkelokaaaGreatDoor
namespace Hb
open Go Go.RowKit
theorem size_mk' (l : List UInt8) : (⟨l.toArray⟩ : ByteArray).size = l.length := by simp [ByteArray.size]
/-- The numbers are Go's. -/
def nodeFit (t : Tm) : Bool := decide (-9223372036854775808 ≤ t.num) && decide (t.num ≤ 9223372036854775807)
theorem nodeFit_iff (t : Tm) : nodeFit t = true ↔ -9223372036854775808 ≤ t.num ∧ t.num ≤ 9223372036854775807 := by unfold nodeFit; rw [Bool.and_eq_true, decide_eq_true_iff, decide_eq_true_iff]
theorem nodeOk_kind {t : Tm} (h : nodeOk t = true) : t.kind = 0 ∨ t.kind = 1 ∨ t.kind = 2 ∨ t.kind = 3 := by unfold nodeOk at h; grind
theorem nodeOk_name {t : Tm} (h : nodeOk t = true) : t.name.size ≤ 100 := by
  unfold nodeOk at h
  have hz : t.name.toList = [] → t.name.size ≤ 100 := fun e => by
    rw [tl_data] at e
    have := congrArg List.length e
    rw [size_data, List.length_nil] at this
    omega
  grind
theorem nodeOk_args {t : Tm} (h : nodeOk t = true) : t.args.length ≤ 8 := by unfold nodeOk at h; grind
theorem fmI_size (n : Int) (h0 : -9223372036854775808 ≤ n) (h1 : n ≤ 9223372036854775807) : (fmI n).size ≤ 21 := by
  have key : ∀ u : Nat, u < 18446744073709551616 → (Lib.decDigits u).length ≤ 20 := fun u hu => by
    rw [Lib.decDigits_length]
    rcases Nat.eq_zero_or_pos u with rfl | hp
    · rw [Lib.nDigits_small (by decide)]; decide
    · obtain ⟨e, h⟩ := Lib.numDigits_eq u hp hu
      rw [← e]; split <;> omega
  unfold fmI Lib.itoa
  rw [size_mk']
  split
  · have := key n.natAbs (by omega); rw [List.length_cons]; omega
  · have := key n.toNat (by omega); omega
/-- Boxes: the writer's, a term's. -/
structure WBox (w : World) (g : Nat) (o : WO) (TA : Option Addr) (TN TC : Nat) : Prop where
  lt : g < w.heap.size
  c0 : w.cell? ⟨g, 0, none⟩ = some (.bool o.q)
  c1 : w.cell? ⟨g, 1, none⟩ = some (.bool o.ig)
  c2 : w.cell? ⟨g, 2, none⟩ = some (.bool o.nu)
  c3 : w.cell? ⟨g, 3, none⟩ = some (.slice TA TN TC)
theorem WBox.call {w w' : World} {g : Nat} {o : WO} {TA : Option Addr} {TN TC : Nat} (h : WBox w g o TA TN TC) (hB : Below w.heap.size w w') : WBox w' g o TA TN TC :=
  ⟨Nat.lt_of_lt_of_le h.lt hB.size, (hB.cell (p := ⟨_, _, none⟩) h.lt).trans h.c0, (hB.cell (p := ⟨_, _, none⟩) h.lt).trans h.c1, (hB.cell (p := ⟨_, _, none⟩) h.lt).trans h.c2, (hB.cell (p := ⟨_, _, none⟩) h.lt).trans h.c3⟩
structure TBx (w : World) (g : Nat) (t : Tm) (A : Option Addr) (cap : Nat) : Prop where
  lt : g < w.heap.size
  c0 : w.cell? ⟨g, 0, none⟩ = some (.int .i64 t.kind)
  c1 : w.cell? ⟨g, 1, none⟩ = some (.int .i64 t.num)
  c2 : w.cell? ⟨g, 2, none⟩ = some (.string t.name)
  c3 : w.cell? ⟨g, 3, none⟩ = some (.slice A t.args.length cap)
theorem TBx.call {w w' : World} {g : Nat} {t : Tm} {A : Option Addr} {cap : Nat} (h : TBx w g t A cap) (hB : Below w.heap.size w w') : TBx w' g t A cap :=
  ⟨Nat.lt_of_lt_of_le h.lt hB.size, (hB.cell (p := ⟨_, _, none⟩) h.lt).trans h.c0, (hB.cell (p := ⟨_, _, none⟩) h.lt).trans h.c1, (hB.cell (p := ⟨_, _, none⟩) h.lt).trans h.c2, (hB.cell (p := ⟨_, _, none⟩) h.lt).trans h.c3⟩
/-- The first two boxes of a method of the writer. -/
structure Fr2 (w0 w : World) (o : WO) (TA : Option Addr) (TN TC : Nat) (t : Tm) (A : Option Addr) (cap : Nat) : Prop where
  bel : Below w0.heap.size w0 w
  wb : WBox w w0.heap.size o TA TN TC
  tb : TBx w (w0.heap.size + 1) t A cap
theorem Fr2.call {w0 w w' : World} {o : WO} {TA : Option Addr} {TN TC : Nat} {t : Tm} {A : Option Addr} {cap : Nat} (h : Fr2 w0 w o TA TN TC t A cap) (hB : Below w.heap.size w w') : Fr2 w0 w' o TA TN TC t A cap :=
  ⟨h.bel.trans (hB.mono h.bel.size), h.wb.call hB, h.tb.call hB⟩
theorem Fr2.start (w : World) (o : WO) (TA : Option Addr) (TN TC : Nat) (t : Tm) (A : Option Addr) (cap LN : Nat) (e1 e2 : TypeId) (hL : LN = t.args.length) :
    Fr2 w ((w.alloc (.cells #[.bool o.q, .bool o.ig, .bool o.nu, .slice TA TN TC] e1)).alloc (.cells #[.int .i64 t.kind, .int .i64 t.num, .string t.name, .slice A LN cap] e2)) o TA TN TC t A cap := by
  obtain ⟨W1, hW1⟩ : ∃ W1, W1 = w.alloc (.cells #[.bool o.q, .bool o.ig, .bool o.nu, .slice TA TN TC] e1) := ⟨_, rfl⟩
  rw [← hW1]
  have s1 : W1.heap.size = w.heap.size + 1 := by rw [hW1]; simp
  have hB1 : Below w.heap.size w W1 := by rw [hW1]; exact (Below.refl _ _).alloc (Nat.le_refl _) _
  have hB2 : Below W1.heap.size W1 (W1.alloc (.cells #[.int .i64 t.kind, .int .i64 t.num, .string t.name, .slice A LN cap] e2)) := (Below.refl _ _).alloc (Nat.le_refl _) _
  have a : ∀ j, W1.cell? ⟨w.heap.size, j, none⟩ = (#[.bool o.q, .bool o.ig, .bool o.nu, .slice TA TN TC] : Array Value)[j]? := fun j => by rw [hW1]; exact World.cell?_alloc_new _ _ _ j
  have b : ∀ j, (W1.alloc (.cells #[.int .i64 t.kind, .int .i64 t.num, .string t.name, .slice A LN cap] e2)).cell? ⟨w.heap.size + 1, j, none⟩ = (#[.int .i64 t.kind, .int .i64 t.num, .string t.name, .slice A LN cap] : Array Value)[j]? := fun j => by
    have := World.cell?_alloc_new W1 #[.int .i64 t.kind, .int .i64 t.num, .string t.name, .slice A LN cap] e2 j
    rw [s1] at this; exact this
  exact ⟨hB1.trans (hB2.mono (by omega)), WBox.call ⟨by omega, a 0, a 1, a 2, a 3⟩ hB2, ⟨by simp; omega, b 0, b 1, b 2, by rw [← hL]; exact b 3⟩⟩
end Hb
namespace Go.Proofs.YtgapnafkelokaaaGreatDoor
open Go.RowKit Hb
set_option maxRecDepth 100000
section
variable (o : WO) (T : List OpR) (TA : Option Addr) (TN TC : Nat) (S : Tm → WR)
/-- A structure is written as S says. -/
def SOK (t : Tm) : Prop := ∀ (A : Option Addr) (cap : Nat) (w : World), Env T TA TN TC w → TmsAt w.heap.size w A t.args →
  Calls Tryz.prog 85 #[wrV o TA TN TC, tmV t A cap] w fun e w' => ∃ A' n' c', e = .returned (.agg #[.slice A' n' c', .string (S t).2.name, .int .i64 (S t).2.typ, .int .i64 (S t).2.prec]) ∧ Below w.heap.size w w' ∧ OwnS 9 w.heap.size w' (.slice A' n' c') (S t).1
/-- A term is written in a place as S says. -/
def POK (t : Tm) : Prop := ∀ (max : Int) (opd : Bool) (A : Option Addr) (cap : Nat) (w : World), Env T TA TN TC w → TmsAt w.heap.size w A t.args →
  Calls Tryz.prog 58 #[wrV o TA TN TC, tmV t A cap, .int .i64 max, .bool opd] w fun e w' => ∃ v, e = .returned v ∧ Below w.heap.size w w' ∧ OwnS 9 w.heap.size w' v (placeW o T S t max opd)
end
set_option maxHeartbeats 3200000 in
theorem w_place (o : WO) (T : List OpR) (TA : Option Addr) (TN TC : Nat) (S : Tm → WR) (t : Tm) (hnode : nodeOk t = true) (hnum : nodeFit t = true) (hS : t.kind = 3 → SOK o T TA TN TC S t) (hlen : (S t).1.length ≤ 90000) : POK o T TA TN TC S t := by
  intro max opd A cap w hE hT
  obtain ⟨LN, HL⟩ : ∃ LN, Hid (LN = t.args.length) := ⟨_, Lib.hid rfl⟩
  have HX := Lib.hid (Fr2.start w o TA TN TC t A cap LN 67 24 HL.out)
  have HBX := HX.out.bel
  have hsz := HBX.size
  have HF := Lib.hid (fun W (h : Below w.heap.size w W) => fmt10 t.num ((nodeFit_iff t).1 hnum).1 ((nodeFit_iff t).1 hnum).2 W (hE.door.below h))
  have hfl := fmI_size t.num ((nodeFit_iff t).1 hnum).1 ((nodeFit_iff t).1 hnum).2
  have HN := Lib.hid (fun W (h : Below w.heap.size w W) => w_name o TA TN TC t.name W (by have := nodeOk_name hnode; omega) (hE.door.below h))
  have HIS := Lib.hid (fun W (h : Below w.heap.size w W) => ops_is TA TN TC T t.name W hE.tab.len hE.few (hE.tab.below h).ops)
  have HSS := Lib.hid (fun (h3 : t.kind = 3) W (h : Below w.heap.size w W) => hS h3 A cap W (hE.below h) ((hT.keep h).mono h.size))
  have HKD := Lib.hid (nodeOk_kind hnode)
  have HP := Lib.hid (show placeW o T S t max opd = if t.kind = 0 then [s1 95 ++ fmI t.num] else if t.kind = 1 then [fmI t.num] else if t.kind = 2 then brk [nmW o t.name] (opd && isAny T t.name) else brk (S t).1 (decide (max < (S t).2.prec)) from rfl)
  have HK := Lib.hid hlen
  clear hE hT hnode hnum hS hlen
  unfold tmV wrV at *
  rw [← HL.out] at HSS ⊢
  rcases HKD.out with hk | hk | hk | hk
  · have HP2 := Lib.hid (show placeW o T S t max opd = [s1 95 ++ fmI t.num] by rw [HP.out, if_pos hk])
    have hb : (t.kind == 0) = true := by simp [hk]
    have HO1 := Lib.hid (fun W => OwnS.one 9 W (s1 95 ++ fmI t.num))
    unfold s1 at HO1
    clear HP HKD HSS HIS HN hk HL
    go_enter Tryz.func58, Tryz.ntmps58
    go_wp2_with fail
    refine (HF.out _ HBX).mono ?_; rintro e w1 ⟨rfl, hB1⟩
    have hB2 := HBX.trans (hB1.mono hsz)
    go_wp2_with fail
    go_ret
    exact ⟨_, rfl, hB2.alloc hB2.size _, by rw [HP2.out]; exact (HO1.out _).mono hB2.size⟩
  · have h0 : ¬ t.kind = 0 := by omega
    have HP2 := Lib.hid (show placeW o T S t max opd = [fmI t.num] by rw [HP.out, if_neg h0, if_pos hk])
    have hb0 : (t.kind == 0) = false := by simp [hk]
    have hb : (t.kind == 1) = true := by simp [hk]
    have HO1 := Lib.hid (fun W => OwnS.one 9 W (fmI t.num))
    clear HP HKD HSS HIS HN hk HL h0
    go_enter Tryz.func58, Tryz.ntmps58
    go_wp2_with fail
    refine (HF.out _ HBX).mono ?_; rintro e w1 ⟨rfl, hB1⟩
    have hB2 := HBX.trans (hB1.mono hsz)
    go_wp2_with fail
    go_ret
    exact ⟨_, rfl, hB2.alloc hB2.size _, by rw [HP2.out]; exact (HO1.out _).mono hB2.size⟩
  · have h0 : ¬ t.kind = 0 := by omega
    have h1 : ¬ t.kind = 1 := by omega
    have HP2 := Lib.hid (show placeW o T S t max opd = brk [nmW o t.name] (opd && isAny T t.name) by rw [HP.out, if_neg h0, if_neg h1, if_pos hk])
    have hb0 : (t.kind == 0) = false := by simp [hk]
    have hb1 : (t.kind == 1) = false := by simp [hk]
    have hb : (t.kind == 2) = true := by simp [hk]
    have HO1 := Lib.hid (fun W => OwnS.one 9 W (nmW o t.name))
    clear HP HKD HSS HF hk HL h0 h1 HO1
    cases opd
    · have HP3 := Lib.hid (show placeW o T S t max false = [nmW o t.name] by rw [HP2.out]; rfl)
      go_enter Tryz.func58, Tryz.ntmps58
      go_wp2_with fail
      refine (HN.out _ HBX).mono ?_; rintro e w1 ⟨rfl, hB1⟩
      have hB2 := HBX.trans (hB1.mono hsz)
      have hO1 := OwnS.one 9 w1 (nmW o t.name)
      have hBR := w_bracket false _ w1.heap.size [nmW o t.name] _ (by simp) hO1 (by simp)
      have hB3 := hB2.alloc hB2.size (.cells #[.string (nmW o t.name)] 9)
      go_wp2_with fail
      refine hBR.mono ?_; rintro e w2 ⟨v2, rfl, hB4, hO2⟩
      have hB5 := hB3.trans (hB4.mono hB3.size)
      go_wp2_with fail
      go_ret
      exact ⟨v2, rfl, hB5, by rw [HP3.out]; exact hO2.mono hB2.size⟩
    · have HP3 := Lib.hid (show placeW o T S t max true = brk [nmW o t.name] (isAny T t.name) by rw [HP2.out, Bool.true_and])
      have HIQ : Hid (isAny T t.name = (opsValid T && T.any (isNm t.name))) := Lib.hid rfl
      rw [← HIQ.out] at HIS
      go_enter Tryz.func58, Tryz.ntmps58
      go_wp2_with fail
      refine (HN.out _ HBX).mono ?_; rintro e w1 ⟨rfl, hB1⟩
      have hB2 := HBX.trans (hB1.mono hsz)
      have hO1 := OwnS.one 9 w1 (nmW o t.name)
      have hB3 := hB2.alloc hB2.size (.cells #[.string (nmW o t.name)] 9)
      have hX3 := (HX.out.call hB1).call ((Below.refl _ _).alloc (Nat.le_refl _) (.cells #[.string (nmW o t.name)] 9))
      have x1 := hX3.wb.c3
      have x2 := hX3.tb.c2
      go_wp2_with fail
      refine (HIS.out _ hB3).mono ?_; rintro e w2 ⟨rfl, hB4⟩
      have hB5 := hB3.trans (hB4.mono hB3.size)
      have hO2 := hO1.below hB4
      have hBR := w_bracket (isAny T t.name) _ w1.heap.size [nmW o t.name] _ (by simp) hO2 (by have := hB4.size; simp at this; omega)
      go_wp2_with fail
      refine hBR.mono ?_; rintro e w3 ⟨v3, rfl, hB6, hO3⟩
      have hB7 := hB5.trans (hB6.mono hB5.size)
      go_wp2_with fail
      go_ret
      exact ⟨v3, rfl, hB7, by rw [HP3.out]; exact hO3.mono hB2.size⟩
  · have h0 : ¬ t.kind = 0 := by omega
    have h1 : ¬ t.kind = 1 := by omega
    have h2 : ¬ t.kind = 2 := by omega
    have HP2 := Lib.hid (show placeW o T S t max opd = brk (S t).1 (decide (max < (S t).2.prec)) by rw [HP.out, if_neg h0, if_neg h1, if_neg h2])
    have hb0 : (t.kind == 0) = false := by simp [hk]
    have hb1 : (t.kind == 1) = false := by simp [hk]
    have hb : (t.kind == 2) = false := by simp [hk]
    have HS3 := Lib.hid (HSS.out hk _ HBX)
    clear HP HKD HSS HF hk HL h0 h1 h2 HN HIS
    go_enter Tryz.func58, Tryz.ntmps58
    go_wp2_with fail
    refine HS3.out.mono ?_; rintro e w1 ⟨A1, n1, c1, rfl, hB1, hO1⟩
    have hB2 := HBX.trans (hB1.mono hsz)
    have hB3 := hB2.alloc hB2.size (.cells #[.slice A1 n1 c1, .string (S t).2.name, .int .i64 (S t).2.typ, .int .i64 (S t).2.prec] 138)
    have hO2 := hO1.below ((Below.refl _ _).alloc (Nat.le_refl _) (.cells #[.slice A1 n1 c1, .string (S t).2.name, .int .i64 (S t).2.typ, .int .i64 (S t).2.prec] 138))
    have hBR := w_bracket (decide (max < (S t).2.prec)) _ _ (S t).1 _ (by have := HK.out; omega) hO2 (Nat.le_trans hB1.size (by simp))
    go_wp2_with fail
    refine hBR.mono ?_; rintro e w2 ⟨v2, rfl, hB4, hO4⟩
    have hB5 := hB3.trans (hB4.mono hB3.size)
    go_wp2_with fail
    go_ret
    exact ⟨v2, rfl, hB5, by rw [HP2.out]; exact hO4.mono hsz⟩
end Go.Proofs.YtgapnafkelokaaaGreatDoor
namespace Hb
open Go Go.RowKit
theorem rowW_succ (P : Tm → List ByteArray) (l : List Tm) (k : Nat) (h : k < l.length) : rowW P (l.take (k + 1)) = rowW P (l.take k) ++ ((if k = 0 then [] else [s1 44]) ++ P l[k]) := by
  match l, k, h with
  | t :: l, 0, _ => simp [rowW]
  | t :: l, k + 1, h =>
    have hk : k < l.length := by simpa using h
    rw [if_neg (by omega)]
    show P t ++ (l.take (k + 1)).flatMap (fun u => s1 44 :: P u) = (P t ++ (l.take k).flatMap fun u => s1 44 :: P u) ++ ([s1 44] ++ P l[k])
    rw [List.take_succ_eq_append_getElem hk, List.flatMap_append]
    simp
theorem rowW_le (P : Tm → List ByteArray) (l : List Tm) : ∀ d k, (rowW P (l.take k)).length ≤ (rowW P (l.take (k + d))).length := by
  intro d
  induction d with
  | zero => intro k; exact Nat.le_refl _
  | succ d ih =>
    intro k
    refine Nat.le_trans (ih k) ?_
    rcases Nat.lt_or_ge (k + d) l.length with h | h
    · rw [show k + (d + 1) = (k + d) + 1 by omega, rowW_succ P l (k + d) h, List.length_append]; omega
    · rw [List.take_of_length_le h, List.take_of_length_le (by omega)]
      exact Nat.le_refl _
theorem rowW_take (P : Tm → List ByteArray) (l : List Tm) (k : Nat) : (rowW P (l.take k)).length ≤ (rowW P l).length := by
  rcases Nat.lt_or_ge k l.length with h | h
  · have := rowW_le P l (l.length - k) k
    rw [show k + (l.length - k) = l.length by omega, List.take_length] at this
    exact this
  · rw [List.take_of_length_le h]; exact Nat.le_refl _
end Hb
namespace Go.Proofs.YtgapnafkelokaaaGreatDoor
open Go.RowKit Hb
set_option maxRecDepth 100000
variable {o : WO} {T : List OpR} {TA : Option Addr} {TN TC : Nat} {S : Tm → WR}
/-- The writer's method argument, bound. -/
def argF (o : WO) (TA : Option Addr) (TN TC : Nat) : Value := .func (.func 134) #[wrV o TA TN TC] #[]
set_option maxHeartbeats 800000 in
theorem w_term {t : Tm} (hP : POK o T TA TN TC S t) (max : Int) (A : Option Addr) (cap : Nat) (w : World) (hE : Env T TA TN TC w) (hT : TmsAt w.heap.size w A t.args) :
    Calls Tryz.prog 32 #[wrV o TA TN TC, tmV t A cap, .int .i64 max] w fun e w' => ∃ v, e = .returned v ∧ Below w.heap.size w w' ∧ OwnS 9 w.heap.size w' v (placeW o T S t max false) := by
  have HX := Lib.hid (Fr2.start w o TA TN TC t A cap t.args.length 67 24 rfl)
  have HBX := HX.out.bel
  have hsz := HBX.size
  have HP := Lib.hid (hP max false A cap _ (hE.below HBX) ((hT.keep HBX).mono hsz))
  clear hE hT hP
  unfold tmV wrV at *
  generalize t.kind = a0 at *
  generalize t.num = a1 at *
  generalize t.name = a2 at *
  generalize t.args.length = a3 at *
  go_enter Tryz.func32, Tryz.ntmps32
  go_wp2_with fail
  refine HP.out.mono ?_; rintro e w1 ⟨v1, rfl, hB1, hO1⟩
  have hB2 := HBX.trans (hB1.mono hsz)
  go_wp2_with fail
  go_ret
  exact ⟨v1, rfl, hB2, hO1.mono hsz⟩
set_option maxHeartbeats 800000 in
theorem w_arg {t : Tm} (hP : POK o T TA TN TC S t) (A : Option Addr) (cap : Nat) (w : World) (hE : Env T TA TN TC w) (hT : TmsAt w.heap.size w A t.args) :
    Calls Tryz.prog 134 #[wrV o TA TN TC, tmV t A cap] w fun e w' => ∃ v, e = .returned v ∧ Below w.heap.size w w' ∧ OwnS 9 w.heap.size w' v (argW o T S t) := by
  have HX := Lib.hid (Fr2.start w o TA TN TC t A cap t.args.length 67 24 rfl)
  have HBX := HX.out.bel
  have hsz := HBX.size
  have HP := Lib.hid (w_term hP 999 A cap _ (hE.below HBX) ((hT.keep HBX).mono hsz))
  clear hE hT hP
  unfold tmV wrV at *
  generalize t.kind = a0 at *
  generalize t.num = a1 at *
  generalize t.name = a2 at *
  generalize t.args.length = a3 at *
  go_enter Tryz.func134, Tryz.ntmps134
  go_wp2_with fail
  refine HP.out.mono ?_; rintro e w1 ⟨v1, rfl, hB1, hO1⟩
  have hB2 := HBX.trans (hB1.mono hsz)
  go_wp2_with fail
  go_ret
  exact ⟨v1, rfl, hB2, hO1.mono hsz⟩
set_option maxHeartbeats 3200000 in
theorem w_row (l : List Tm) (hP : ∀ x ∈ l, POK o T TA TN TC S x) (hlen : (rowW (argW o T S) l).length ≤ 90000) (A : Option Addr) (n cap : Nat) (w : World) (hn : n = l.length) (hm : n ≤ 10000) (hE : Env T TA TN TC w) (hT : TmsAt w.heap.size w A l) :
    Calls Tryz.prog 133 #[.slice A n cap, argF o TA TN TC] w fun e w' => ∃ v, e = .returned v ∧ Below w.heap.size w w' ∧ OwnS 9 w.heap.size w' v (rowW (argW o T S) l) := by
  have HN := Lib.hid hn
  have HT := Lib.hid hT
  have HTK := Lib.hid (fun k => Nat.le_trans (rowW_take (argW o T S) l k) hlen)
  have HA := Lib.hid (fun (x : Tm) (hx : x ∈ l) (A' : Option Addr) (cap' : Nat) (W : World) (h : Below w.heap.size w W) (h2 : TmsAt w.heap.size w A' x.args) => w_arg (hP x hx) A' cap' W (hE.below h) ((h2.keep h).mono h.size))
  clear hT hE hP hn hlen
  unfold argF wrV at *
  go_enter Tryz.func133, Tryz.ntmps133
  go_wp2_with fail
  go_loopw [5, 10] (fun v i wr => ∃ k : Nat, k ≤ n ∧ i = .int .i64 k ∧ Below w.heap.size w wr ∧ Hid (OwnS 9 w.heap.size wr v (rowW (argW o T S) (l.take k)))) (fun _ i _ => n - (intOf i).toNat)
  case atStart => exact ⟨0, Nat.zero_le _, rfl, Below.refl _ _, Lib.hid (World.ownsRow_nil _ _ _ _)⟩
  case round =>
    obtain ⟨k, hk, rfl, hB, HO⟩ := hrel
    have hbs := hB.size
    by_cases hlt : k < n
    · have hkl : k < l.length := by have := HN.out; omega
      obtain ⟨b, off, A', cap', rfl, hb, c0, c1, c2, c3, hs⟩ := (HT.out.keep hB).get k hkl
      have hs0 : TmsAt w.heap.size w A' l[k].args := by
        obtain ⟨b', off', A2, n2, hA2, _, _, _, _, y3, hs2⟩ := HT.out.get k hkl
        obtain ⟨rfl, rfl⟩ : b = b' ∧ off = off' := by injection hA2 with hA2; injection hA2 with h1 h2 _; exact ⟨h1, h2⟩
        have e1 := (hB.cell (p := ⟨b, off + k * 4 + 3, none⟩) hb).trans y3
        rw [e1] at c3
        injection c3 with c3; injection c3 with h1 _ _
        rw [← h1]; exact hs2
      have HAK := Lib.hid (fun W h => HA.out l[k] (List.getElem_mem hkl) A' cap' W h hs0)
      have HRS := Lib.hid (rowW_succ (argW o T S) l k hkl)
      have HT1 := Lib.hid (HTK.out (k + 1))
      rw [HRS.out] at HT1
      have HT1' : Hid ((rowW (argW o T S) (l.take k)).length + ((if k = 0 then [] else [s1 44]) : List ByteArray).length + (argW o T S l[k]).length ≤ 90000) := Lib.hid (by
        have := HT1.out
        rw [List.length_append, List.length_append] at this; omega)
      clear hs hs0 HT1
      unfold tmV at HAK
      obtain ⟨a, HAE⟩ : ∃ a, Hid (a = l[k]) := ⟨_, Lib.hid rfl⟩
      rw [← HAE.out] at HAK HRS HT1' c0 c1 c2 c3
      obtain ⟨p, HPE⟩ : ∃ p, Hid (p = argW o T S a) := ⟨_, Lib.hid rfl⟩
      rw [← HPE.out] at HAK HRS HT1'
      obtain ⟨acc, HAC⟩ : ∃ acc, Hid (acc = rowW (argW o T S) (l.take k)) := ⟨_, Lib.hid rfl⟩
      rw [← HAC.out] at HO HRS HT1'
      have hk0 : (0 : Int) ≤ (k : Int) := by omega
      have hk1 : (k : Int) < (n : Int) := by omega
      by_cases h0 : k = 0
      · subst h0
        rw [Nat.zero_mul, Nat.add_zero] at c0 c1 c2 c3
        have HRS2 : Hid (rowW (argW o T S) (l.take (0 + 1)) = acc ++ p) := Lib.hid (by rw [HRS.out]; rfl)
        have hll : acc.length + p.length ≤ 90000 := by have := HT1'.out; simp at this; omega
        clear HRS HT1' HAE HAC HPE
        have hB0 := hB.alloc hbs (.cells #[.int .i64 a.kind, .int .i64 a.num, .string a.name, .slice A' a.args.length cap'] 24)
        have HOa := Lib.hid (HO.out.below ((Below.refl _ _).alloc (Nat.le_refl _) (.cells #[.int .i64 a.kind, .int .i64 a.num, .string a.name, .slice A' a.args.length cap'] 24)))
        go_wp2_with fail
        refine (HAK.out _ hB0).mono ?_; rintro e w2 ⟨v2, rfl, hB2, hO2⟩
        obtain ⟨A2, cp2, rfl, hsrc⟩ := hO2.src
        have HO1 := Lib.hid (HOa.out.below hB2)
        have hB3 := hB0.trans (hB2.mono hB0.size)
        have hbs3 := hB3.size
        have HSRC := Lib.hid hsrc
        clear hsrc hO2 HOa
        go_wp2_with ((with_reducible refine at_appSS ?_); go_must (refine wpList_append_row rfl _ _ 28 9 rfl Tryz.underlying28 _ 1 16 infoStr rfl (by decide) w.heap.size _ _ _ rfl HO1.out A2 _ cp2 _ rfl HSRC.out (strs_one _) (by omega) (by omega) hbs3 w hB3 ?_; intro v4 w4 ho4 hB4 hg4))
        have HO4 := Lib.hid ho4
        clear ho4
        go_roundw
        case rel => exact ⟨0 + 1, by omega, by go_num, hB4, by rw [HRS2.out]; refine Lib.hid ?_; unfold OwnS; rw [List.length_append, List.map_append]; exact HO4.out⟩
        case measure => simp [intOf] <;> omega
      · have HRS2 : Hid (rowW (argW o T S) (l.take (k + 1)) = (acc ++ [s1 44]) ++ p) := Lib.hid (by rw [HRS.out, if_neg h0]; simp)
        have hll : acc.length + 1 + p.length ≤ 90000 := by have := HT1'.out; rw [if_neg h0] at this; simp at this; omega
        clear HRS HT1' HAE HAC HPE
        have hk2 : (0 : Int) < (k : Int) := by omega
        have hB0 := hB.alloc hbs (.cells #[.int .i64 a.kind, .int .i64 a.num, .string a.name, .slice A' a.args.length cap'] 24)
        have hbs0 := hB0.size
        have HOa := Lib.hid (HO.out.below ((Below.refl _ _).alloc (Nat.le_refl _) (.cells #[.int .i64 a.kind, .int .i64 a.num, .string a.name, .slice A' a.args.length cap'] 24)))
        have HBOX : Hid (TBx (wr.alloc (.cells #[.int .i64 a.kind, .int .i64 a.num, .string a.name, .slice A' a.args.length cap'] 24)) wr.heap.size a A' cap') := Lib.hid ⟨by simp, World.cell?_alloc_new _ _ _ 0, World.cell?_alloc_new _ _ _ 1, World.cell?_alloc_new _ _ _ 2, World.cell?_alloc_new _ _ _ 3⟩
        obtain ⟨W0, HW0⟩ : ∃ W0, Hid (W0 = wr.alloc (.cells #[.int .i64 a.kind, .int .i64 a.num, .string a.name, .slice A' a.args.length cap'] 24)) := ⟨_, Lib.hid rfl⟩
        have HOG := Lib.hid HO.out
        have HFAR : Hid (∀ v' w', w'.ownsRow w.heap.size 9 1 v' (acc.length + 1) (acc.map Value.string ++ #[Value.string ⟨#[44]⟩].toList) → (W0.alloc (.cells #[.string ⟨#[44]⟩] 9)).grownBy w' u5.ownBlock → Below w.heap.size w w' → TBx w' wr.heap.size a A' cap' ∧ OwnS 9 w.heap.size w' v' (acc ++ [s1 44])) := Lib.hid (fun v' w' ho hg hBw => by
          have hne : some wr.heap.size ≠ u5.ownBlock := fun e => by have := (HO.out.lt _ e.symm).2; omega
          have hlt : wr.heap.size < (W0.alloc (.cells #[.string ⟨#[44]⟩] 9)).heap.size := by rw [HW0.out]; simp; omega
          have hb1 := HBOX.out.call ((Below.refl _ _).alloc (Nat.le_refl _) (.cells #[.string ⟨#[44]⟩] 9))
          rw [← HW0.out] at hb1
          have hc : ∀ j, w'.cell? ⟨wr.heap.size, j, none⟩ = (W0.alloc (.cells #[.string ⟨#[44]⟩] 9)).cell? ⟨wr.heap.size, j, none⟩ := fun j => hg.cell_far ⟨_, j, none⟩ hlt hne
          refine ⟨⟨Nat.lt_of_lt_of_le hlt hg.size, (hc 0).trans hb1.c0, (hc 1).trans hb1.c1, (hc 2).trans hb1.c2, (hc 3).trans hb1.c3⟩, ?_⟩
          unfold OwnS
          rw [List.length_append, List.map_append]; exact ho)
        have HOb : Hid (W0.ownsRow w.heap.size 9 1 u5 acc.length (acc.map Value.string)) := by rw [HW0.out]; exact HOa
        have HSZ : Hid (W0.heap.size = wr.heap.size + 1) := Lib.hid (by rw [HW0.out]; simp)
        have hBW : Below w.heap.size w W0 := by rw [HW0.out]; exact hB0
        have hbW := hBW.size
        clear HOa HBOX HOG hB0 hbs0
        go_wp2_with ((with_reducible refine at_appSS ?_); rw [← HW0.out]; go_must (refine wpList_append_one rfl _ _ 28 9 rfl Tryz.underlying28 _ 1 16 infoStr rfl (by decide) w.heap.size _ _ _ rfl W0 HOb.out #[.string ⟨#[44]⟩] rfl (by simp [Value.oneCell']) rfl (by rw [HSZ.out]; rfl) (by omega) (by omega) hbW ?_; intro v1 w1 ho1 hB1 hg1; have hBw1 := hBW.trans hB1; obtain ⟨hbx1, hos1⟩ := HFAR.out v1 w1 ho1 hg1 hBw1; have z0 := hbx1.c0; have z1 := hbx1.c1; have z2 := hbx1.c2; have z3 := hbx1.c3; have HS1 := Lib.hid hos1; have hs1 := hBw1.size; clear ho1 hos1))
        refine (HAK.out _ hBw1).mono ?_; rintro e w2 ⟨v2, rfl, hB2, hO2⟩
        obtain ⟨A2, cp2, rfl, hsrc⟩ := hO2.src
        have HO1 := Lib.hid (HS1.out.below hB2)
        have hB3 := hBw1.trans (hB2.mono hBw1.size)
        have hbs3 := hB3.size
        have HSRC := Lib.hid hsrc
        have hal : (acc ++ [s1 44]).length = acc.length + 1 := by simp
        clear hsrc hO2 z0 z1 z2 z3 hbx1
        go_wp2_with ((with_reducible refine at_appSS ?_); go_must (refine wpList_append_row rfl _ _ 28 9 rfl Tryz.underlying28 _ 1 16 infoStr rfl (by decide) w.heap.size _ _ _ rfl HO1.out A2 _ cp2 _ rfl HSRC.out (strs_one _) (by omega) (by omega) hbs3 w hB3 ?_; intro v4 w4 ho4 hB4 hg4))
        have HO4 := Lib.hid ho4
        clear ho4
        go_roundw
        case rel => exact ⟨k + 1, by omega, by go_num, hB4, by rw [HRS2.out]; refine Lib.hid ?_; unfold OwnS; rw [List.length_append, List.map_append]; exact HO4.out⟩
        case measure => simp [intOf] <;> omega
    · have hx : l.take k = l := List.take_of_length_le (by have := HN.out; omega)
      rw [hx] at HO
      clear hx
      go_wp2_with fail
      go_ret
      exact ⟨_, rfl, hB, HO.out⟩
end Go.Proofs.YtgapnafkelokaaaGreatDoor
