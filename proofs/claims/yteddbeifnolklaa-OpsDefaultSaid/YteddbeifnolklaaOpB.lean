/- Operators: BinarySearchFunc with compare. -/
import Derived.Test.YteddbeifnolklaaOpC
import Derived.Deep.RegionHeld3
import Derived.Laws.Shifts
namespace Hb
open Go Go.RowKit
/-- The target in a box of the call's own, an operator of the row beside it. -/
structure BHeld (w0 w : World) (o a : OpR) (b p : Nat) : Prop where
  bel : Below w0.heap.size w0 w
  lt : w0.heap.size < w.heap.size
  o0 : w.cell? ⟨w0.heap.size, 0, none⟩ = some (.string o.name)
  o1 : w.cell? ⟨w0.heap.size, 1, none⟩ = some (.int .i64 o.typ)
  o2 : w.cell? ⟨w0.heap.size, 2, none⟩ = some (.int .i64 o.prec)
  bl : b < w0.heap.size
  a0 : w.cell? ⟨b, p, none⟩ = some (.string a.name)
  a1 : w.cell? ⟨b, p + 1, none⟩ = some (.int .i64 a.typ)
  a2 : w.cell? ⟨b, p + 2, none⟩ = some (.int .i64 a.prec)
section
variable {w0 w w' : World} {o a : OpR} {b p : Nat}
theorem BHeld.keep (h : BHeld w0 w o a b p) : w.cell? ⟨w0.heap.size, 0, none⟩ = some (.string o.name) ∧ w.cell? ⟨w0.heap.size, 1, none⟩ = some (.int .i64 o.typ) ∧ w.cell? ⟨w0.heap.size, 2, none⟩ = some (.int .i64 o.prec) ∧ w.cell? ⟨b, p, none⟩ = some (.string a.name) ∧ w.cell? ⟨b, p + 1, none⟩ = some (.int .i64 a.typ) ∧ w.cell? ⟨b, p + 2, none⟩ = some (.int .i64 a.prec) ∧ BHeld w0 w o a b p := ⟨h.o0, h.o1, h.o2, h.a0, h.a1, h.a2, h⟩
theorem BHeld.of (h : w.cell? ⟨w0.heap.size, 0, none⟩ = some (.string o.name) ∧ w.cell? ⟨w0.heap.size, 1, none⟩ = some (.int .i64 o.typ) ∧ w.cell? ⟨w0.heap.size, 2, none⟩ = some (.int .i64 o.prec) ∧ w.cell? ⟨b, p, none⟩ = some (.string a.name) ∧ w.cell? ⟨b, p + 1, none⟩ = some (.int .i64 a.typ) ∧ w.cell? ⟨b, p + 2, none⟩ = some (.int .i64 a.prec) ∧ BHeld w0 w o a b p) : BHeld w0 w o a b p := h.2.2.2.2.2.2
theorem BHeld.call (hB : Below w.heap.size w w') (h : BHeld w0 w o a b p) : BHeld w0 w' o a b p where
  bel := h.bel.trans (hB.mono (by have := h.lt; omega))
  lt := Nat.lt_of_lt_of_le h.lt hB.size
  o0 := (hB.cell (p := ⟨_, _, none⟩) h.lt).trans h.o0
  o1 := (hB.cell (p := ⟨_, _, none⟩) h.lt).trans h.o1
  o2 := (hB.cell (p := ⟨_, _, none⟩) h.lt).trans h.o2
  bl := h.bl
  a0 := (hB.cell (p := ⟨_, _, none⟩) (Nat.lt_trans h.bl h.lt)).trans h.a0
  a1 := (hB.cell (p := ⟨_, _, none⟩) (Nat.lt_trans h.bl h.lt)).trans h.a1
  a2 := (hB.cell (p := ⟨_, _, none⟩) (Nat.lt_trans h.bl h.lt)).trans h.a2
theorem BHeld.drew (h : BHeld w0 w o a b p) : BHeld w0 w.drew o a b p := h.call (Below.refl w.heap.size w).drew
end
/-- The target's box. -/
structure TBox (w0 w : World) (o : OpR) : Prop where
  bel : Below w0.heap.size w0 w
  lt : w0.heap.size < w.heap.size
  o0 : w.cell? ⟨w0.heap.size, 0, none⟩ = some (.string o.name)
  o1 : w.cell? ⟨w0.heap.size, 1, none⟩ = some (.int .i64 o.typ)
  o2 : w.cell? ⟨w0.heap.size, 2, none⟩ = some (.int .i64 o.prec)
theorem TBox.start (w : World) (o : OpR) (e : TypeId) : TBox w (w.alloc (.cells #[.string o.name, .int .i64 o.typ, .int .i64 o.prec] e)) o where
  bel := (Below.refl _ _).alloc (Nat.le_refl _) _
  lt := by simp
  o0 := World.cell?_alloc_new _ _ _ 0
  o1 := World.cell?_alloc_new _ _ _ 1
  o2 := World.cell?_alloc_new _ _ _ 2
theorem TBox.held {w0 w : World} {o a : OpR} {b p : Nat} (h : TBox w0 w o) (hb : b < w0.heap.size) (c : w0.cell? ⟨b, p, none⟩ = some (.string a.name) ∧ w0.cell? ⟨b, p + 1, none⟩ = some (.int .i64 a.typ) ∧ w0.cell? ⟨b, p + 2, none⟩ = some (.int .i64 a.prec)) : BHeld w0 w o a b p where
  bel := h.bel
  lt := h.lt
  o0 := h.o0
  o1 := h.o1
  o2 := h.o2
  bl := hb
  a0 := (h.bel.cell (p := ⟨b, _, none⟩) hb).trans c.1
  a1 := (h.bel.cell (p := ⟨b, _, none⟩) hb).trans c.2.1
  a2 := (h.bel.cell (p := ⟨b, _, none⟩) hb).trans c.2.2
theorem BHeld.box {w0 w : World} {o a : OpR} {b p : Nat} (h : BHeld w0 w o a b p) : TBox w0 w o := ⟨h.bel, h.lt, h.o0, h.o1, h.o2⟩
/-- The place i parts those before the target from the others. -/
structure Parts (o : OpR) (l : List OpR) (lo hi : Nat) : Prop where
  le : lo ≤ hi
  hl : hi ≤ l.length
  pre : ∀ j (hj : j < l.length), j < lo → cmpOp l[j] o < 0
  post : ∀ j (hj : j < l.length), hi ≤ j → ¬ cmpOp l[j] o < 0
/-- What stands before the target stands ahead of what does not. -/
def Mono (o : OpR) (l : List OpR) : Prop := ∀ i j (hj : j < l.length) (hij : i ≤ j), cmpOp l[j] o < 0 → cmpOp (l[i]'(by omega)) o < 0
theorem Parts.up {o : OpR} {l : List OpR} {lo hi m : Nat} (h : Parts o l lo hi) (hM : Mono o l) (h2 : m < hi) (hm : m < l.length) (hc : cmpOp l[m] o < 0) : Parts o l (m + 1) hi where
  le := h2
  hl := h.hl
  pre := fun j hj hjm => hM j m hm (by omega) hc
  post := h.post
theorem Parts.down {o : OpR} {l : List OpR} {lo hi m : Nat} (h : Parts o l lo hi) (hM : Mono o l) (h1 : lo ≤ m) (hm : m < l.length) (hc : ¬ cmpOp l[m] o < 0) : Parts o l lo m where
  le := h1
  hl := by omega
  pre := h.pre
  post := fun j hj hmj hcj => hc (hM m j hj hmj hcj)
theorem Parts.start (o : OpR) (l : List OpR) : Parts o l 0 l.length := ⟨Nat.zero_le _, Nat.le_refl _, fun j _ h => absurd h (by omega), fun j hj h => absurd hj (by omega)⟩
end Hb
namespace Go.Proofs.Yteddbeifnolklaa
open Go.RowKit Hb
set_option maxRecDepth 100000
theorem at_shr {ops : Array Oper} {rest : List Oper} {a : Act} {Q : Exit → Act → World → Prop} {w : World} {d x y t p f g} (h : wpList Try.prog ops Q (⟨d, .binOp .shr 67 x y 67, t, p, f, g⟩ :: rest) a w) : wpList Try.prog ops Q (⟨d, .binOp .shr 67 x y 67, t, p, f, g⟩ :: rest) a w := h
theorem wpList_half {ops : Array Oper} {rest : List Oper} {o : Oper} {a : Act} {Q : Exit → Act → World → Prop} {w : World} (hgd : o.guard = none) (x y : Operand) (ho : o.op = .binOp .shr 67 x y 67) (k m : Int) (hx : a.eval x = .int .u64 k) (hy : a.eval y = .int .u64 1) (hm : k / 2 = m)
    (h : wpList Try.prog ops Q rest (a.put o.dst (.int .u64 m)) w) : wpList Try.prog ops Q (o :: rest) a w := by
  refine wpList_plain hgd fun K hK => ?_
  have hb1 : min (Int.toNat 1) IntKind.u64.bits = 1 := by decide
  have e : (execOp a.eval o).run Try.prog w = .ok (.value (.int .u64 m)) w := by
    unfold execOp
    rw [ho]
    simp only [hx, hy]
    rw [← hm, binOp_shr, shift_shr_any _ _ _ _ (by decide), hb1]
    rfl
  unfold Oper.wp
  rw [e]
  exact hK _ _ h
set_option maxHeartbeats 3200000 in
theorem ops_search (A : Option Addr) (n cap : Nat) (l : List OpR) (o : OpR) (w : World) (hn : n = l.length) (hm : n ≤ 400) (hp : OpsAt w A l) (hM : Mono o l) :
    Calls Try.prog 43 #[.slice A n cap, opV o, .func (.func 35) #[] #[]] w fun e w' => ∃ (i : Nat) (b : Bool), e = .returned (.tuple #[.int .i64 i, .bool b]) ∧ Parts o l i i ∧ Below w.heap.size w w' := by
  have HP := Lib.hid hp
  have HN := Lib.hid hn
  have HM := Lib.hid hM
  have hX := TBox.start w o 34
  have HS := Lib.hid (Parts.start o l)
  rw [← hn] at HS
  have HC := Lib.hid (fun a W => op_compare a o W)
  clear hp hn hM
  unfold opV at *
  go_enter Try.func43, Try.ntmps43
  go_wp2_with fail
  have HX : Hid (TBox w _ o) := Lib.hid hX
  go_loopw [9, 10] (fun s9 s10 wr => ∃ lo hi : Nat, s9 = .int .i64 lo ∧ s10 = .int .i64 hi ∧ lo ≤ hi ∧ hi ≤ n ∧ Hid (TBox w wr o) ∧ Hid (Parts o l lo hi)) (fun s9 s10 _ => (intOf s10 - intOf s9).toNat)
  case atStart => exact ⟨0, n, rfl, rfl, Nat.zero_le _, Nat.le_refl _, HX, HS⟩
  case round =>
    clear HX hX HS
    obtain ⟨lo, hi, rfl, rfl, hlh, hin, HT, HI⟩ := hrel
    by_cases hlt : lo < hi
    · obtain ⟨m, hmd⟩ : ∃ m, m = (lo + hi) / 2 := ⟨_, rfl⟩
      have hm1 : lo ≤ m ∧ m < hi := by omega
      have hme : ((lo : Int) + (hi : Int)) / 2 = (m : Int) := by omega
      obtain ⟨hm1, hm2⟩ := hm1
      clear hmd
      have hmn : m < n := by omega
      have hmi0 : (0 : Int) ≤ (m : Int) := by omega
      have hmi1 : (m : Int) < (n : Int) := by omega
      have hml : m < l.length := by have := HN.out; omega
      obtain ⟨b, off, rfl, hb, c⟩ := HP.out m hml
      have HU := Lib.hid (fun h => HI.out.up HM.out hm2 hml h)
      have HD := Lib.hid (fun h => HI.out.down HM.out hm1 hml h)
      have HC1 := Lib.hid (fun W => HC.out l[m] W)
      have H1 := HT.out.held hb c
      clear c
      generalize l[m] = a at *
      obtain ⟨c, hce⟩ : ∃ c, Hid (c = cmpOp a o) := ⟨_, Lib.hid rfl⟩
      rw [← hce.out] at HU HD HC1
      go_wp2_with ((with_reducible refine at_shr ?_); refine wpList_half rfl _ _ rfl _ _ rfl rfl hme ?_)
      go_region_held3 (fun w' => w'.cell? ⟨w.heap.size, 0, none⟩ = some (.string o.name) ∧ w'.cell? ⟨w.heap.size, 1, none⟩ = some (.int .i64 o.typ) ∧ w'.cell? ⟨w.heap.size, 2, none⟩ = some (.int .i64 o.prec) ∧ w'.cell? ⟨b, off + m * 3, none⟩ = some (.string a.name) ∧ w'.cell? ⟨b, off + m * 3 + 1, none⟩ = some (.int .i64 a.typ) ∧ w'.cell? ⟨b, off + m * 3 + 2, none⟩ = some (.int .i64 a.prec) ∧ BHeld w w' o a b (off + m * 3))
        (first | with_reducible exact H1.drew.keep | with_reducible exact BHeld.keep (BHeld.of (by with_reducible assumption)) | with_reducible exact BHeld.keep (BHeld.call (by with_reducible assumption) (BHeld.of (by with_reducible assumption))))
        (first | (go_at_call 35; (with_reducible refine (HC1.out _).mono ?_); rintro e w2 ⟨rfl, hB2⟩))
      all_goals have HTn : Hid (TBox w w2 o) := Lib.hid (BHeld.box (BHeld.of (by with_reducible assumption)))
      by_cases hcc : c < 0
      · go_wp2_with fail
        go_roundw
        case rel => exact ⟨m + 1, hi, by go_num, rfl, by omega, hin, HTn, Lib.hid (HU.out hcc)⟩
        case measure => simp [intOf] <;> omega
      · go_wp2_with fail
        go_roundw
        case rel => exact ⟨lo, m, rfl, rfl, by omega, by omega, HTn, Lib.hid (HD.out (by omega))⟩
        case measure => simp [intOf] <;> omega
    · obtain rfl : hi = lo := by omega
      by_cases hlo : hi < n
      · have hil : hi < l.length := by have := HN.out; omega
        obtain ⟨b, off, rfl, hb, c⟩ := HP.out hi hil
        have HC1 := Lib.hid (fun W => HC.out l[hi] W)
        have H1 := HT.out.held hb c
        clear c
        generalize l[hi] = a at *
        obtain ⟨c, hce⟩ : ∃ c, Hid (c = cmpOp a o) := ⟨_, Lib.hid rfl⟩
        rw [← hce.out] at HC1
        have hmi0 : (0 : Int) ≤ (hi : Int) := by omega
        have hmi1 : (hi : Int) < (n : Int) := by omega
        go_wp2_with fail
        go_region_held3 (fun w' => w'.cell? ⟨w.heap.size, 0, none⟩ = some (.string o.name) ∧ w'.cell? ⟨w.heap.size, 1, none⟩ = some (.int .i64 o.typ) ∧ w'.cell? ⟨w.heap.size, 2, none⟩ = some (.int .i64 o.prec) ∧ w'.cell? ⟨b, off + hi * 3, none⟩ = some (.string a.name) ∧ w'.cell? ⟨b, off + hi * 3 + 1, none⟩ = some (.int .i64 a.typ) ∧ w'.cell? ⟨b, off + hi * 3 + 2, none⟩ = some (.int .i64 a.prec) ∧ BHeld w w' o a b (off + hi * 3))
          (first | with_reducible exact H1.drew.keep | with_reducible exact BHeld.keep (BHeld.of (by with_reducible assumption)) | with_reducible exact BHeld.keep (BHeld.call (by with_reducible assumption) (BHeld.of (by with_reducible assumption))))
          (first | (go_at_call 35; (with_reducible refine (HC1.out _).mono ?_); rintro e w2 ⟨rfl, hB2⟩))
        all_goals have hbf := BHeld.bel (BHeld.of (by with_reducible assumption))
        all_goals have HPs := HI.out
        all_goals go_wp2_with fail
        all_goals go_ret2
        all_goals exact ⟨hi, c == 0, rfl, HPs, hbf⟩
      · obtain rfl : hi = n := by omega
        go_wp2_with fail
        go_quiet (fail)
        have hbf := bl_drewN HT.out.bel nq
        have HPs := HI.out
        go_wp2_with fail
        go_ret2
        exact ⟨hi, false, rfl, HPs, hbf⟩
end Go.Proofs.Yteddbeifnolklaa
