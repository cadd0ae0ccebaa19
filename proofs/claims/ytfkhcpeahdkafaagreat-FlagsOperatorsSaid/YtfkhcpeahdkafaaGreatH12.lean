/- Flags: value. Flags: value in general, Get. -/
import Derived.Test.YtfkhcpeahdkafaaGreatH11
import Derived.Lib.BufferMore
import Derived.Test.YtfkhcpeahdkafaaGreatH05
namespace Hb
open Go Go.RowKit
def fVal (f : FlR) (k : Nat) : Tm := if fVL k = [] then fFx k else atomT ((fVL k).getD (fGet f k).toNat ⟨#[]⟩)
theorem fFx_args (k : Nat) (hk : k < 9) : (fFx k).args = [] := by
 rcases (show k = 0 ∨ k = 1 ∨ k = 2 ∨ k = 3 ∨ k = 4 ∨ k = 5 ∨ k = 6 ∨ k = 7 ∨ k = 8 by omega) with rfl | rfl | rfl | rfl | rfl | rfl | rfl | rfl | rfl <;> rfl
end Hb
namespace Go.Proofs.YtfkhcpeahdkafaaGreat
open Go.RowKit Hb
set_option maxRecDepth 100000
structure RB (w0 W0 : World) (g : Nat) (X : World) : Prop where
 r : R4 w0 X g
 bel : Below g W0 X
theorem RB.le {w0 W0 X : World} {g : Nat} (h : RB w0 W0 g X) : g ≤ X.heap.size := Nat.le_of_lt h.r.lt
theorem RB.call {w0 W0 X X' : World} {g : Nat} (h : RB w0 W0 g X) (hg : g ≤ X.heap.size) (hB : Below X.heap.size X X') : RB w0 W0 g X' := ⟨h.r.call hB, h.bel.trans (hB.mono hg)⟩
theorem RB.put4 {w0 W0 X : World} {g : Nat} (h : RB w0 W0 g X) (x y z u : Value) : RB w0 W0 g ((((X.setCell ⟨g, 0, none⟩ x).setCell ⟨g, 1, none⟩ y).setCell ⟨g, 2, none⟩ z).setCell ⟨g, 3, none⟩ u) :=
 ⟨h.r.put4 x y z u, (((h.bel.setCell (p := ⟨_, _, none⟩) (Nat.le_refl _) _).setCell (p := ⟨_, _, none⟩) (Nat.le_refl _) _).setCell (p := ⟨_, _, none⟩) (Nat.le_refl _) _).setCell (p := ⟨_, _, none⟩) (Nat.le_refl _) _⟩
set_option maxHeartbeats 3200000 in
theorem f_value_1 (f : FlR) (nm : ByteArray) (kd num : Int) (fnm : ByteArray) (A : Option Addr) (c b n : Nat) (fb : Fn) (i : Nat) (v : ByteArray) (hv : v.size ≤ 100) (w : World) (hi : i < n) (hb : b < w.heap.size) (hc : w.cell? ⟨b, i, none⟩ = some (.string v))
  (HG0 : ∀ W, Calls Tryz.prog 86 #[flV f] W fun e w' => e = .returned (.int .i64 i) ∧ Below W.heap.size W w') :
  Calls Tryz.prog 46 #[.agg #[.string nm, .int .i64 kd, .int .i64 num, .string fnm, .slice A 0 c, .slice (some ⟨b, 0, none⟩) n n, .func (.func 86) #[] #[], .func fb #[] #[]], flV f] w fun e w' => ∃ A' c', e = .returned (tmV (atomT v) A' c') ∧ Below w.heap.size w w' := by
 unfold flV at HG0 ⊢
 generalize f.q = q at *
 generalize f.u = u at *
 generalize f.c = cc at *
 generalize f.d = dd at *
 have HG := Lib.hid HG0
 clear HG0
 have HA := Lib.hid (fun W => t_atom v hv W)
 have HE : Hid (∀ (A' : Option Addr) (c' : Nat), tmV (atomT v) A' c' = .agg #[.int .i64 2, .int .i64 0, .string v, .slice A' 0 c']) := Lib.hid (fun _ _ => rfl)
 have hB0 := (((Below.refl w.heap.size w).alloc (Nat.le_refl _) (.cells #[.string nm, .int .i64 kd, .int .i64 num, .string fnm, .slice A 0 c, .slice (some ⟨b, 0, none⟩) n n, .func (.func 86) #[] #[], .func fb #[] #[]] 72)).alloc (by simp) (.cells #[.int .i64 q, .int .i64 u, .bool cc, .bool dd] 23)).alloc (by simp; omega) (.cells #[.int .i64 0, .int .i64 0, .string ⟨#[]⟩, .slice none 0 0] 26)
 have hi0 : (0 : Int) ≤ (i : Int) := by omega
 have hi1 : (i : Int) < (n : Int) := by omega
 have hnil : ∀ W, (binOp .eql 29 (.slice (some ⟨b, 0, none⟩) n n) (.slice none 0 0)).run Tryz.prog W = .ok (.bool false) W := fun W => Lib.run_eql_slice_some_nil W _ _ _ Tryz.underlying29
 go_enter Tryz.func46, Tryz.ntmps46
 go_wp2_with fail
 have hR0 : R4 w (((w.alloc (.cells #[.string nm, .int .i64 kd, .int .i64 num, .string fnm, .slice A 0 c, .slice (some ⟨b, 0, none⟩) n n, .func (.func 86) #[] #[], .func fb #[] #[]] 72)).alloc (.cells #[.int .i64 q, .int .i64 u, .bool cc, .bool dd] 23)).alloc (.cells #[.int .i64 0, .int .i64 0, .string ⟨#[]⟩, .slice none 0 0] 26)) (w.heap.size + 1 + 1) := by
  have := R4.start (w0 := w) (w := ((w.alloc (.cells #[.string nm, .int .i64 kd, .int .i64 num, .string fnm, .slice A 0 c, .slice (some ⟨b, 0, none⟩) n n, .func (.func 86) #[] #[], .func fb #[] #[]] 72)).alloc (.cells #[.int .i64 q, .int .i64 u, .bool cc, .bool dd] 23))) (((Below.refl w.heap.size w).alloc (Nat.le_refl _) _).alloc (by simp) _) (.int .i64 0) (.int .i64 0) (.string ⟨#[]⟩) (.slice none 0 0) 26
  simpa using this
 obtain ⟨W0, HW0⟩ : ∃ W0, Hid (W0 = ((w.alloc (.cells #[.string nm, .int .i64 kd, .int .i64 num, .string fnm, .slice A 0 c, .slice (some ⟨b, 0, none⟩) n n, .func (.func 86) #[] #[], .func fb #[] #[]] 72)).alloc (.cells #[.int .i64 q, .int .i64 u, .bool cc, .bool dd] 23)).alloc (.cells #[.int .i64 0, .int .i64 0, .string ⟨#[]⟩, .slice none 0 0] 26)) := ⟨_, Lib.hid rfl⟩
 rw [← HW0.out] at hB0 hR0 ⊢
 have hs0 : W0.heap.size = w.heap.size + 3 := by rw [HW0.out]; simp
 have HS : Hid (∀ X, RB w W0 (w.heap.size + 1 + 1) X → (X.cell? ⟨w.heap.size, 5, none⟩ = some (.slice (some ⟨b, 0, none⟩) n n) ∧ X.cell? ⟨w.heap.size, 6, none⟩ = some (.func (.func 86) #[] #[]) ∧ X.cell? ⟨w.heap.size + 1, 0, none⟩ = some (.int .i64 q) ∧ X.cell? ⟨w.heap.size + 1, 1, none⟩ = some (.int .i64 u) ∧ X.cell? ⟨w.heap.size + 1, 2, none⟩ = some (.bool cc) ∧ X.cell? ⟨w.heap.size + 1, 3, none⟩ = some (.bool dd) ∧ X.cell? ⟨b, i, none⟩ = some (.string v) ∧ RB w W0 (w.heap.size + 1 + 1) X)) := by
  refine Lib.hid fun X hX => ?_
  have h0 : W0.cell? ⟨w.heap.size, 5, none⟩ = some (.slice (some ⟨b, 0, none⟩) n n) ∧ W0.cell? ⟨w.heap.size, 6, none⟩ = some (.func (.func 86) #[] #[]) ∧ W0.cell? ⟨w.heap.size + 1, 0, none⟩ = some (.int .i64 q) ∧ W0.cell? ⟨w.heap.size + 1, 1, none⟩ = some (.int .i64 u) ∧ W0.cell? ⟨w.heap.size + 1, 2, none⟩ = some (.bool cc) ∧ W0.cell? ⟨w.heap.size + 1, 3, none⟩ = some (.bool dd) ∧ W0.cell? ⟨b, i, none⟩ = some (.string v) := by
   have hbc := (hB0.cell (p := ⟨b, i, none⟩) hb).trans hc
   rw [HW0.out] at hbc ⊢
   refine ⟨?_, ?_, ?_, ?_, ?_, ?_, hbc⟩ <;> simp [go_sem, World.cell?_alloc_past, World.cell?_alloc_at]
  obtain ⟨c0, c1, c2, c3, c4, c5, c6⟩ := h0
  exact ⟨(hX.bel.cell (p := ⟨w.heap.size, 5, none⟩) (by show w.heap.size < w.heap.size + 1 + 1; omega)).trans c0, (hX.bel.cell (p := ⟨w.heap.size, 6, none⟩) (by show w.heap.size < w.heap.size + 1 + 1; omega)).trans c1, (hX.bel.cell (p := ⟨w.heap.size + 1, 0, none⟩) (by show w.heap.size + 1 < w.heap.size + 1 + 1; omega)).trans c2, (hX.bel.cell (p := ⟨w.heap.size + 1, 1, none⟩) (by show w.heap.size + 1 < w.heap.size + 1 + 1; omega)).trans c3, (hX.bel.cell (p := ⟨w.heap.size + 1, 2, none⟩) (by show w.heap.size + 1 < w.heap.size + 1 + 1; omega)).trans c4, (hX.bel.cell (p := ⟨w.heap.size + 1, 3, none⟩) (by show w.heap.size + 1 < w.heap.size + 1 + 1; omega)).trans c5, (hX.bel.cell (p := ⟨b, i, none⟩) (by show b < w.heap.size + 1 + 1; omega)).trans c6, hX⟩
 have HOF : Hid (∀ X, (X.cell? ⟨w.heap.size, 5, none⟩ = some (.slice (some ⟨b, 0, none⟩) n n) ∧ X.cell? ⟨w.heap.size, 6, none⟩ = some (.func (.func 86) #[] #[]) ∧ X.cell? ⟨w.heap.size + 1, 0, none⟩ = some (.int .i64 q) ∧ X.cell? ⟨w.heap.size + 1, 1, none⟩ = some (.int .i64 u) ∧ X.cell? ⟨w.heap.size + 1, 2, none⟩ = some (.bool cc) ∧ X.cell? ⟨w.heap.size + 1, 3, none⟩ = some (.bool dd) ∧ X.cell? ⟨b, i, none⟩ = some (.string v) ∧ RB w W0 (w.heap.size + 1 + 1) X) → RB w W0 (w.heap.size + 1 + 1) X) := Lib.hid fun X h => h.2.2.2.2.2.2.2
 have hRf : Hid (RB w W0 (w.heap.size + 1 + 1) W0.drew) := Lib.hid (RB.call (X := W0) ⟨hR0, Below.refl _ _⟩ (by omega) (Below.refl _ _).drew)
 clear hB0 hR0 HW0 hb hc hs0
 go_region_held3 (fun X => (X.cell? ⟨w.heap.size, 5, none⟩ = some (.slice (some ⟨b, 0, none⟩) n n) ∧ X.cell? ⟨w.heap.size, 6, none⟩ = some (.func (.func 86) #[] #[]) ∧ X.cell? ⟨w.heap.size + 1, 0, none⟩ = some (.int .i64 q) ∧ X.cell? ⟨w.heap.size + 1, 1, none⟩ = some (.int .i64 u) ∧ X.cell? ⟨w.heap.size + 1, 2, none⟩ = some (.bool cc) ∧ X.cell? ⟨w.heap.size + 1, 3, none⟩ = some (.bool dd) ∧ X.cell? ⟨b, i, none⟩ = some (.string v) ∧ RB w W0 (w.heap.size + 1 + 1) X))
   (first
    | with_reducible exact HS.out _ hRf.out
    | with_reducible exact HS.out _ hX3
    | with_reducible exact HS.out _ hX4
    | with_reducible exact HS.out _ (RB.put4 hX4 _ _ _ _))
   (first
    | (go_at_call 85; (with_reducible refine (HA.out _).mono ?_); rintro e w4 ⟨A4, c4, rfl, hB4⟩; rw [HE.out]; have hX4 := RB.call (HOF.out _ (by with_reducible assumption)) (HOF.out _ (by with_reducible assumption)).le hB4; obtain ⟨u0, r0⟩ := hX4.r.r0; obtain ⟨u1, r1⟩ := hX4.r.r1; obtain ⟨u2, r2⟩ := hX4.r.r2; obtain ⟨u3, r3⟩ := hX4.r.r3; have f0 := hX4.r.fr 0; have f1 := hX4.r.fr 1; have f2 := hX4.r.fr 2; have f3 := hX4.r.fr 3)
    | (go_at_call 86; (with_reducible refine (HG.out _).mono ?_); rintro e w3 ⟨rfl, hB3⟩; have hX3 := RB.call (HOF.out _ (by with_reducible assumption)) (HOF.out _ (by with_reducible assumption)).le hB3)
    | fail)
 have HP := Lib.hid (hX4.r.put (.int .i64 2) (.int .i64 0) (.string v) (.slice A4 0 c4))
 go_wp2_with fail
 exact bodyPost_ret (v := .agg #[.int .i64 2, .int .i64 0, .string v, .slice A4 0 c4]) (by simp [results, Tryz.results46, go_sem, r0, r1, r2, r3]) rfl ⟨A4, c4, by rw [HE.out], HP.out⟩
set_option maxHeartbeats 3200000 in
theorem f_value_2 (f : FlR) (nm : ByteArray) (kd num : Int) (fnm : ByteArray) (A : Option Addr) (c b n : Nat) (fb : Fn) (i : Nat) (v : ByteArray) (hv : v.size ≤ 100) (w : World) (hi : i < n) (hb : b < w.heap.size) (hc : w.cell? ⟨b, i, none⟩ = some (.string v))
  (HG0 : ∀ W, Calls Tryz.prog 89 #[flV f] W fun e w' => e = .returned (.int .i64 i) ∧ Below W.heap.size W w') :
  Calls Tryz.prog 46 #[.agg #[.string nm, .int .i64 kd, .int .i64 num, .string fnm, .slice A 0 c, .slice (some ⟨b, 0, none⟩) n n, .func (.func 89) #[] #[], .func fb #[] #[]], flV f] w fun e w' => ∃ A' c', e = .returned (tmV (atomT v) A' c') ∧ Below w.heap.size w w' := by
 unfold flV at HG0 ⊢
 generalize f.q = q at *
 generalize f.u = u at *
 generalize f.c = cc at *
 generalize f.d = dd at *
 have HG := Lib.hid HG0
 clear HG0
 have HA := Lib.hid (fun W => t_atom v hv W)
 have HE : Hid (∀ (A' : Option Addr) (c' : Nat), tmV (atomT v) A' c' = .agg #[.int .i64 2, .int .i64 0, .string v, .slice A' 0 c']) := Lib.hid (fun _ _ => rfl)
 have hB0 := (((Below.refl w.heap.size w).alloc (Nat.le_refl _) (.cells #[.string nm, .int .i64 kd, .int .i64 num, .string fnm, .slice A 0 c, .slice (some ⟨b, 0, none⟩) n n, .func (.func 89) #[] #[], .func fb #[] #[]] 72)).alloc (by simp) (.cells #[.int .i64 q, .int .i64 u, .bool cc, .bool dd] 23)).alloc (by simp; omega) (.cells #[.int .i64 0, .int .i64 0, .string ⟨#[]⟩, .slice none 0 0] 26)
 have hi0 : (0 : Int) ≤ (i : Int) := by omega
 have hi1 : (i : Int) < (n : Int) := by omega
 have hnil : ∀ W, (binOp .eql 29 (.slice (some ⟨b, 0, none⟩) n n) (.slice none 0 0)).run Tryz.prog W = .ok (.bool false) W := fun W => Lib.run_eql_slice_some_nil W _ _ _ Tryz.underlying29
 go_enter Tryz.func46, Tryz.ntmps46
 go_wp2_with fail
 have hR0 : R4 w (((w.alloc (.cells #[.string nm, .int .i64 kd, .int .i64 num, .string fnm, .slice A 0 c, .slice (some ⟨b, 0, none⟩) n n, .func (.func 89) #[] #[], .func fb #[] #[]] 72)).alloc (.cells #[.int .i64 q, .int .i64 u, .bool cc, .bool dd] 23)).alloc (.cells #[.int .i64 0, .int .i64 0, .string ⟨#[]⟩, .slice none 0 0] 26)) (w.heap.size + 1 + 1) := by
  have := R4.start (w0 := w) (w := ((w.alloc (.cells #[.string nm, .int .i64 kd, .int .i64 num, .string fnm, .slice A 0 c, .slice (some ⟨b, 0, none⟩) n n, .func (.func 89) #[] #[], .func fb #[] #[]] 72)).alloc (.cells #[.int .i64 q, .int .i64 u, .bool cc, .bool dd] 23))) (((Below.refl w.heap.size w).alloc (Nat.le_refl _) _).alloc (by simp) _) (.int .i64 0) (.int .i64 0) (.string ⟨#[]⟩) (.slice none 0 0) 26
  simpa using this
 obtain ⟨W0, HW0⟩ : ∃ W0, Hid (W0 = ((w.alloc (.cells #[.string nm, .int .i64 kd, .int .i64 num, .string fnm, .slice A 0 c, .slice (some ⟨b, 0, none⟩) n n, .func (.func 89) #[] #[], .func fb #[] #[]] 72)).alloc (.cells #[.int .i64 q, .int .i64 u, .bool cc, .bool dd] 23)).alloc (.cells #[.int .i64 0, .int .i64 0, .string ⟨#[]⟩, .slice none 0 0] 26)) := ⟨_, Lib.hid rfl⟩
 rw [← HW0.out] at hB0 hR0 ⊢
 have hs0 : W0.heap.size = w.heap.size + 3 := by rw [HW0.out]; simp
 have HS : Hid (∀ X, RB w W0 (w.heap.size + 1 + 1) X → (X.cell? ⟨w.heap.size, 5, none⟩ = some (.slice (some ⟨b, 0, none⟩) n n) ∧ X.cell? ⟨w.heap.size, 6, none⟩ = some (.func (.func 89) #[] #[]) ∧ X.cell? ⟨w.heap.size + 1, 0, none⟩ = some (.int .i64 q) ∧ X.cell? ⟨w.heap.size + 1, 1, none⟩ = some (.int .i64 u) ∧ X.cell? ⟨w.heap.size + 1, 2, none⟩ = some (.bool cc) ∧ X.cell? ⟨w.heap.size + 1, 3, none⟩ = some (.bool dd) ∧ X.cell? ⟨b, i, none⟩ = some (.string v) ∧ RB w W0 (w.heap.size + 1 + 1) X)) := by
  refine Lib.hid fun X hX => ?_
  have h0 : W0.cell? ⟨w.heap.size, 5, none⟩ = some (.slice (some ⟨b, 0, none⟩) n n) ∧ W0.cell? ⟨w.heap.size, 6, none⟩ = some (.func (.func 89) #[] #[]) ∧ W0.cell? ⟨w.heap.size + 1, 0, none⟩ = some (.int .i64 q) ∧ W0.cell? ⟨w.heap.size + 1, 1, none⟩ = some (.int .i64 u) ∧ W0.cell? ⟨w.heap.size + 1, 2, none⟩ = some (.bool cc) ∧ W0.cell? ⟨w.heap.size + 1, 3, none⟩ = some (.bool dd) ∧ W0.cell? ⟨b, i, none⟩ = some (.string v) := by
   have hbc := (hB0.cell (p := ⟨b, i, none⟩) hb).trans hc
   rw [HW0.out] at hbc ⊢
   refine ⟨?_, ?_, ?_, ?_, ?_, ?_, hbc⟩ <;> simp [go_sem, World.cell?_alloc_past, World.cell?_alloc_at]
  obtain ⟨c0, c1, c2, c3, c4, c5, c6⟩ := h0
  exact ⟨(hX.bel.cell (p := ⟨w.heap.size, 5, none⟩) (by show w.heap.size < w.heap.size + 1 + 1; omega)).trans c0, (hX.bel.cell (p := ⟨w.heap.size, 6, none⟩) (by show w.heap.size < w.heap.size + 1 + 1; omega)).trans c1, (hX.bel.cell (p := ⟨w.heap.size + 1, 0, none⟩) (by show w.heap.size + 1 < w.heap.size + 1 + 1; omega)).trans c2, (hX.bel.cell (p := ⟨w.heap.size + 1, 1, none⟩) (by show w.heap.size + 1 < w.heap.size + 1 + 1; omega)).trans c3, (hX.bel.cell (p := ⟨w.heap.size + 1, 2, none⟩) (by show w.heap.size + 1 < w.heap.size + 1 + 1; omega)).trans c4, (hX.bel.cell (p := ⟨w.heap.size + 1, 3, none⟩) (by show w.heap.size + 1 < w.heap.size + 1 + 1; omega)).trans c5, (hX.bel.cell (p := ⟨b, i, none⟩) (by show b < w.heap.size + 1 + 1; omega)).trans c6, hX⟩
 have HOF : Hid (∀ X, (X.cell? ⟨w.heap.size, 5, none⟩ = some (.slice (some ⟨b, 0, none⟩) n n) ∧ X.cell? ⟨w.heap.size, 6, none⟩ = some (.func (.func 89) #[] #[]) ∧ X.cell? ⟨w.heap.size + 1, 0, none⟩ = some (.int .i64 q) ∧ X.cell? ⟨w.heap.size + 1, 1, none⟩ = some (.int .i64 u) ∧ X.cell? ⟨w.heap.size + 1, 2, none⟩ = some (.bool cc) ∧ X.cell? ⟨w.heap.size + 1, 3, none⟩ = some (.bool dd) ∧ X.cell? ⟨b, i, none⟩ = some (.string v) ∧ RB w W0 (w.heap.size + 1 + 1) X) → RB w W0 (w.heap.size + 1 + 1) X) := Lib.hid fun X h => h.2.2.2.2.2.2.2
 have hRf : Hid (RB w W0 (w.heap.size + 1 + 1) W0.drew) := Lib.hid (RB.call (X := W0) ⟨hR0, Below.refl _ _⟩ (by omega) (Below.refl _ _).drew)
 clear hB0 hR0 HW0 hb hc hs0
 go_region_held3 (fun X => (X.cell? ⟨w.heap.size, 5, none⟩ = some (.slice (some ⟨b, 0, none⟩) n n) ∧ X.cell? ⟨w.heap.size, 6, none⟩ = some (.func (.func 89) #[] #[]) ∧ X.cell? ⟨w.heap.size + 1, 0, none⟩ = some (.int .i64 q) ∧ X.cell? ⟨w.heap.size + 1, 1, none⟩ = some (.int .i64 u) ∧ X.cell? ⟨w.heap.size + 1, 2, none⟩ = some (.bool cc) ∧ X.cell? ⟨w.heap.size + 1, 3, none⟩ = some (.bool dd) ∧ X.cell? ⟨b, i, none⟩ = some (.string v) ∧ RB w W0 (w.heap.size + 1 + 1) X))
   (first
    | with_reducible exact HS.out _ hRf.out
    | with_reducible exact HS.out _ hX3
    | with_reducible exact HS.out _ hX4
    | with_reducible exact HS.out _ (RB.put4 hX4 _ _ _ _))
   (first
    | (go_at_call 85; (with_reducible refine (HA.out _).mono ?_); rintro e w4 ⟨A4, c4, rfl, hB4⟩; rw [HE.out]; have hX4 := RB.call (HOF.out _ (by with_reducible assumption)) (HOF.out _ (by with_reducible assumption)).le hB4; obtain ⟨u0, r0⟩ := hX4.r.r0; obtain ⟨u1, r1⟩ := hX4.r.r1; obtain ⟨u2, r2⟩ := hX4.r.r2; obtain ⟨u3, r3⟩ := hX4.r.r3; have f0 := hX4.r.fr 0; have f1 := hX4.r.fr 1; have f2 := hX4.r.fr 2; have f3 := hX4.r.fr 3)
    | (go_at_call 89; (with_reducible refine (HG.out _).mono ?_); rintro e w3 ⟨rfl, hB3⟩; have hX3 := RB.call (HOF.out _ (by with_reducible assumption)) (HOF.out _ (by with_reducible assumption)).le hB3)
    | fail)
 have HP := Lib.hid (hX4.r.put (.int .i64 2) (.int .i64 0) (.string v) (.slice A4 0 c4))
 go_wp2_with fail
 exact bodyPost_ret (v := .agg #[.int .i64 2, .int .i64 0, .string v, .slice A4 0 c4]) (by simp [results, Tryz.results46, go_sem, r0, r1, r2, r3]) rfl ⟨A4, c4, by rw [HE.out], HP.out⟩
set_option maxHeartbeats 3200000 in
theorem f_value_3 (f : FlR) (nm : ByteArray) (kd num : Int) (fnm : ByteArray) (A : Option Addr) (c b n : Nat) (fb : Fn) (i : Nat) (v : ByteArray) (hv : v.size ≤ 100) (w : World) (hi : i < n) (hb : b < w.heap.size) (hc : w.cell? ⟨b, i, none⟩ = some (.string v))
  (HG0 : ∀ W, Calls Tryz.prog 91 #[flV f] W fun e w' => e = .returned (.int .i64 i) ∧ Below W.heap.size W w') :
  Calls Tryz.prog 46 #[.agg #[.string nm, .int .i64 kd, .int .i64 num, .string fnm, .slice A 0 c, .slice (some ⟨b, 0, none⟩) n n, .func (.func 91) #[] #[], .func fb #[] #[]], flV f] w fun e w' => ∃ A' c', e = .returned (tmV (atomT v) A' c') ∧ Below w.heap.size w w' := by
 unfold flV at HG0 ⊢
 generalize f.q = q at *
 generalize f.u = u at *
 generalize f.c = cc at *
 generalize f.d = dd at *
 have HG := Lib.hid HG0
 clear HG0
 have HA := Lib.hid (fun W => t_atom v hv W)
 have HE : Hid (∀ (A' : Option Addr) (c' : Nat), tmV (atomT v) A' c' = .agg #[.int .i64 2, .int .i64 0, .string v, .slice A' 0 c']) := Lib.hid (fun _ _ => rfl)
 have hB0 := (((Below.refl w.heap.size w).alloc (Nat.le_refl _) (.cells #[.string nm, .int .i64 kd, .int .i64 num, .string fnm, .slice A 0 c, .slice (some ⟨b, 0, none⟩) n n, .func (.func 91) #[] #[], .func fb #[] #[]] 72)).alloc (by simp) (.cells #[.int .i64 q, .int .i64 u, .bool cc, .bool dd] 23)).alloc (by simp; omega) (.cells #[.int .i64 0, .int .i64 0, .string ⟨#[]⟩, .slice none 0 0] 26)
 have hi0 : (0 : Int) ≤ (i : Int) := by omega
 have hi1 : (i : Int) < (n : Int) := by omega
 have hnil : ∀ W, (binOp .eql 29 (.slice (some ⟨b, 0, none⟩) n n) (.slice none 0 0)).run Tryz.prog W = .ok (.bool false) W := fun W => Lib.run_eql_slice_some_nil W _ _ _ Tryz.underlying29
 go_enter Tryz.func46, Tryz.ntmps46
 go_wp2_with fail
 have hR0 : R4 w (((w.alloc (.cells #[.string nm, .int .i64 kd, .int .i64 num, .string fnm, .slice A 0 c, .slice (some ⟨b, 0, none⟩) n n, .func (.func 91) #[] #[], .func fb #[] #[]] 72)).alloc (.cells #[.int .i64 q, .int .i64 u, .bool cc, .bool dd] 23)).alloc (.cells #[.int .i64 0, .int .i64 0, .string ⟨#[]⟩, .slice none 0 0] 26)) (w.heap.size + 1 + 1) := by
  have := R4.start (w0 := w) (w := ((w.alloc (.cells #[.string nm, .int .i64 kd, .int .i64 num, .string fnm, .slice A 0 c, .slice (some ⟨b, 0, none⟩) n n, .func (.func 91) #[] #[], .func fb #[] #[]] 72)).alloc (.cells #[.int .i64 q, .int .i64 u, .bool cc, .bool dd] 23))) (((Below.refl w.heap.size w).alloc (Nat.le_refl _) _).alloc (by simp) _) (.int .i64 0) (.int .i64 0) (.string ⟨#[]⟩) (.slice none 0 0) 26
  simpa using this
 obtain ⟨W0, HW0⟩ : ∃ W0, Hid (W0 = ((w.alloc (.cells #[.string nm, .int .i64 kd, .int .i64 num, .string fnm, .slice A 0 c, .slice (some ⟨b, 0, none⟩) n n, .func (.func 91) #[] #[], .func fb #[] #[]] 72)).alloc (.cells #[.int .i64 q, .int .i64 u, .bool cc, .bool dd] 23)).alloc (.cells #[.int .i64 0, .int .i64 0, .string ⟨#[]⟩, .slice none 0 0] 26)) := ⟨_, Lib.hid rfl⟩
 rw [← HW0.out] at hB0 hR0 ⊢
 have hs0 : W0.heap.size = w.heap.size + 3 := by rw [HW0.out]; simp
 have HS : Hid (∀ X, RB w W0 (w.heap.size + 1 + 1) X → (X.cell? ⟨w.heap.size, 5, none⟩ = some (.slice (some ⟨b, 0, none⟩) n n) ∧ X.cell? ⟨w.heap.size, 6, none⟩ = some (.func (.func 91) #[] #[]) ∧ X.cell? ⟨w.heap.size + 1, 0, none⟩ = some (.int .i64 q) ∧ X.cell? ⟨w.heap.size + 1, 1, none⟩ = some (.int .i64 u) ∧ X.cell? ⟨w.heap.size + 1, 2, none⟩ = some (.bool cc) ∧ X.cell? ⟨w.heap.size + 1, 3, none⟩ = some (.bool dd) ∧ X.cell? ⟨b, i, none⟩ = some (.string v) ∧ RB w W0 (w.heap.size + 1 + 1) X)) := by
  refine Lib.hid fun X hX => ?_
  have h0 : W0.cell? ⟨w.heap.size, 5, none⟩ = some (.slice (some ⟨b, 0, none⟩) n n) ∧ W0.cell? ⟨w.heap.size, 6, none⟩ = some (.func (.func 91) #[] #[]) ∧ W0.cell? ⟨w.heap.size + 1, 0, none⟩ = some (.int .i64 q) ∧ W0.cell? ⟨w.heap.size + 1, 1, none⟩ = some (.int .i64 u) ∧ W0.cell? ⟨w.heap.size + 1, 2, none⟩ = some (.bool cc) ∧ W0.cell? ⟨w.heap.size + 1, 3, none⟩ = some (.bool dd) ∧ W0.cell? ⟨b, i, none⟩ = some (.string v) := by
   have hbc := (hB0.cell (p := ⟨b, i, none⟩) hb).trans hc
   rw [HW0.out] at hbc ⊢
   refine ⟨?_, ?_, ?_, ?_, ?_, ?_, hbc⟩ <;> simp [go_sem, World.cell?_alloc_past, World.cell?_alloc_at]
  obtain ⟨c0, c1, c2, c3, c4, c5, c6⟩ := h0
  exact ⟨(hX.bel.cell (p := ⟨w.heap.size, 5, none⟩) (by show w.heap.size < w.heap.size + 1 + 1; omega)).trans c0, (hX.bel.cell (p := ⟨w.heap.size, 6, none⟩) (by show w.heap.size < w.heap.size + 1 + 1; omega)).trans c1, (hX.bel.cell (p := ⟨w.heap.size + 1, 0, none⟩) (by show w.heap.size + 1 < w.heap.size + 1 + 1; omega)).trans c2, (hX.bel.cell (p := ⟨w.heap.size + 1, 1, none⟩) (by show w.heap.size + 1 < w.heap.size + 1 + 1; omega)).trans c3, (hX.bel.cell (p := ⟨w.heap.size + 1, 2, none⟩) (by show w.heap.size + 1 < w.heap.size + 1 + 1; omega)).trans c4, (hX.bel.cell (p := ⟨w.heap.size + 1, 3, none⟩) (by show w.heap.size + 1 < w.heap.size + 1 + 1; omega)).trans c5, (hX.bel.cell (p := ⟨b, i, none⟩) (by show b < w.heap.size + 1 + 1; omega)).trans c6, hX⟩
 have HOF : Hid (∀ X, (X.cell? ⟨w.heap.size, 5, none⟩ = some (.slice (some ⟨b, 0, none⟩) n n) ∧ X.cell? ⟨w.heap.size, 6, none⟩ = some (.func (.func 91) #[] #[]) ∧ X.cell? ⟨w.heap.size + 1, 0, none⟩ = some (.int .i64 q) ∧ X.cell? ⟨w.heap.size + 1, 1, none⟩ = some (.int .i64 u) ∧ X.cell? ⟨w.heap.size + 1, 2, none⟩ = some (.bool cc) ∧ X.cell? ⟨w.heap.size + 1, 3, none⟩ = some (.bool dd) ∧ X.cell? ⟨b, i, none⟩ = some (.string v) ∧ RB w W0 (w.heap.size + 1 + 1) X) → RB w W0 (w.heap.size + 1 + 1) X) := Lib.hid fun X h => h.2.2.2.2.2.2.2
 have hRf : Hid (RB w W0 (w.heap.size + 1 + 1) W0.drew) := Lib.hid (RB.call (X := W0) ⟨hR0, Below.refl _ _⟩ (by omega) (Below.refl _ _).drew)
 clear hB0 hR0 HW0 hb hc hs0
 go_region_held3 (fun X => (X.cell? ⟨w.heap.size, 5, none⟩ = some (.slice (some ⟨b, 0, none⟩) n n) ∧ X.cell? ⟨w.heap.size, 6, none⟩ = some (.func (.func 91) #[] #[]) ∧ X.cell? ⟨w.heap.size + 1, 0, none⟩ = some (.int .i64 q) ∧ X.cell? ⟨w.heap.size + 1, 1, none⟩ = some (.int .i64 u) ∧ X.cell? ⟨w.heap.size + 1, 2, none⟩ = some (.bool cc) ∧ X.cell? ⟨w.heap.size + 1, 3, none⟩ = some (.bool dd) ∧ X.cell? ⟨b, i, none⟩ = some (.string v) ∧ RB w W0 (w.heap.size + 1 + 1) X))
   (first
    | with_reducible exact HS.out _ hRf.out
    | with_reducible exact HS.out _ hX3
    | with_reducible exact HS.out _ hX4
    | with_reducible exact HS.out _ (RB.put4 hX4 _ _ _ _))
   (first
    | (go_at_call 85; (with_reducible refine (HA.out _).mono ?_); rintro e w4 ⟨A4, c4, rfl, hB4⟩; rw [HE.out]; have hX4 := RB.call (HOF.out _ (by with_reducible assumption)) (HOF.out _ (by with_reducible assumption)).le hB4; obtain ⟨u0, r0⟩ := hX4.r.r0; obtain ⟨u1, r1⟩ := hX4.r.r1; obtain ⟨u2, r2⟩ := hX4.r.r2; obtain ⟨u3, r3⟩ := hX4.r.r3; have f0 := hX4.r.fr 0; have f1 := hX4.r.fr 1; have f2 := hX4.r.fr 2; have f3 := hX4.r.fr 3)
    | (go_at_call 91; (with_reducible refine (HG.out _).mono ?_); rintro e w3 ⟨rfl, hB3⟩; have hX3 := RB.call (HOF.out _ (by with_reducible assumption)) (HOF.out _ (by with_reducible assumption)).le hB3)
    | fail)
 have HP := Lib.hid (hX4.r.put (.int .i64 2) (.int .i64 0) (.string v) (.slice A4 0 c4))
 go_wp2_with fail
 exact bodyPost_ret (v := .agg #[.int .i64 2, .int .i64 0, .string v, .slice A4 0 c4]) (by simp [results, Tryz.results46, go_sem, r0, r1, r2, r3]) rfl ⟨A4, c4, by rw [HE.out], HP.out⟩
set_option maxHeartbeats 3200000 in
theorem f_value_8 (f : FlR) (nm : ByteArray) (kd num : Int) (fnm : ByteArray) (A : Option Addr) (c b n : Nat) (fb : Fn) (i : Nat) (v : ByteArray) (hv : v.size ≤ 100) (w : World) (hi : i < n) (hb : b < w.heap.size) (hc : w.cell? ⟨b, i, none⟩ = some (.string v))
  (HG0 : ∀ W, Calls Tryz.prog 94 #[flV f] W fun e w' => e = .returned (.int .i64 i) ∧ Below W.heap.size W w') :
  Calls Tryz.prog 46 #[.agg #[.string nm, .int .i64 kd, .int .i64 num, .string fnm, .slice A 0 c, .slice (some ⟨b, 0, none⟩) n n, .func (.func 94) #[] #[], .func fb #[] #[]], flV f] w fun e w' => ∃ A' c', e = .returned (tmV (atomT v) A' c') ∧ Below w.heap.size w w' := by
 unfold flV at HG0 ⊢
 generalize f.q = q at *
 generalize f.u = u at *
 generalize f.c = cc at *
 generalize f.d = dd at *
 have HG := Lib.hid HG0
 clear HG0
 have HA := Lib.hid (fun W => t_atom v hv W)
 have HE : Hid (∀ (A' : Option Addr) (c' : Nat), tmV (atomT v) A' c' = .agg #[.int .i64 2, .int .i64 0, .string v, .slice A' 0 c']) := Lib.hid (fun _ _ => rfl)
 have hB0 := (((Below.refl w.heap.size w).alloc (Nat.le_refl _) (.cells #[.string nm, .int .i64 kd, .int .i64 num, .string fnm, .slice A 0 c, .slice (some ⟨b, 0, none⟩) n n, .func (.func 94) #[] #[], .func fb #[] #[]] 72)).alloc (by simp) (.cells #[.int .i64 q, .int .i64 u, .bool cc, .bool dd] 23)).alloc (by simp; omega) (.cells #[.int .i64 0, .int .i64 0, .string ⟨#[]⟩, .slice none 0 0] 26)
 have hi0 : (0 : Int) ≤ (i : Int) := by omega
 have hi1 : (i : Int) < (n : Int) := by omega
 have hnil : ∀ W, (binOp .eql 29 (.slice (some ⟨b, 0, none⟩) n n) (.slice none 0 0)).run Tryz.prog W = .ok (.bool false) W := fun W => Lib.run_eql_slice_some_nil W _ _ _ Tryz.underlying29
 go_enter Tryz.func46, Tryz.ntmps46
 go_wp2_with fail
 have hR0 : R4 w (((w.alloc (.cells #[.string nm, .int .i64 kd, .int .i64 num, .string fnm, .slice A 0 c, .slice (some ⟨b, 0, none⟩) n n, .func (.func 94) #[] #[], .func fb #[] #[]] 72)).alloc (.cells #[.int .i64 q, .int .i64 u, .bool cc, .bool dd] 23)).alloc (.cells #[.int .i64 0, .int .i64 0, .string ⟨#[]⟩, .slice none 0 0] 26)) (w.heap.size + 1 + 1) := by
  have := R4.start (w0 := w) (w := ((w.alloc (.cells #[.string nm, .int .i64 kd, .int .i64 num, .string fnm, .slice A 0 c, .slice (some ⟨b, 0, none⟩) n n, .func (.func 94) #[] #[], .func fb #[] #[]] 72)).alloc (.cells #[.int .i64 q, .int .i64 u, .bool cc, .bool dd] 23))) (((Below.refl w.heap.size w).alloc (Nat.le_refl _) _).alloc (by simp) _) (.int .i64 0) (.int .i64 0) (.string ⟨#[]⟩) (.slice none 0 0) 26
  simpa using this
 obtain ⟨W0, HW0⟩ : ∃ W0, Hid (W0 = ((w.alloc (.cells #[.string nm, .int .i64 kd, .int .i64 num, .string fnm, .slice A 0 c, .slice (some ⟨b, 0, none⟩) n n, .func (.func 94) #[] #[], .func fb #[] #[]] 72)).alloc (.cells #[.int .i64 q, .int .i64 u, .bool cc, .bool dd] 23)).alloc (.cells #[.int .i64 0, .int .i64 0, .string ⟨#[]⟩, .slice none 0 0] 26)) := ⟨_, Lib.hid rfl⟩
 rw [← HW0.out] at hB0 hR0 ⊢
 have hs0 : W0.heap.size = w.heap.size + 3 := by rw [HW0.out]; simp
 have HS : Hid (∀ X, RB w W0 (w.heap.size + 1 + 1) X → (X.cell? ⟨w.heap.size, 5, none⟩ = some (.slice (some ⟨b, 0, none⟩) n n) ∧ X.cell? ⟨w.heap.size, 6, none⟩ = some (.func (.func 94) #[] #[]) ∧ X.cell? ⟨w.heap.size + 1, 0, none⟩ = some (.int .i64 q) ∧ X.cell? ⟨w.heap.size + 1, 1, none⟩ = some (.int .i64 u) ∧ X.cell? ⟨w.heap.size + 1, 2, none⟩ = some (.bool cc) ∧ X.cell? ⟨w.heap.size + 1, 3, none⟩ = some (.bool dd) ∧ X.cell? ⟨b, i, none⟩ = some (.string v) ∧ RB w W0 (w.heap.size + 1 + 1) X)) := by
  refine Lib.hid fun X hX => ?_
  have h0 : W0.cell? ⟨w.heap.size, 5, none⟩ = some (.slice (some ⟨b, 0, none⟩) n n) ∧ W0.cell? ⟨w.heap.size, 6, none⟩ = some (.func (.func 94) #[] #[]) ∧ W0.cell? ⟨w.heap.size + 1, 0, none⟩ = some (.int .i64 q) ∧ W0.cell? ⟨w.heap.size + 1, 1, none⟩ = some (.int .i64 u) ∧ W0.cell? ⟨w.heap.size + 1, 2, none⟩ = some (.bool cc) ∧ W0.cell? ⟨w.heap.size + 1, 3, none⟩ = some (.bool dd) ∧ W0.cell? ⟨b, i, none⟩ = some (.string v) := by
   have hbc := (hB0.cell (p := ⟨b, i, none⟩) hb).trans hc
   rw [HW0.out] at hbc ⊢
   refine ⟨?_, ?_, ?_, ?_, ?_, ?_, hbc⟩ <;> simp [go_sem, World.cell?_alloc_past, World.cell?_alloc_at]
  obtain ⟨c0, c1, c2, c3, c4, c5, c6⟩ := h0
  exact ⟨(hX.bel.cell (p := ⟨w.heap.size, 5, none⟩) (by show w.heap.size < w.heap.size + 1 + 1; omega)).trans c0, (hX.bel.cell (p := ⟨w.heap.size, 6, none⟩) (by show w.heap.size < w.heap.size + 1 + 1; omega)).trans c1, (hX.bel.cell (p := ⟨w.heap.size + 1, 0, none⟩) (by show w.heap.size + 1 < w.heap.size + 1 + 1; omega)).trans c2, (hX.bel.cell (p := ⟨w.heap.size + 1, 1, none⟩) (by show w.heap.size + 1 < w.heap.size + 1 + 1; omega)).trans c3, (hX.bel.cell (p := ⟨w.heap.size + 1, 2, none⟩) (by show w.heap.size + 1 < w.heap.size + 1 + 1; omega)).trans c4, (hX.bel.cell (p := ⟨w.heap.size + 1, 3, none⟩) (by show w.heap.size + 1 < w.heap.size + 1 + 1; omega)).trans c5, (hX.bel.cell (p := ⟨b, i, none⟩) (by show b < w.heap.size + 1 + 1; omega)).trans c6, hX⟩
 have HOF : Hid (∀ X, (X.cell? ⟨w.heap.size, 5, none⟩ = some (.slice (some ⟨b, 0, none⟩) n n) ∧ X.cell? ⟨w.heap.size, 6, none⟩ = some (.func (.func 94) #[] #[]) ∧ X.cell? ⟨w.heap.size + 1, 0, none⟩ = some (.int .i64 q) ∧ X.cell? ⟨w.heap.size + 1, 1, none⟩ = some (.int .i64 u) ∧ X.cell? ⟨w.heap.size + 1, 2, none⟩ = some (.bool cc) ∧ X.cell? ⟨w.heap.size + 1, 3, none⟩ = some (.bool dd) ∧ X.cell? ⟨b, i, none⟩ = some (.string v) ∧ RB w W0 (w.heap.size + 1 + 1) X) → RB w W0 (w.heap.size + 1 + 1) X) := Lib.hid fun X h => h.2.2.2.2.2.2.2
 have hRf : Hid (RB w W0 (w.heap.size + 1 + 1) W0.drew) := Lib.hid (RB.call (X := W0) ⟨hR0, Below.refl _ _⟩ (by omega) (Below.refl _ _).drew)
 clear hB0 hR0 HW0 hb hc hs0
 go_region_held3 (fun X => (X.cell? ⟨w.heap.size, 5, none⟩ = some (.slice (some ⟨b, 0, none⟩) n n) ∧ X.cell? ⟨w.heap.size, 6, none⟩ = some (.func (.func 94) #[] #[]) ∧ X.cell? ⟨w.heap.size + 1, 0, none⟩ = some (.int .i64 q) ∧ X.cell? ⟨w.heap.size + 1, 1, none⟩ = some (.int .i64 u) ∧ X.cell? ⟨w.heap.size + 1, 2, none⟩ = some (.bool cc) ∧ X.cell? ⟨w.heap.size + 1, 3, none⟩ = some (.bool dd) ∧ X.cell? ⟨b, i, none⟩ = some (.string v) ∧ RB w W0 (w.heap.size + 1 + 1) X))
   (first
    | with_reducible exact HS.out _ hRf.out
    | with_reducible exact HS.out _ hX3
    | with_reducible exact HS.out _ hX4
    | with_reducible exact HS.out _ (RB.put4 hX4 _ _ _ _))
   (first
    | (go_at_call 85; (with_reducible refine (HA.out _).mono ?_); rintro e w4 ⟨A4, c4, rfl, hB4⟩; rw [HE.out]; have hX4 := RB.call (HOF.out _ (by with_reducible assumption)) (HOF.out _ (by with_reducible assumption)).le hB4; obtain ⟨u0, r0⟩ := hX4.r.r0; obtain ⟨u1, r1⟩ := hX4.r.r1; obtain ⟨u2, r2⟩ := hX4.r.r2; obtain ⟨u3, r3⟩ := hX4.r.r3; have f0 := hX4.r.fr 0; have f1 := hX4.r.fr 1; have f2 := hX4.r.fr 2; have f3 := hX4.r.fr 3)
    | (go_at_call 94; (with_reducible refine (HG.out _).mono ?_); rintro e w3 ⟨rfl, hB3⟩; have hX3 := RB.call (HOF.out _ (by with_reducible assumption)) (HOF.out _ (by with_reducible assumption)).le hB3)
    | fail)
 have HP := Lib.hid (hX4.r.put (.int .i64 2) (.int .i64 0) (.string v) (.slice A4 0 c4))
 go_wp2_with fail
 exact bodyPost_ret (v := .agg #[.int .i64 2, .int .i64 0, .string v, .slice A4 0 c4]) (by simp [results, Tryz.results46, go_sem, r0, r1, r2, r3]) rfl ⟨A4, c4, by rw [HE.out], HP.out⟩
set_option maxHeartbeats 1600000 in
theorem f_value_a (f : FlR) (nm : ByteArray) (fx : Tm) (hfx : fx.args = []) (A : Option Addr) (c : Nat) (w : World) :
  Calls Tryz.prog 46 #[.agg #[.string nm, .int .i64 fx.kind, .int .i64 fx.num, .string fx.name, .slice A 0 c, .slice none 0 0, .nilFunc, .nilFunc], flV f] w fun e w' => ∃ A' c', e = .returned (tmV fx A' c') ∧ Below w.heap.size w w' := by
 unfold flV
 generalize f.q = q at *
 generalize f.u = u at *
 generalize f.c = cc at *
 generalize f.d = dd at *
 have HE : Hid (∀ (A' : Option Addr) (c' : Nat), tmV fx A' c' = .agg #[.int .i64 fx.kind, .int .i64 fx.num, .string fx.name, .slice A' 0 c']) := Lib.hid (fun _ _ => by unfold tmV; rw [hfx]; rfl)
 have hB0 := (((Below.refl w.heap.size w).alloc (Nat.le_refl _) (.cells #[.string nm, .int .i64 fx.kind, .int .i64 fx.num, .string fx.name, .slice A 0 c, .slice none 0 0, .nilFunc, .nilFunc] 72)).alloc (by simp) (.cells #[.int .i64 q, .int .i64 u, .bool cc, .bool dd] 23))
 have HB := Lib.hid (hB0.alloc hB0.size (.cells #[.int .i64 fx.kind, .int .i64 fx.num, .string fx.name, .slice A 0 c] 26))
 clear hB0
 have hnil : ∀ W, (binOp .eql 29 (.slice none 0 0) (.slice none 0 0)).run Tryz.prog W = .ok (.bool true) W := fun W => Lib.run_eql_slice_nil_nil W _ _ Tryz.underlying29
 go_enter Tryz.func46, Tryz.ntmps46
 go_wp2_with fail
 refine bodyPost_ret (v := .agg #[.int .i64 fx.kind, .int .i64 fx.num, .string fx.name, .slice A 0 c]) (by simp [results, Tryz.results46, go_sem]) rfl ⟨A, c, by rw [HE.out], HB.out⟩
end Go.Proofs.YtfkhcpeahdkafaaGreat
namespace Hb
open Go Go.RowKit
def getT (f : FlR) (s : ByteArray) : Tm := if flOk f = true then (if fIx s < 9 then fVal f (fIx s) else tm0) else tm0
def getE (f : FlR) (s : ByteArray) : Int := if flOk f = true then (if fIx s < 9 then 0 else 4) else 1
theorem fGet_lt {f : FlR} (hf : flOk f = true) (k : Nat) (hk : k < 9) (hv : fVL k ≠ []) : ∃ i : Nat, fGet f k = i ∧ i < (fVL k).length := by
 unfold flOk at hf
 simp at hf
 rcases (show k = 0 ∨ k = 1 ∨ k = 2 ∨ k = 3 ∨ k = 4 ∨ k = 5 ∨ k = 6 ∨ k = 7 ∨ k = 8 by omega) with rfl | rfl | rfl | rfl | rfl | rfl | rfl | rfl | rfl
 ·exact absurd rfl hv
 ·cases hc : f.c
  ·exact ⟨0, by simp [fGet, hc], by decide⟩
  ·exact ⟨1, by simp [fGet, hc], by decide⟩
 ·cases hc : f.d
  ·exact ⟨0, by simp [fGet, hc], by decide⟩
  ·exact ⟨1, by simp [fGet, hc], by decide⟩
 ·exact ⟨(f.q - 1).toNat, by show f.q - 1 = _; omega, by show _ < 3; omega⟩
 ·exact absurd rfl hv
 ·exact absurd rfl hv
 ·exact absurd rfl hv
 ·exact absurd rfl hv
 ·exact ⟨(f.u - 1).toNat, by show f.u - 1 = _; omega, by show _ < 2; omega⟩
theorem fVL_small (k i : Nat) (hk : k < 9) : ((fVL k).getD i ⟨#[]⟩).size ≤ 100 := by
 rcases (show k = 0 ∨ k = 1 ∨ k = 2 ∨ k = 3 ∨ k = 4 ∨ k = 5 ∨ k = 6 ∨ k = 7 ∨ k = 8 by omega) with rfl | rfl | rfl | rfl | rfl | rfl | rfl | rfl | rfl <;> (rcases i with _ | _ | _ | i <;> first | decide | (simp [fVL, sOffOn, sQuo, sUnk]; decide))
end Hb
namespace Go.Proofs.YtfkhcpeahdkafaaGreat
open Go.RowKit Hb
set_option maxRecDepth 100000
theorem fF_nil (k : Nat) (hk : k < 9) (h : fVL k = []) : fGF k = .nilFunc ∧ fSF k = .nilFunc := by
 rcases (show k = 0 ∨ k = 1 ∨ k = 2 ∨ k = 3 ∨ k = 4 ∨ k = 5 ∨ k = 6 ∨ k = 7 ∨ k = 8 by omega) with rfl | rfl | rfl | rfl | rfl | rfl | rfl | rfl | rfl <;> first | exact ⟨rfl, rfl⟩ | cases h
set_option maxHeartbeats 800000 in
theorem f_value {lo : Nat} (f : FlR) (hf : flOk f = true) (k : Nat) (hk : k < 9) (A : Option Addr) (c : Nat) (u : Value) (w : World) (hv : VRow lo w k u) :
  Calls Tryz.prog 46 #[flagV k A c u, flV f] w fun e w' => ∃ A' c', e = .returned (tmV (fVal f k) A' c') ∧ Below w.heap.size w w' := by
 by_cases h0 : fVL k = []
 ·have hu : u = .slice none 0 0 := by
   rcases hv with ⟨_, h⟩ | ⟨b, _, _, h, _⟩
   ·exact h
   ·rw [h0] at h; exact absurd h (by decide)
  subst hu
  have e : fVal f k = fFx k := if_pos h0
  rw [e]
  have hg := fF_nil k hk h0
  unfold flagV
  rw [hg.1, hg.2]
  exact f_value_a f (fN k) (fFx k) (fFx_args k hk) A c w
 ·obtain ⟨i, hi, hlt⟩ := fGet_lt hf k hk h0
  have e : fVal f k = atomT ((fVL k).getD i ⟨#[]⟩) := by unfold fVal; rw [if_neg h0, hi]; rfl
  rw [e]
  rcases hv with ⟨h, _⟩ | ⟨b, _, rfl, _, hb, hc⟩
  ·exact absurd h h0
  have hs := fVL_small k i hk
  have hci : w.cell? ⟨b, i, none⟩ = some (.string ((fVL k).getD i ⟨#[]⟩)) := by rw [hc i hlt, List.getD_eq_getElem?_getD, List.getElem?_eq_getElem hlt]; rfl
  rcases (show k = 0 ∨ k = 1 ∨ k = 2 ∨ k = 3 ∨ k = 4 ∨ k = 5 ∨ k = 6 ∨ k = 7 ∨ k = 8 by omega) with rfl | rfl | rfl | rfl | rfl | rfl | rfl | rfl | rfl
  ·exact absurd rfl h0
  ·unfold flagV
   rw [show fGF 1 = .func (.func 86) #[] #[] from rfl, show fSF 1 = .func (.func 88) #[] #[] from rfl]
   exact f_value_1 f (fN 1) _ _ _ A c b _ _ i _ hs w hlt hb hci (fun W => (get_1 f W).mono (by rintro e w' ⟨rfl, hB⟩; exact ⟨by rw [hi], hB⟩))
  ·unfold flagV
   rw [show fGF 2 = .func (.func 89) #[] #[] from rfl, show fSF 2 = .func (.func 90) #[] #[] from rfl]
   exact f_value_2 f (fN 2) _ _ _ A c b _ _ i _ hs w hlt hb hci (fun W => (get_2 f W).mono (by rintro e w' ⟨rfl, hB⟩; exact ⟨by rw [hi], hB⟩))
  ·unfold flagV
   rw [show fGF 3 = .func (.func 91) #[] #[] from rfl, show fSF 3 = .func (.func 92) #[] #[] from rfl]
   exact f_value_3 f (fN 3) _ _ _ A c b _ _ i _ hs w hlt hb hci (fun W => (get_3 f hf W).mono (by rintro e w' ⟨rfl, hB⟩; exact ⟨by rw [hi], hB⟩))
  ·exact absurd rfl h0
  ·exact absurd rfl h0
  ·exact absurd rfl h0
  ·exact absurd rfl h0
  ·unfold flagV
   rw [show fGF 8 = .func (.func 94) #[] #[] from rfl, show fSF 8 = .func (.func 95) #[] #[] from rfl]
   exact f_value_8 f (fN 8) _ _ _ A c b _ _ i _ hs w hlt hb hci (fun W => (get_8 f hf W).mono (by rintro e w' ⟨rfl, hB⟩; exact ⟨by rw [hi], hB⟩))
end Go.Proofs.YtfkhcpeahdkafaaGreat
