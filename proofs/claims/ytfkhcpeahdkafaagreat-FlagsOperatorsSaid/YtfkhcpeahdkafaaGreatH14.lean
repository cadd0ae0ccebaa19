/- Flags: Set. Flags: Set, the walk. -/
import Derived.Test.YtfkhcpeahdkafaaGreatH13
import Derived.Test.YtfkhcpeahdkafaaGreatShelf
import Derived.Test.YtfkhcpeahdkafaaGreatH02
namespace Hb
open Go Go.RowKit
def setI (k : Nat) (s : ByteArray) : Int := Lib.idxOfS (fVL k) s
theorem idxFromS_lt (x : ByteArray) : ∀ (zs : List ByteArray) (i : Nat), Lib.idxFromS zs x i = -1 ∨ ((i : Int) ≤ Lib.idxFromS zs x i ∧ Lib.idxFromS zs x i < i + zs.length)
 | [], i => .inl (by simp [Lib.idxFromS])
 | z :: zs, i => by
  unfold Lib.idxFromS
  split
  ·right; simp; omega
  ·rcases idxFromS_lt x zs (i + 1) with h | ⟨h1, h2⟩
   ·exact .inl h
   ·right; simp at h1 h2 ⊢; omega
theorem fVL_len (k : Nat) : (fVL k).length ≤ 3 := by
 rcases k with _ | _ | _ | _ | _ | _ | _ | _ | _ | k <;> first | decide | (simp [fVL]; done)
theorem setI_lt (k : Nat) (s : ByteArray) : setI k s = -1 ∨ (0 ≤ setI k s ∧ setI k s ≤ 3) := by
 have := fVL_len k
 rcases idxFromS_lt s (fVL k) 0 with h | ⟨h1, h2⟩
 ·exact .inl h
 ·refine .inr ⟨?_, ?_⟩ <;> unfold setI Lib.idxOfS <;> omega
theorem fVL_ks (k : Nat) (hk : k < 9) (h : ¬ fVL k = []) : k = 1 ∨ k = 2 ∨ k = 3 ∨ k = 8 := by
 rcases (show k = 0 ∨ k = 1 ∨ k = 2 ∨ k = 3 ∨ k = 4 ∨ k = 5 ∨ k = 6 ∨ k = 7 ∨ k = 8 by omega) with rfl | rfl | rfl | rfl | rfl | rfl | rfl | rfl | rfl <;> first | omega | exact absurd rfl h
def setE (f : FlR) (s : ByteArray) (t : Tm) : Int := if flOk f = true ∧ validT t = true then (if fIx s < 9 then (if fVL (fIx s) = [] then 5 else if t.kind = 2 ∧ 0 ≤ setI (fIx s) t.name then 0 else 3) else 4) else 1
def setF (f : FlR) (s : ByteArray) (t : Tm) : FlR := if setE f s t = 0 then fSet f (fIx s) (setI (fIx s) t.name) else fl0
end Hb
namespace Go.Proofs.YtfkhcpeahdkafaaGreat
open Go.RowKit Hb
set_option maxRecDepth 100000
structure SB (w0 : World) (f : FlR) (X : World) : Prop where
 r : R4 w0 X (w0.heap.size + 1 + 1)
 fz : ∀ o, X.frozen? ⟨w0.heap.size, o, none⟩ = false
 c0 : X.cell? ⟨w0.heap.size, 0, none⟩ = some (.int .i64 f.q)
 c1 : X.cell? ⟨w0.heap.size, 1, none⟩ = some (.int .i64 f.u)
 c2 : X.cell? ⟨w0.heap.size, 2, none⟩ = some (.bool f.c)
 c3 : X.cell? ⟨w0.heap.size, 3, none⟩ = some (.bool f.d)
structure TB (w0 : World) (t : Tm) (A : Option Addr) (cap : Nat) (X : World) : Prop where
 lt : w0.heap.size + 1 < X.heap.size
 c0 : X.cell? ⟨w0.heap.size + 1, 0, none⟩ = some (.int .i64 t.kind)
 c1 : X.cell? ⟨w0.heap.size + 1, 1, none⟩ = some (.int .i64 t.num)
 c2 : X.cell? ⟨w0.heap.size + 1, 2, none⟩ = some (.string t.name)
 c3 : X.cell? ⟨w0.heap.size + 1, 3, none⟩ = some (.slice A t.args.length cap)
theorem SB.call {w0 : World} {f : FlR} {X X' : World} (h : SB w0 f X) (hB : Below X.heap.size X X') : SB w0 f X' := by
 have hl : w0.heap.size < X.heap.size := by have := h.r.lt; omega
 exact ⟨h.r.call hB, fun o => (hB.frozen (p := ⟨_, o, none⟩) hl).trans (h.fz o), (hB.cell (p := ⟨_, _, none⟩) hl).trans h.c0, (hB.cell (p := ⟨_, _, none⟩) hl).trans h.c1, (hB.cell (p := ⟨_, _, none⟩) hl).trans h.c2, (hB.cell (p := ⟨_, _, none⟩) hl).trans h.c3⟩
theorem TB.call {w0 : World} {t : Tm} {A : Option Addr} {cap : Nat} {X X' : World} (h : TB w0 t A cap X) (hB : Below X.heap.size X X') : TB w0 t A cap X' :=
 ⟨Nat.lt_of_lt_of_le h.lt hB.size, (hB.cell (p := ⟨_, _, none⟩) h.lt).trans h.c0, (hB.cell (p := ⟨_, _, none⟩) h.lt).trans h.c1, (hB.cell (p := ⟨_, _, none⟩) h.lt).trans h.c2, (hB.cell (p := ⟨_, _, none⟩) h.lt).trans h.c3⟩
def sbW (w : World) (f : FlR) (t : Tm) (A : Option Addr) (cap : Nat) : World := ((w.alloc (.cells #[.int .i64 f.q, .int .i64 f.u, .bool f.c, .bool f.d] 23)).alloc (.cells #[.int .i64 t.kind, .int .i64 t.num, .string t.name, .slice A t.args.length cap] 26)).alloc (.cells #[.int .i64 0, .int .i64 0, .bool false, .bool false] 23)
theorem SB.start (w : World) (f : FlR) (t : Tm) (A : Option Addr) (cap : Nat) : SB w f (sbW w f t A cap) ∧ TB w t A cap (sbW w f t A cap) := by
 have hr := R4.start (w0 := w) (w := (w.alloc (.cells #[.int .i64 f.q, .int .i64 f.u, .bool f.c, .bool f.d] 23)).alloc (.cells #[.int .i64 t.kind, .int .i64 t.num, .string t.name, .slice A t.args.length cap] 26)) (((Below.refl _ _).alloc (Nat.le_refl _) _).alloc (by simp) _) (.int .i64 0) (.int .i64 0) (.bool false) (.bool false) 23
 have hz : ∀ o, (w.alloc (.cells #[.int .i64 f.q, .int .i64 f.u, .bool f.c, .bool f.d] 23)).frozen? ⟨w.heap.size, o, none⟩ = false := fun o => World.frozen?_alloc_new _ _ _ _
 have hB1 := (Below.refl (w.heap.size + 1) (w.alloc (.cells #[.int .i64 f.q, .int .i64 f.u, .bool f.c, .bool f.d] 23))).alloc (by simp) (.cells #[.int .i64 t.kind, .int .i64 t.num, .string t.name, .slice A t.args.length cap] 26)
 have hB2 := hB1.alloc (by simp) (.cells #[.int .i64 0, .int .i64 0, .bool false, .bool false] 23)
 unfold sbW
 refine ⟨⟨by simpa using hr, fun o => (hB2.frozen (p := ⟨w.heap.size, o, none⟩) (by show w.heap.size < w.heap.size + 1; omega)).trans (hz o), ?_, ?_, ?_, ?_⟩, ⟨by simp, ?_, ?_, ?_, ?_⟩⟩ <;> simp [go_sem, World.cell?_alloc_past, World.cell?_alloc_at]
theorem SB.put1 {w0 : World} {f : FlR} {X : World} (h : SB w0 f X) (v : Bool) : SB w0 { f with c := v } (X.setCell ⟨w0.heap.size, 2, none⟩ (.bool v)) := by
 have hs : ∀ j o, (X.setCell ⟨w0.heap.size, 2, none⟩ (.bool v)).cell? ⟨w0.heap.size + 1 + 1, j, none⟩ = X.cell? ⟨w0.heap.size + 1 + 1, j, none⟩ ∧ (X.setCell ⟨w0.heap.size, 2, none⟩ (.bool v)).frozen? ⟨w0.heap.size + 1 + 1, o, none⟩ = X.frozen? ⟨w0.heap.size + 1 + 1, o, none⟩ := fun j o =>
  ⟨World.cell?_setCell_other _ _ _ _ (fun e => by injection e with e1 _ _; omega), by simp⟩
 have hr := h.r
 exact ⟨⟨hr.bel.setCell (p := ⟨_, _, none⟩) (Nat.le_refl _) _, hr.le, by simpa using hr.lt, hr.r0.imp fun _ hh => ((hs 0 0).1).trans hh, hr.r1.imp fun _ hh => ((hs 1 0).1).trans hh, hr.r2.imp fun _ hh => ((hs 2 0).1).trans hh, hr.r3.imp fun _ hh => ((hs 3 0).1).trans hh, fun o => ((hs 0 o).2).trans (hr.fr o)⟩, fun o => by simpa using h.fz o, (World.cell?_setCell_other _ _ _ _ (fun e => by injection e with _ e2 _; omega)).trans h.c0, (World.cell?_setCell_other _ _ _ _ (fun e => by injection e with _ e2 _; omega)).trans h.c1, World.cell?_setCell_same _ _ _ h.c2, (World.cell?_setCell_other _ _ _ _ (fun e => by injection e with _ e2 _; omega)).trans h.c3⟩
theorem SB.put2 {w0 : World} {f : FlR} {X : World} (h : SB w0 f X) (v : Bool) : SB w0 { f with d := v } (X.setCell ⟨w0.heap.size, 3, none⟩ (.bool v)) := by
 have hs : ∀ j o, (X.setCell ⟨w0.heap.size, 3, none⟩ (.bool v)).cell? ⟨w0.heap.size + 1 + 1, j, none⟩ = X.cell? ⟨w0.heap.size + 1 + 1, j, none⟩ ∧ (X.setCell ⟨w0.heap.size, 3, none⟩ (.bool v)).frozen? ⟨w0.heap.size + 1 + 1, o, none⟩ = X.frozen? ⟨w0.heap.size + 1 + 1, o, none⟩ := fun j o =>
  ⟨World.cell?_setCell_other _ _ _ _ (fun e => by injection e with e1 _ _; omega), by simp⟩
 have hr := h.r
 exact ⟨⟨hr.bel.setCell (p := ⟨_, _, none⟩) (Nat.le_refl _) _, hr.le, by simpa using hr.lt, hr.r0.imp fun _ hh => ((hs 0 0).1).trans hh, hr.r1.imp fun _ hh => ((hs 1 0).1).trans hh, hr.r2.imp fun _ hh => ((hs 2 0).1).trans hh, hr.r3.imp fun _ hh => ((hs 3 0).1).trans hh, fun o => ((hs 0 o).2).trans (hr.fr o)⟩, fun o => by simpa using h.fz o, (World.cell?_setCell_other _ _ _ _ (fun e => by injection e with _ e2 _; omega)).trans h.c0, (World.cell?_setCell_other _ _ _ _ (fun e => by injection e with _ e2 _; omega)).trans h.c1, (World.cell?_setCell_other _ _ _ _ (fun e => by injection e with _ e2 _; omega)).trans h.c2, World.cell?_setCell_same _ _ _ h.c3⟩
theorem SB.put3 {w0 : World} {f : FlR} {X : World} (h : SB w0 f X) (v : Int) : SB w0 { f with q := v } (X.setCell ⟨w0.heap.size, 0, none⟩ (.int .i64 v)) := by
 have hs : ∀ j o, (X.setCell ⟨w0.heap.size, 0, none⟩ (.int .i64 v)).cell? ⟨w0.heap.size + 1 + 1, j, none⟩ = X.cell? ⟨w0.heap.size + 1 + 1, j, none⟩ ∧ (X.setCell ⟨w0.heap.size, 0, none⟩ (.int .i64 v)).frozen? ⟨w0.heap.size + 1 + 1, o, none⟩ = X.frozen? ⟨w0.heap.size + 1 + 1, o, none⟩ := fun j o =>
  ⟨World.cell?_setCell_other _ _ _ _ (fun e => by injection e with e1 _ _; omega), by simp⟩
 have hr := h.r
 exact ⟨⟨hr.bel.setCell (p := ⟨_, _, none⟩) (Nat.le_refl _) _, hr.le, by simpa using hr.lt, hr.r0.imp fun _ hh => ((hs 0 0).1).trans hh, hr.r1.imp fun _ hh => ((hs 1 0).1).trans hh, hr.r2.imp fun _ hh => ((hs 2 0).1).trans hh, hr.r3.imp fun _ hh => ((hs 3 0).1).trans hh, fun o => ((hs 0 o).2).trans (hr.fr o)⟩, fun o => by simpa using h.fz o, World.cell?_setCell_same _ _ _ h.c0, (World.cell?_setCell_other _ _ _ _ (fun e => by injection e with _ e2 _; omega)).trans h.c1, (World.cell?_setCell_other _ _ _ _ (fun e => by injection e with _ e2 _; omega)).trans h.c2, (World.cell?_setCell_other _ _ _ _ (fun e => by injection e with _ e2 _; omega)).trans h.c3⟩
theorem SB.put8 {w0 : World} {f : FlR} {X : World} (h : SB w0 f X) (v : Int) : SB w0 { f with u := v } (X.setCell ⟨w0.heap.size, 1, none⟩ (.int .i64 v)) := by
 have hs : ∀ j o, (X.setCell ⟨w0.heap.size, 1, none⟩ (.int .i64 v)).cell? ⟨w0.heap.size + 1 + 1, j, none⟩ = X.cell? ⟨w0.heap.size + 1 + 1, j, none⟩ ∧ (X.setCell ⟨w0.heap.size, 1, none⟩ (.int .i64 v)).frozen? ⟨w0.heap.size + 1 + 1, o, none⟩ = X.frozen? ⟨w0.heap.size + 1 + 1, o, none⟩ := fun j o =>
  ⟨World.cell?_setCell_other _ _ _ _ (fun e => by injection e with e1 _ _; omega), by simp⟩
 have hr := h.r
 exact ⟨⟨hr.bel.setCell (p := ⟨_, _, none⟩) (Nat.le_refl _) _, hr.le, by simpa using hr.lt, hr.r0.imp fun _ hh => ((hs 0 0).1).trans hh, hr.r1.imp fun _ hh => ((hs 1 0).1).trans hh, hr.r2.imp fun _ hh => ((hs 2 0).1).trans hh, hr.r3.imp fun _ hh => ((hs 3 0).1).trans hh, fun o => ((hs 0 o).2).trans (hr.fr o)⟩, fun o => by simpa using h.fz o, (World.cell?_setCell_other _ _ _ _ (fun e => by injection e with _ e2 _; omega)).trans h.c0, World.cell?_setCell_same _ _ _ h.c1, (World.cell?_setCell_other _ _ _ _ (fun e => by injection e with _ e2 _; omega)).trans h.c2, (World.cell?_setCell_other _ _ _ _ (fun e => by injection e with _ e2 _; omega)).trans h.c3⟩
end Go.Proofs.YtfkhcpeahdkafaaGreat
namespace Hb
open Go Go.RowKit
theorem setE_bad {f : FlR} {s : ByteArray} {t : Tm} (h : ¬(flOk f = true ∧ validT t = true)) : setE f s t = 1 ∧ setF f s t = fl0 := by
 have e : setE f s t = 1 := by unfold setE; rw [if_neg h]
 exact ⟨e, by unfold setF; rw [e]; rfl⟩
theorem setE_none {f : FlR} {s : ByteArray} {t : Tm} (h : flOk f = true ∧ validT t = true) (h2 : ¬ fIx s < 9) : setE f s t = 4 ∧ setF f s t = fl0 := by
 have e : setE f s t = 4 := by unfold setE; rw [if_pos h, if_neg h2]
 exact ⟨e, by unfold setF; rw [e]; rfl⟩
theorem setE_ro {f : FlR} {s : ByteArray} {t : Tm} (h : flOk f = true ∧ validT t = true) (h2 : fIx s < 9) (h3 : fVL (fIx s) = []) : setE f s t = 5 ∧ setF f s t = fl0 := by
 have e : setE f s t = 5 := by unfold setE; rw [if_pos h, if_pos h2, if_pos h3]
 exact ⟨e, by unfold setF; rw [e]; rfl⟩
theorem setE_form {f : FlR} {s : ByteArray} {t : Tm} (h : flOk f = true ∧ validT t = true) (h2 : fIx s < 9) (h3 : ¬ fVL (fIx s) = []) (h4 : ¬(t.kind = 2 ∧ 0 ≤ setI (fIx s) t.name)) : setE f s t = 3 ∧ setF f s t = fl0 := by
 have e : setE f s t = 3 := by unfold setE; rw [if_pos h, if_pos h2, if_neg h3, if_neg h4]
 exact ⟨e, by unfold setF; rw [e]; rfl⟩
theorem setE_ok {f : FlR} {s : ByteArray} {t : Tm} (h : flOk f = true ∧ validT t = true) (h2 : fIx s < 9) (h3 : ¬ fVL (fIx s) = []) (h4 : t.kind = 2 ∧ 0 ≤ setI (fIx s) t.name) : setE f s t = 0 ∧ setF f s t = fSet f (fIx s) (setI (fIx s) t.name) := by
 have e : setE f s t = 0 := by unfold setE; rw [if_pos h, if_pos h2, if_neg h3, if_pos h4]
 exact ⟨e, by unfold setF; rw [e]; rfl⟩
end Hb
namespace Go.Proofs.YtfkhcpeahdkafaaGreat
open Go.RowKit Hb
set_option maxRecDepth 100000
set_option maxHeartbeats 6400000 in
theorem f_set (f : FlR) (s : ByteArray) (t : Tm) (A : Option Addr) (cap : Nat) (w : World) (hT : TmsAt w.heap.size w A t.args) : Calls Tryz.prog 20 #[flV f, .string s, tmV t A cap] w fun e w' => e = .returned (.tuple #[flV (setF f s t), .int .i64 (setE f s t)]) ∧ Below w.heap.size w w' := by
 have hs0 := SB.start w f t A cap
 unfold sbW at hs0
 have HS0 := Lib.hid hs0.1
 have HT0 := Lib.hid hs0.2
 clear hs0
 have HFB : Hid (∀ X, SB w f X → X.cell? ⟨w.heap.size, 0, none⟩ = some (.int .i64 f.q) ∧ X.cell? ⟨w.heap.size, 1, none⟩ = some (.int .i64 f.u) ∧ X.cell? ⟨w.heap.size, 2, none⟩ = some (.bool f.c) ∧ X.cell? ⟨w.heap.size, 3, none⟩ = some (.bool f.d)) := Lib.hid fun X h => ⟨h.c0, h.c1, h.c2, h.c3⟩
 have HTB : Hid (∀ X, TB w t A cap X → X.cell? ⟨w.heap.size + 1, 0, none⟩ = some (.int .i64 t.kind) ∧ X.cell? ⟨w.heap.size + 1, 1, none⟩ = some (.int .i64 t.num) ∧ X.cell? ⟨w.heap.size + 1, 2, none⟩ = some (.string t.name) ∧ X.cell? ⟨w.heap.size + 1, 3, none⟩ = some (.slice A t.args.length cap)) := Lib.hid fun X h => ⟨h.c0, h.c1, h.c2, h.c3⟩
 have HF1 : Hid (∀ X i, SB w (fSet f 1 i) X → X.cell? ⟨w.heap.size, 0, none⟩ = some (.int .i64 f.q) ∧ X.cell? ⟨w.heap.size, 1, none⟩ = some (.int .i64 f.u) ∧ X.cell? ⟨w.heap.size, 2, none⟩ = some (.bool (i == 1)) ∧ X.cell? ⟨w.heap.size, 3, none⟩ = some (.bool f.d)) := Lib.hid fun X i h => ⟨h.c0, h.c1, h.c2, h.c3⟩
 have HP1 := Lib.hid (show ∀ X i, SB w f X → SB w (fSet f 1 i) (X.setCell ⟨w.heap.size, 2, none⟩ (.bool (i == 1))) from fun X i h => SB.put1 h (i == 1))
 have HF2 : Hid (∀ X i, SB w (fSet f 2 i) X → X.cell? ⟨w.heap.size, 0, none⟩ = some (.int .i64 f.q) ∧ X.cell? ⟨w.heap.size, 1, none⟩ = some (.int .i64 f.u) ∧ X.cell? ⟨w.heap.size, 2, none⟩ = some (.bool f.c) ∧ X.cell? ⟨w.heap.size, 3, none⟩ = some (.bool (i == 1))) := Lib.hid fun X i h => ⟨h.c0, h.c1, h.c2, h.c3⟩
 have HP2 := Lib.hid (show ∀ X i, SB w f X → SB w (fSet f 2 i) (X.setCell ⟨w.heap.size, 3, none⟩ (.bool (i == 1))) from fun X i h => SB.put2 h (i == 1))
 have HF3 : Hid (∀ X i, SB w (fSet f 3 i) X → X.cell? ⟨w.heap.size, 0, none⟩ = some (.int .i64 (i + 1)) ∧ X.cell? ⟨w.heap.size, 1, none⟩ = some (.int .i64 f.u) ∧ X.cell? ⟨w.heap.size, 2, none⟩ = some (.bool f.c) ∧ X.cell? ⟨w.heap.size, 3, none⟩ = some (.bool f.d)) := Lib.hid fun X i h => ⟨h.c0, h.c1, h.c2, h.c3⟩
 have HP3 := Lib.hid (show ∀ X i, SB w f X → SB w (fSet f 3 i) (X.setCell ⟨w.heap.size, 0, none⟩ (.int .i64 (i + 1))) from fun X i h => SB.put3 h (i + 1))
 have HF8 : Hid (∀ X i, SB w (fSet f 8 i) X → X.cell? ⟨w.heap.size, 0, none⟩ = some (.int .i64 f.q) ∧ X.cell? ⟨w.heap.size, 1, none⟩ = some (.int .i64 (i + 1)) ∧ X.cell? ⟨w.heap.size, 2, none⟩ = some (.bool f.c) ∧ X.cell? ⟨w.heap.size, 3, none⟩ = some (.bool f.d)) := Lib.hid fun X i h => ⟨h.c0, h.c1, h.c2, h.c3⟩
 have HP8 := Lib.hid (show ∀ X i, SB w f X → SB w (fSet f 8 i) (X.setCell ⟨w.heap.size, 1, none⟩ (.int .i64 (i + 1))) from fun X i h => SB.put8 h (i + 1))
 have HA1 : Hid (∀ i, flV (fSet f 1 i) = .agg #[.int .i64 f.q, .int .i64 f.u, .bool (i == 1), .bool f.d]) := Lib.hid fun _ => rfl
 have HA2 : Hid (∀ i, flV (fSet f 2 i) = .agg #[.int .i64 f.q, .int .i64 f.u, .bool f.c, .bool (i == 1)]) := Lib.hid fun _ => rfl
 have HA3 : Hid (∀ i, flV (fSet f 3 i) = .agg #[.int .i64 (i + 1), .int .i64 f.u, .bool f.c, .bool f.d]) := Lib.hid fun _ => rfl
 have HA8 : Hid (∀ i, flV (fSet f 8 i) = .agg #[.int .i64 f.q, .int .i64 (i + 1), .bool f.c, .bool f.d]) := Lib.hid fun _ => rfl
 have HV := Lib.hid (fun W => f_valid f W)
 have HTV := Lib.hid (fun (W : World) (h : Below w.heap.size w W) => t_valid t A cap W ((hT.keep h).mono h.size))
 have HFV : Hid (flV f = .agg #[.int .i64 f.q, .int .i64 f.u, .bool f.c, .bool f.d]) := Lib.hid rfl
 have HKN : Hid (validT t = true → t.kind = 2 ∨ ¬ t.kind = 2) := Lib.hid fun _ => Decidable.em _
 unfold tmV at HTV ⊢
 rw [HFV.out] at HV
 rw [HFV.out]
 generalize f.q = q at *
 generalize f.u = u at *
 generalize f.c = cc at *
 generalize f.d = dd at *
 obtain ⟨tk, htk⟩ : ∃ x, Hid (x = t.kind) := ⟨_, Lib.hid rfl⟩
 obtain ⟨tn, htn⟩ : ∃ x, Hid (x = t.name) := ⟨_, Lib.hid rfl⟩
 rw [← htk.out, ← htn.out] at HS0 HT0 HTB HTV ⊢
 generalize t.num = tv at *
 generalize t.args.length = tl at *
 go_enter Tryz.func20, Tryz.ntmps20
 go_wp2_with fail
 refine (HV.out _).mono ?_; rintro e w1 ⟨rfl, hB1⟩
 have HS1 := Lib.hid (HS0.out.call hB1)
 have HT1 := Lib.hid (HT0.out.call hB1)
 obtain ⟨b0, b1, b2, b3⟩ := HFB.out _ HS1.out
 obtain ⟨a0, a1, a2, a3⟩ := HTB.out _ HT1.out
 clear HS0 HT0 hB1 HV
 by_cases hf : flOk f = true
 ·rw [hf]
  go_wp2_with fail
  refine (HTV.out _ HS1.out.r.bel).mono ?_; rintro e w2 ⟨rfl, hB2⟩
  have HS2 := Lib.hid (HS1.out.call hB2)
  have HT2 := Lib.hid (HT1.out.call hB2)
  clear b0 b1 b2 b3 a0 a1 a2 a3 HS1 HT1 hB2 HTV
  by_cases hv : validT t = true
  ·rw [hv]
   have hfv : flOk f = true ∧ validT t = true := ⟨hf, hv⟩
   go_wp2_with fail
   refine (f_find s _).mono ?_; rintro e w3 ⟨⟨v, rfl, hv1, hv2⟩, hB3⟩
   have HS3 := Lib.hid (HS2.out.call hB3)
   have HT3 := Lib.hid (HT2.out.call hB3)
   clear HS2 HT2 hB3
   obtain ⟨b0, b1, b2, b3⟩ := HFB.out _ HS3.out
   obtain ⟨a0, a1, a2, a3⟩ := HTB.out _ HT3.out
   obtain ⟨v0, r0⟩ := HS3.out.r.r0
   obtain ⟨v1, r1⟩ := HS3.out.r.r1
   obtain ⟨v2, r2⟩ := HS3.out.r.r2
   obtain ⟨v3, r3⟩ := HS3.out.r.r3
   have f0 := HS3.out.r.fr 0
   have f1 := HS3.out.r.fr 1
   have f2 := HS3.out.r.fr 2
   have f3 := HS3.out.r.fr 3
   have hl2 : w.heap.size + 1 + 1 < w3.heap.size := HS3.out.r.lt
   have hl1 : w.heap.size + 1 < w3.heap.size := HT3.out.lt
   have hl0 : w.heap.size < w3.heap.size := by omega
   by_cases hix : fIx s < 9
   ·obtain ⟨A2, c2, u', rfl, hvr⟩ := hv1 hix
    rw [decide_eq_true hix]
    clear hv1 hv2
    by_cases hvl : fVL (fIx s) = []
    ·have HRR := Lib.hid (setE_ro (f := f) (s := s) (t := t) hfv hix hvl)
     have hu : u' = .slice none 0 0 := by
      rcases hvr with ⟨_, h⟩ | ⟨b, _, _, h, _⟩
      ·exact h
      ·rw [hvl] at h; exact absurd h (by decide)
     subst hu
     have hg := fF_nil (fIx s) hix hvl
     unfold flagV
     rw [hg.1, hg.2]
     generalize fN (fIx s) = nm at *
     generalize fFx (fIx s) = fx at *
     obtain ⟨q0, q1, q2, q3, hP⟩ := HS3.out.r.after (.int .i64 0) (.int .i64 0) (.bool false) (.bool false) (.cells #[.string nm, .int .i64 fx.kind, .int .i64 fx.num, .string fx.name, .slice A2 0 c2, .slice none 0 0, .nilFunc, .nilFunc] 72)
     have HP := Lib.hid hP
     have hnil : ∀ W, (binOp .eql 29 (.slice none 0 0) (.slice none 0 0)).run Tryz.prog W = .ok (.bool true) W := fun W => Lib.run_eql_slice_nil_nil W _ _ Tryz.underlying29
     clear hP HS3 HT3 HFB HTB
     go_wp2_with fail
     exact bodyPost_ret (v := .tuple #[.agg #[.int .i64 0, .int .i64 0, .bool false, .bool false], .int .i64 5]) (by simp [results, Tryz.results20, go_sem, q0, q1, q2, q3]) rfl ⟨by rw [HRR.out.1, HRR.out.2]; rfl, HP.out⟩
    ·rcases hvr with ⟨h, _⟩ | ⟨b, hlo, rfl, hpos, hb, hc⟩
     ·exact absurd h hvl
     have HIX := Lib.hid (fun (W : World) (hW : Below w3.heap.size w3 W) => Tryz.slices_Index_string b 0 (fVL (fIx s)).length (fVL (fIx s)).length (fVL (fIx s)) tn W (Nat.le_refl _) (by have := fVL_len (fIx s); omega) (fun j hj => by
      rw [Nat.zero_add, (hW.cell (p := ⟨b, j, none⟩) hb).trans (hc j hj), List.getD_eq_getElem?_getD, List.getElem?_eq_getElem hj]; rfl))
     rw [List.take_length] at HIX
     have HIL := Lib.hid (setI_lt (fIx s) tn)
     have HSI : Hid (setI (fIx s) tn = Lib.idxOfS (fVL (fIx s)) tn) := Lib.hid rfl
     rw [← HSI.out] at HIX
     have HRF := Lib.hid (fun h => setE_form (f := f) (s := s) (t := t) hfv hix hvl h)
     have HRO := Lib.hid (fun h => setE_ok (f := f) (s := s) (t := t) hfv hix hvl h)
     rw [← htk.out, ← htn.out] at HRF HRO
     have hnil : ∀ W n c, (binOp .eql 29 (.slice (some ⟨b, 0, none⟩) n c) (.slice none 0 0)).run Tryz.prog W = .ok (.bool false) W := fun W n c => Lib.run_eql_slice_some_nil W _ _ _ Tryz.underlying29
     clear hb hc hlo hpos
     have hks : fIx s = 1 ∨ fIx s = 2 ∨ fIx s = 3 ∨ fIx s = 8 := fVL_ks (fIx s) hix hvl
     unfold flagV
     obtain ⟨k, hk⟩ : ∃ k, Hid (k = fIx s) := ⟨_, Lib.hid rfl⟩
     rw [← hk.out] at hks HRF HRO HIX HIL HSI ⊢
     generalize setI k tn = i at *
     generalize (fVL k).length = n at *
     rcases hks with h | h | h | h
     ·subst h
      rw [show fGF 1 = (.func (.func 86) #[] #[]) from rfl, show fSF 1 = (.func (.func 88) #[] #[]) from rfl]
      generalize fN 1 = nm at *
      generalize fFx 1 = fx at *
      have HS4 := Lib.hid (HS3.out.call ((Below.refl w3.heap.size w3).alloc (Nat.le_refl _) (.cells #[.string nm, .int .i64 fx.kind, .int .i64 fx.num, .string fx.name, .slice A2 0 c2, .slice (some ⟨b, 0, none⟩) n n, .func (.func 86) #[] #[], .func (.func 88) #[] #[]] 72)))
      obtain ⟨q0, q1, q2, q3, hP⟩ := HS3.out.r.after (.int .i64 0) (.int .i64 0) (.bool false) (.bool false) (.cells #[.string nm, .int .i64 fx.kind, .int .i64 fx.num, .string fx.name, .slice A2 0 c2, .slice (some ⟨b, 0, none⟩) n n, .func (.func 86) #[] #[], .func (.func 88) #[] #[]] 72)
      have HP := Lib.hid hP
      clear hP HS3 HT3 HFB HTB
      go_wp2_with fail
      refine (HIX.out _ ((Below.refl w3.heap.size w3).alloc (Nat.le_refl _) _)).mono ?_; rintro e w4 ⟨rfl, rfl⟩
      by_cases hk2 : tk = 2
      ·subst hk2
       rcases HIL.out with rfl | ⟨hi0, hi1⟩
       ·have HRR := Lib.hid (HRF.out (by omega))
        clear HRF HRO
        go_wp2_with fail
        exact bodyPost_ret (v := .tuple #[.agg #[.int .i64 0, .int .i64 0, .bool false, .bool false], .int .i64 3]) (by simp [results, Tryz.results20, go_sem, q0, q1, q2, q3]) rfl ⟨by rw [HRR.out.1, HRR.out.2]; rfl, HP.out⟩
       ·have HRR := Lib.hid (HRO.out ⟨rfl, hi0⟩)
        have hin : ¬ i < 0 := by omega
        clear HRF HRO HP q0 q1 q2 q3
        go_wp2_with fail
        refine (fset_1 w.heap.size i _ _ HS4.out.c2 (HS4.out.fz 2)).mono ?_; rintro e w5 ⟨rfl, hw5⟩
        have HS5 := Lib.hid (HP1.out _ i HS4.out)
        rw [← hw5] at HS5
        clear hw5 HS4
        obtain ⟨d0, d1, d2, d3⟩ := HF1.out _ _ HS5.out
        obtain ⟨v0, r0⟩ := HS5.out.r.r0
        obtain ⟨v1, r1⟩ := HS5.out.r.r1
        obtain ⟨v2, r2⟩ := HS5.out.r.r2
        obtain ⟨v3, r3⟩ := HS5.out.r.r3
        have z0 := HS5.out.r.fr 0
        have z1 := HS5.out.r.fr 1
        have z2 := HS5.out.r.fr 2
        have z3 := HS5.out.r.fr 3
        have HP := Lib.hid (HS5.out.r.put (.int .i64 q) (.int .i64 u) (.bool (i == 1)) (.bool dd))
        clear HS5
        go_wp2_with fail
        exact bodyPost_ret (v := .tuple #[.agg #[.int .i64 q, .int .i64 u, .bool (i == 1), .bool dd], .int .i64 0]) (by simp [results, Tryz.results20, go_sem, r0, r1, r2, r3]) rfl ⟨by rw [HRR.out.1, HRR.out.2, HA1.out], HP.out⟩
      ·have HRR := Lib.hid (HRF.out (fun h => hk2 h.1))
       clear HRF HRO
       go_wp2_with fail
       exact bodyPost_ret (v := .tuple #[.agg #[.int .i64 0, .int .i64 0, .bool false, .bool false], .int .i64 3]) (by simp [results, Tryz.results20, go_sem, q0, q1, q2, q3]) rfl ⟨by rw [HRR.out.1, HRR.out.2]; rfl, HP.out⟩
     ·subst h
      rw [show fGF 2 = (.func (.func 89) #[] #[]) from rfl, show fSF 2 = (.func (.func 90) #[] #[]) from rfl]
      generalize fN 2 = nm at *
      generalize fFx 2 = fx at *
      have HS4 := Lib.hid (HS3.out.call ((Below.refl w3.heap.size w3).alloc (Nat.le_refl _) (.cells #[.string nm, .int .i64 fx.kind, .int .i64 fx.num, .string fx.name, .slice A2 0 c2, .slice (some ⟨b, 0, none⟩) n n, .func (.func 89) #[] #[], .func (.func 90) #[] #[]] 72)))
      obtain ⟨q0, q1, q2, q3, hP⟩ := HS3.out.r.after (.int .i64 0) (.int .i64 0) (.bool false) (.bool false) (.cells #[.string nm, .int .i64 fx.kind, .int .i64 fx.num, .string fx.name, .slice A2 0 c2, .slice (some ⟨b, 0, none⟩) n n, .func (.func 89) #[] #[], .func (.func 90) #[] #[]] 72)
      have HP := Lib.hid hP
      clear hP HS3 HT3 HFB HTB
      go_wp2_with fail
      refine (HIX.out _ ((Below.refl w3.heap.size w3).alloc (Nat.le_refl _) _)).mono ?_; rintro e w4 ⟨rfl, rfl⟩
      by_cases hk2 : tk = 2
      ·subst hk2
       rcases HIL.out with rfl | ⟨hi0, hi1⟩
       ·have HRR := Lib.hid (HRF.out (by omega))
        clear HRF HRO
        go_wp2_with fail
        exact bodyPost_ret (v := .tuple #[.agg #[.int .i64 0, .int .i64 0, .bool false, .bool false], .int .i64 3]) (by simp [results, Tryz.results20, go_sem, q0, q1, q2, q3]) rfl ⟨by rw [HRR.out.1, HRR.out.2]; rfl, HP.out⟩
       ·have HRR := Lib.hid (HRO.out ⟨rfl, hi0⟩)
        have hin : ¬ i < 0 := by omega
        clear HRF HRO HP q0 q1 q2 q3
        go_wp2_with fail
        refine (fset_2 w.heap.size i _ _ HS4.out.c3 (HS4.out.fz 3)).mono ?_; rintro e w5 ⟨rfl, hw5⟩
        have HS5 := Lib.hid (HP2.out _ i HS4.out)
        rw [← hw5] at HS5
        clear hw5 HS4
        obtain ⟨d0, d1, d2, d3⟩ := HF2.out _ _ HS5.out
        obtain ⟨v0, r0⟩ := HS5.out.r.r0
        obtain ⟨v1, r1⟩ := HS5.out.r.r1
        obtain ⟨v2, r2⟩ := HS5.out.r.r2
        obtain ⟨v3, r3⟩ := HS5.out.r.r3
        have z0 := HS5.out.r.fr 0
        have z1 := HS5.out.r.fr 1
        have z2 := HS5.out.r.fr 2
        have z3 := HS5.out.r.fr 3
        have HP := Lib.hid (HS5.out.r.put (.int .i64 q) (.int .i64 u) (.bool cc) (.bool (i == 1)))
        clear HS5
        go_wp2_with fail
        exact bodyPost_ret (v := .tuple #[.agg #[.int .i64 q, .int .i64 u, .bool cc, .bool (i == 1)], .int .i64 0]) (by simp [results, Tryz.results20, go_sem, r0, r1, r2, r3]) rfl ⟨by rw [HRR.out.1, HRR.out.2, HA2.out], HP.out⟩
      ·have HRR := Lib.hid (HRF.out (fun h => hk2 h.1))
       clear HRF HRO
       go_wp2_with fail
       exact bodyPost_ret (v := .tuple #[.agg #[.int .i64 0, .int .i64 0, .bool false, .bool false], .int .i64 3]) (by simp [results, Tryz.results20, go_sem, q0, q1, q2, q3]) rfl ⟨by rw [HRR.out.1, HRR.out.2]; rfl, HP.out⟩
     ·subst h
      rw [show fGF 3 = (.func (.func 91) #[] #[]) from rfl, show fSF 3 = (.func (.func 92) #[] #[]) from rfl]
      generalize fN 3 = nm at *
      generalize fFx 3 = fx at *
      have HS4 := Lib.hid (HS3.out.call ((Below.refl w3.heap.size w3).alloc (Nat.le_refl _) (.cells #[.string nm, .int .i64 fx.kind, .int .i64 fx.num, .string fx.name, .slice A2 0 c2, .slice (some ⟨b, 0, none⟩) n n, .func (.func 91) #[] #[], .func (.func 92) #[] #[]] 72)))
      obtain ⟨q0, q1, q2, q3, hP⟩ := HS3.out.r.after (.int .i64 0) (.int .i64 0) (.bool false) (.bool false) (.cells #[.string nm, .int .i64 fx.kind, .int .i64 fx.num, .string fx.name, .slice A2 0 c2, .slice (some ⟨b, 0, none⟩) n n, .func (.func 91) #[] #[], .func (.func 92) #[] #[]] 72)
      have HP := Lib.hid hP
      clear hP HS3 HT3 HFB HTB
      go_wp2_with fail
      refine (HIX.out _ ((Below.refl w3.heap.size w3).alloc (Nat.le_refl _) _)).mono ?_; rintro e w4 ⟨rfl, rfl⟩
      by_cases hk2 : tk = 2
      ·subst hk2
       rcases HIL.out with rfl | ⟨hi0, hi1⟩
       ·have HRR := Lib.hid (HRF.out (by omega))
        clear HRF HRO
        go_wp2_with fail
        exact bodyPost_ret (v := .tuple #[.agg #[.int .i64 0, .int .i64 0, .bool false, .bool false], .int .i64 3]) (by simp [results, Tryz.results20, go_sem, q0, q1, q2, q3]) rfl ⟨by rw [HRR.out.1, HRR.out.2]; rfl, HP.out⟩
       ·have HRR := Lib.hid (HRO.out ⟨rfl, hi0⟩)
        have hin : ¬ i < 0 := by omega
        clear HRF HRO HP q0 q1 q2 q3
        go_wp2_with fail
        refine (fset_3 w.heap.size i _ _ hi0 (by omega) HS4.out.c0 (HS4.out.fz 0)).mono ?_; rintro e w5 ⟨rfl, hw5⟩
        have HS5 := Lib.hid (HP3.out _ i HS4.out)
        rw [← hw5] at HS5
        clear hw5 HS4
        obtain ⟨d0, d1, d2, d3⟩ := HF3.out _ _ HS5.out
        obtain ⟨v0, r0⟩ := HS5.out.r.r0
        obtain ⟨v1, r1⟩ := HS5.out.r.r1
        obtain ⟨v2, r2⟩ := HS5.out.r.r2
        obtain ⟨v3, r3⟩ := HS5.out.r.r3
        have z0 := HS5.out.r.fr 0
        have z1 := HS5.out.r.fr 1
        have z2 := HS5.out.r.fr 2
        have z3 := HS5.out.r.fr 3
        have HP := Lib.hid (HS5.out.r.put (.int .i64 (i + 1)) (.int .i64 u) (.bool cc) (.bool dd))
        clear HS5
        go_wp2_with fail
        exact bodyPost_ret (v := .tuple #[.agg #[.int .i64 (i + 1), .int .i64 u, .bool cc, .bool dd], .int .i64 0]) (by simp [results, Tryz.results20, go_sem, r0, r1, r2, r3]) rfl ⟨by rw [HRR.out.1, HRR.out.2, HA3.out], HP.out⟩
      ·have HRR := Lib.hid (HRF.out (fun h => hk2 h.1))
       clear HRF HRO
       go_wp2_with fail
       exact bodyPost_ret (v := .tuple #[.agg #[.int .i64 0, .int .i64 0, .bool false, .bool false], .int .i64 3]) (by simp [results, Tryz.results20, go_sem, q0, q1, q2, q3]) rfl ⟨by rw [HRR.out.1, HRR.out.2]; rfl, HP.out⟩
     ·subst h
      rw [show fGF 8 = (.func (.func 94) #[] #[]) from rfl, show fSF 8 = (.func (.func 95) #[] #[]) from rfl]
      generalize fN 8 = nm at *
      generalize fFx 8 = fx at *
      have HS4 := Lib.hid (HS3.out.call ((Below.refl w3.heap.size w3).alloc (Nat.le_refl _) (.cells #[.string nm, .int .i64 fx.kind, .int .i64 fx.num, .string fx.name, .slice A2 0 c2, .slice (some ⟨b, 0, none⟩) n n, .func (.func 94) #[] #[], .func (.func 95) #[] #[]] 72)))
      obtain ⟨q0, q1, q2, q3, hP⟩ := HS3.out.r.after (.int .i64 0) (.int .i64 0) (.bool false) (.bool false) (.cells #[.string nm, .int .i64 fx.kind, .int .i64 fx.num, .string fx.name, .slice A2 0 c2, .slice (some ⟨b, 0, none⟩) n n, .func (.func 94) #[] #[], .func (.func 95) #[] #[]] 72)
      have HP := Lib.hid hP
      clear hP HS3 HT3 HFB HTB
      go_wp2_with fail
      refine (HIX.out _ ((Below.refl w3.heap.size w3).alloc (Nat.le_refl _) _)).mono ?_; rintro e w4 ⟨rfl, rfl⟩
      by_cases hk2 : tk = 2
      ·subst hk2
       rcases HIL.out with rfl | ⟨hi0, hi1⟩
       ·have HRR := Lib.hid (HRF.out (by omega))
        clear HRF HRO
        go_wp2_with fail
        exact bodyPost_ret (v := .tuple #[.agg #[.int .i64 0, .int .i64 0, .bool false, .bool false], .int .i64 3]) (by simp [results, Tryz.results20, go_sem, q0, q1, q2, q3]) rfl ⟨by rw [HRR.out.1, HRR.out.2]; rfl, HP.out⟩
       ·have HRR := Lib.hid (HRO.out ⟨rfl, hi0⟩)
        have hin : ¬ i < 0 := by omega
        clear HRF HRO HP q0 q1 q2 q3
        go_wp2_with fail
        refine (fset_8 w.heap.size i _ _ hi0 (by omega) HS4.out.c1 (HS4.out.fz 1)).mono ?_; rintro e w5 ⟨rfl, hw5⟩
        have HS5 := Lib.hid (HP8.out _ i HS4.out)
        rw [← hw5] at HS5
        clear hw5 HS4
        obtain ⟨d0, d1, d2, d3⟩ := HF8.out _ _ HS5.out
        obtain ⟨v0, r0⟩ := HS5.out.r.r0
        obtain ⟨v1, r1⟩ := HS5.out.r.r1
        obtain ⟨v2, r2⟩ := HS5.out.r.r2
        obtain ⟨v3, r3⟩ := HS5.out.r.r3
        have z0 := HS5.out.r.fr 0
        have z1 := HS5.out.r.fr 1
        have z2 := HS5.out.r.fr 2
        have z3 := HS5.out.r.fr 3
        have HP := Lib.hid (HS5.out.r.put (.int .i64 q) (.int .i64 (i + 1)) (.bool cc) (.bool dd))
        clear HS5
        go_wp2_with fail
        exact bodyPost_ret (v := .tuple #[.agg #[.int .i64 q, .int .i64 (i + 1), .bool cc, .bool dd], .int .i64 0]) (by simp [results, Tryz.results20, go_sem, r0, r1, r2, r3]) rfl ⟨by rw [HRR.out.1, HRR.out.2, HA8.out], HP.out⟩
      ·have HRR := Lib.hid (HRF.out (fun h => hk2 h.1))
       clear HRF HRO
       go_wp2_with fail
       exact bodyPost_ret (v := .tuple #[.agg #[.int .i64 0, .int .i64 0, .bool false, .bool false], .int .i64 3]) (by simp [results, Tryz.results20, go_sem, q0, q1, q2, q3]) rfl ⟨by rw [HRR.out.1, HRR.out.2]; rfl, HP.out⟩
   ·have HRR := Lib.hid (setE_none (f := f) (s := s) (t := t) hfv hix)
    have hv := hv2 hix
    subst hv
    rw [decide_eq_false hix]
    unfold flagZ
    obtain ⟨q0, q1, q2, q3, hP⟩ := HS3.out.r.after (.int .i64 0) (.int .i64 0) (.bool false) (.bool false) (.cells #[.string ⟨#[]⟩, .int .i64 0, .int .i64 0, .string ⟨#[]⟩, .slice none 0 0, .slice none 0 0, .nilFunc, .nilFunc] 72)
    have HP := Lib.hid hP
    clear hP hv1 hv2 HS3 HT3 HFB HTB
    go_wp2_with fail
    exact bodyPost_ret (v := .tuple #[.agg #[.int .i64 0, .int .i64 0, .bool false, .bool false], .int .i64 4]) (by simp [results, Tryz.results20, go_sem, q0, q1, q2, q3]) rfl ⟨by rw [HRR.out.1, HRR.out.2]; rfl, HP.out⟩
  ·have HRR := Lib.hid (setE_bad (f := f) (s := s) (t := t) (fun h => hv h.2))
   rw [show validT t = false by simpa using hv]
   obtain ⟨v0, r0⟩ := HS2.out.r.r0
   obtain ⟨v1, r1⟩ := HS2.out.r.r1
   obtain ⟨v2, r2⟩ := HS2.out.r.r2
   obtain ⟨v3, r3⟩ := HS2.out.r.r3
   have f0 := HS2.out.r.fr 0
   have f1 := HS2.out.r.fr 1
   have f2 := HS2.out.r.fr 2
   have f3 := HS2.out.r.fr 3
   have HP := Lib.hid (HS2.out.r.put (.int .i64 0) (.int .i64 0) (.bool false) (.bool false))
   clear HS2 HT2 HFB HTB
   go_wp2_with fail
   exact bodyPost_ret (v := .tuple #[.agg #[.int .i64 0, .int .i64 0, .bool false, .bool false], .int .i64 1]) (by simp [results, Tryz.results20, go_sem, r0, r1, r2, r3]) rfl ⟨by rw [HRR.out.1, HRR.out.2]; rfl, HP.out⟩
 ·have HRR := Lib.hid (setE_bad (f := f) (s := s) (t := t) (fun h => hf h.1))
  rw [show flOk f = false by simpa using hf]
  obtain ⟨v0, r0⟩ := HS1.out.r.r0
  obtain ⟨v1, r1⟩ := HS1.out.r.r1
  obtain ⟨v2, r2⟩ := HS1.out.r.r2
  obtain ⟨v3, r3⟩ := HS1.out.r.r3
  have f0 := HS1.out.r.fr 0
  have f1 := HS1.out.r.fr 1
  have f2 := HS1.out.r.fr 2
  have f3 := HS1.out.r.fr 3
  have HP := Lib.hid (HS1.out.r.put (.int .i64 0) (.int .i64 0) (.bool false) (.bool false))
  clear HS1 HT1 HFB HTB HTV
  go_wp2_with fail
  exact bodyPost_ret (v := .tuple #[.agg #[.int .i64 0, .int .i64 0, .bool false, .bool false], .int .i64 1]) (by simp [results, Tryz.results20, go_sem, r0, r1, r2, r3]) rfl ⟨by rw [HRR.out.1, HRR.out.2]; rfl, HP.out⟩
end Go.Proofs.YtfkhcpeahdkafaaGreat
