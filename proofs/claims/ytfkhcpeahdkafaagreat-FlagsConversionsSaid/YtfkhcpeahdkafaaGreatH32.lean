/- Flags: current_char_conversion. -/
import Derived.Test.YtfkhcpeahdkafaaGreatH31
import Derived.Test.YtfkhcpeahdkafaaGreatH22
namespace Hb
open Go Go.RowKit
def cvAns (x : Int × Int) : Tm := structT ⟨#[99, 117, 114, 114, 101, 110, 116, 95, 99, 104, 97, 114, 95, 99, 111, 110, 118, 101, 114, 115, 105, 111, 110]⟩ [atomT (chS x.1), atomT (chS x.2)]
def listConvC (s : SyP) (p t : Tm) : CR :=
 if (p.kind == 0) = false ∧ isCharT p = false then .ball (typeT ⟨#[99, 104, 97, 114, 97, 99, 116, 101, 114]⟩ p)
 else if (t.kind == 0) = false ∧ isCharT t = false then .ball (typeT ⟨#[99, 104, 97, 114, 97, 99, 116, 101, 114]⟩ t)
 else if isAtomT p = true then .ok s [structT ⟨#[99, 117, 114, 114, 101, 110, 116, 95, 99, 104, 97, 114, 95, 99, 111, 110, 118, 101, 114, 115, 105, 111, 110]⟩ [p, atomT (chS (convT s.cv (chOf p.name)))]]
 else .ok s (s.cv.map cvAns)
structure LcI (w W : World) (bx : List (Nat × List Value)) (x : Tm) (ag : List Tm) (X : World) (xA : Option Addr) (xc g1 g2 : Nat) (s3 s4 s5 : Bool) : Prop where
 bel : Below w.heap.size w X
 siz : W.heap.size ≤ X.heap.size
 bks : Bks X bx
 row : s3 = true → s4 = false → TmsK (fun b => (b < w.heap.size ∨ W.heap.size ≤ b) ∧ b < X.heap.size) X (some ⟨g1, 0, none⟩) ag
 str : s4 = true → s5 = false → TmsK (fun b => W.heap.size ≤ b ∧ b < X.heap.size) X xA x.args
 one : s5 = true → TmsK (fun b => W.heap.size ≤ b ∧ b < X.heap.size) X (some ⟨g2, 0, none⟩) [x]
theorem LcI.call {w W : World} {bx : List (Nat × List Value)} {x : Tm} {ag : List Tm} {X X' : World} {xA : Option Addr} {xc g1 g2 : Nat} {s3 s4 s5 : Bool} (h : LcI w W bx x ag X xA xc g1 g2 s3 s4 s5) (hB : Below X.heap.size X X') : LcI w W bx x ag X' xA xc g1 g2 s3 s4 s5 :=
 ⟨h.bel.trans (hB.mono h.bel.size), Nat.le_trans h.siz hB.size, h.bks.call hB, fun s t => (h.row s t).keep (fun b hb => hB.block b hb.2) (fun _ hb => ⟨hb.1, Nat.lt_of_lt_of_le hb.2 hB.size⟩), fun s t => (h.str s t).keep (fun b hb => hB.block b hb.2) (fun _ hb => ⟨hb.1, Nat.lt_of_lt_of_le hb.2 hB.size⟩), fun s => (h.one s).keep (fun b hb => hB.block b hb.2) (fun _ hb => ⟨hb.1, Nat.lt_of_lt_of_le hb.2 hB.size⟩)⟩
theorem LcI.put {w W : World} {bx bx' : List (Nat × List Value)} {x : Tm} {ag : List Tm} {X X' : World} {xA : Option Addr} {xc g1 g2 : Nat} {s3 s4 s5 : Bool} (h : LcI w W bx x ag X xA xc g1 g2 s3 s4 s5) (g : Nat) (hg0 : w.heap.size ≤ g) (hg1 : g < W.heap.size) (hs : X'.heap.size = X.heap.size) (hk : ∀ b, b ≠ g → X'.heap[b]? = X.heap[b]?) (hb : Below w.heap.size w X') (hx : Bks X' bx') : LcI w W bx' x ag X' xA xc g1 g2 s3 s4 s5 :=
 ⟨hb, by rw [hs]; exact h.siz, hx, fun s t => (h.row s t).keep (fun b hb => hk b (by have := hb.1; omega)) (fun _ hb => ⟨hb.1, by rw [hs]; exact hb.2⟩), fun s t => (h.str s t).keep (fun b hb => hk b (by have := hb.1; omega)) (fun _ hb => ⟨hb.1, by rw [hs]; exact hb.2⟩), fun s => (h.one s).keep (fun b hb => hk b (by have := hb.1; omega)) (fun _ hb => ⟨hb.1, by rw [hs]; exact hb.2⟩)⟩
theorem Bks.cons {X : World} {l : List (Nat × List Value)} (h : Bks X l) {g : Nat} {vs : List Value} (hb : Bk X g vs) (hg : ∀ x ∈ l, x.1 < g) : Bks X ((g, vs) :: l) := by
 refine ⟨fun x hx => ?_, ?_⟩
 ·rcases List.mem_cons.1 hx with rfl | hx
  ·exact hb
  ·exact h.bk x hx
 ·rw [List.map_cons]
  refine List.Pairwise.cons (fun y hy => ?_) h.ord
  obtain ⟨x, hx, rfl⟩ := List.mem_map.1 hy
  exact hg x hx
end Hb
namespace Go.Proofs.YtfkhcpeahdkafaaGreat
open Go.RowKit Hb
set_option maxRecDepth 100000
set_option maxHeartbeats 6400000 in
theorem f_listConv (BB : Nat) (OA : Option Addr) (on oc : Nat) (q u : Int) (c d : Bool) (CA : Option Addr) (cn cc : Nat) (gk gn : Int) (gs : ByteArray) (AA : Option Addr) (ac : Nat) (p t : Tm) (l : List OpR) (cl : List (Int × Int)) (w : World)
  (hTab : Tab w OA on oc l) (hC : PrI BB w CA cn cc cl) (hcv : pvalid cl = true) (hA : TmsAt w.heap.size w AA [p, t]) :
  Calls Tryz.prog 116 #[.agg #[.slice OA on oc, .int .i64 q, .int .i64 u, .bool c, .bool d, .slice CA cn cc], .slice AA 2 ac, .agg #[.int .i64 gk, .int .i64 gn, .string gs, .slice AA 2 ac]] w fun e w' => ∃ r : RV, e = .returned r.val ∧ Below w.heap.size w w' ∧ RIs BB w w' r (listConvC ⟨l, ⟨q, u, c, d⟩, cl⟩ p t) := by
 obtain ⟨R, HR⟩ : ∃ R, Hid (R = listConvC ⟨l, ⟨q, u, c, d⟩, cl⟩ p t) := ⟨_, Lib.hid rfl⟩
 obtain ⟨bp, HBP⟩ : ∃ b, Hid (b = isCharT p) := ⟨_, Lib.hid rfl⟩
 obtain ⟨bt, HBT⟩ : ∃ b, Hid (b = isCharT t) := ⟨_, Lib.hid rfl⟩
 obtain ⟨up, HUP⟩ : ∃ b, Hid (b = (p.kind == 0)) := ⟨_, Lib.hid rfl⟩
 obtain ⟨ut, HUT⟩ : ∃ b, Hid (b = (t.kind == 0)) := ⟨_, Lib.hid rfl⟩
 obtain ⟨ap, HAP⟩ : ∃ b, Hid (b = isAtomT p) := ⟨_, Lib.hid rfl⟩
 obtain ⟨ib, HIB⟩ : ∃ ib, Hid (ib = typeT ⟨#[99, 104, 97, 114, 97, 99, 116, 101, 114]⟩ p) := ⟨_, Lib.hid rfl⟩
 obtain ⟨jb, HJB⟩ : ∃ ib, Hid (ib = typeT ⟨#[99, 104, 97, 114, 97, 99, 116, 101, 114]⟩ t) := ⟨_, Lib.hid rfl⟩
 have HR1 : Hid (up = false → bp = false → R = .ball ib) := Lib.hid fun h h2 => by
  rw [HR.out, HIB.out]; unfold listConvC
  rw [if_pos ⟨by rw [← HUP.out, h], by rw [← HBP.out, h2]⟩]
 have HR2 : Hid (up = true ∨ bp = true → ut = false → bt = false → R = .ball jb) := Lib.hid fun h h2 h3 => by
  rw [HR.out, HJB.out]; unfold listConvC
  rw [← HUP.out, ← HBP.out, if_neg (by rcases h with h | h <;> simp [h]), if_pos ⟨by rw [← HUT.out, h2], by rw [← HBT.out, h3]⟩]
 have HR3 : Hid (up = true ∨ bp = true → ut = true ∨ bt = true → ap = true → R = .ok ⟨l, ⟨q, u, c, d⟩, cl⟩ [structT ⟨#[99, 117, 114, 114, 101, 110, 116, 95, 99, 104, 97, 114, 95, 99, 111, 110, 118, 101, 114, 115, 105, 111, 110]⟩ [p, atomT (chS (convT cl (chOf p.name)))]]) := Lib.hid fun h h2 h3 => by
  rw [HR.out]; unfold listConvC
  rw [← HUP.out, ← HBP.out, if_neg (by rcases h with h | h <;> simp [h]), ← HUT.out, ← HBT.out, if_neg (by rcases h2 with h | h <;> simp [h]), if_pos (by rw [← HAP.out, h3])]
 have HR4 : Hid (up = true ∨ bp = true → ut = true ∨ bt = true → ap = false → R = .ok ⟨l, ⟨q, u, c, d⟩, cl⟩ (cl.map cvAns)) := Lib.hid fun h h2 h3 => by
  rw [HR.out]; unfold listConvC
  rw [← HUP.out, ← HBP.out, if_neg (by rcases h with h | h <;> simp [h]), ← HUT.out, ← HBT.out, if_neg (by rcases h2 with h | h <;> simp [h]), if_neg (by rw [← HAP.out, h3]; decide)]
 have HX : Hid (up = true ∨ bp = true → ap = true → ∃ x : UInt8, p.name = ⟨#[x]⟩) := Lib.hid fun h h2 => by
  rcases h with h | h
  ·rw [HUP.out] at h
   rw [HAP.out] at h2
   unfold isAtomT at h2
   simp at h h2
   omega
  ·exact (isCharT_one (HBP.out ▸ h)).2
 rw [← HR.out]
 have HTAB := Lib.hid hTab
 have HC := Lib.hid hC
 have HCV := Lib.hid hcv
 have HAA := Lib.hid hA
 obtain ⟨b, off, PA, pc, e1, hb, p0, p1, p2, p3, hPA⟩ := hA.get 0 (show 0 < 2 by omega)
 obtain ⟨_, _, TA, tc, e2, _, t0, t1, t2, t3, hTA⟩ := hA.get 1 (show 1 < 2 by omega)
 subst e1
 cases e2
 simp only [List.getElem_cons_zero, List.getElem_cons_succ, Nat.zero_mul, Nat.add_zero, Nat.one_mul] at p0 p1 p2 p3 t0 t1 t2 t3 hPA hTA
 have HPA := Lib.hid hPA
 have HTA := Lib.hid hTA
 have HIP : Hid (∀ W, Calls Tryz.prog 161 #[.agg #[.int .i64 p.kind, .int .i64 p.num, .string p.name, .slice PA p.args.length pc]] W fun e w' => e = .returned (.bool bp) ∧ Below W.heap.size W w') := Lib.hid fun W => by rw [HBP.out]; exact f_isChar p PA pc W
 have HTYP : Hid (∀ W, Below w.heap.size w W → Calls Tryz.prog 157 #[.string ⟨#[99, 104, 97, 114, 97, 99, 116, 101, 114]⟩, .agg #[.int .i64 p.kind, .int .i64 p.num, .string p.name, .slice PA p.args.length pc]] W fun e w' => ∃ A' c', e = .returned (tmV ib A' c') ∧ Below W.heap.size W w' ∧ NewT W w' A' ib.args) := Lib.hid fun W hW => by
  rw [HIB.out]
  exact b_type ⟨#[99, 104, 97, 114, 97, 99, 116, 101, 114]⟩ p PA pc W (by decide) ((HPA.out.keep hW).mono hW.size)
 have HUBP : Hid (∀ W G, Below w.heap.size w W → W.heap.size = G → Calls Tryz.prog 152 #[.slice (some ⟨G, 0, none⟩) 1 1] (W.alloc (.cells #[.int .i64 p.kind, .int .i64 p.num, .string p.name, .slice PA p.args.length pc] 26)) fun e w' => e = .returned (.bool up) ∧ Below (W.alloc (.cells #[.int .i64 p.kind, .int .i64 p.num, .string p.name, .slice PA p.args.length pc] 26)).heap.size (W.alloc (.cells #[.int .i64 p.kind, .int .i64 p.num, .string p.name, .slice PA p.args.length pc] 26)) w') := Lib.hid fun W G hW hG => by
  subst hG
  rw [HUP.out]
  exact f_unb1 p PA pc W ((HPA.out.keep hW).mono hW.size)
 have HIT : Hid (∀ W, Calls Tryz.prog 161 #[.agg #[.int .i64 t.kind, .int .i64 t.num, .string t.name, .slice TA t.args.length tc]] W fun e w' => e = .returned (.bool bt) ∧ Below W.heap.size W w') := Lib.hid fun W => by rw [HBT.out]; exact f_isChar t TA tc W
 have HTYT : Hid (∀ W, Below w.heap.size w W → Calls Tryz.prog 157 #[.string ⟨#[99, 104, 97, 114, 97, 99, 116, 101, 114]⟩, .agg #[.int .i64 t.kind, .int .i64 t.num, .string t.name, .slice TA t.args.length tc]] W fun e w' => ∃ A' c', e = .returned (tmV jb A' c') ∧ Below W.heap.size W w' ∧ NewT W w' A' jb.args) := Lib.hid fun W hW => by
  rw [HJB.out]
  exact b_type ⟨#[99, 104, 97, 114, 97, 99, 116, 101, 114]⟩ t TA tc W (by decide) ((HTA.out.keep hW).mono hW.size)
 have HUBT : Hid (∀ W G, Below w.heap.size w W → W.heap.size = G → Calls Tryz.prog 152 #[.slice (some ⟨G, 0, none⟩) 1 1] (W.alloc (.cells #[.int .i64 t.kind, .int .i64 t.num, .string t.name, .slice TA t.args.length tc] 26)) fun e w' => e = .returned (.bool ut) ∧ Below (W.alloc (.cells #[.int .i64 t.kind, .int .i64 t.num, .string t.name, .slice TA t.args.length tc] 26)).heap.size (W.alloc (.cells #[.int .i64 t.kind, .int .i64 t.num, .string t.name, .slice TA t.args.length tc] 26)) w') := Lib.hid fun W G hW hG => by
  subst hG
  rw [HUT.out]
  exact f_unb1 t TA tc W ((HTA.out.keep hW).mono hW.size)
 have HIA : Hid (∀ W, Calls Tryz.prog 156 #[.agg #[.int .i64 p.kind, .int .i64 p.num, .string p.name, .slice PA p.args.length pc]] W fun e w' => e = .returned (.bool ap) ∧ Below W.heap.size W w') := Lib.hid fun W => by rw [HAP.out]; exact f_isAtom p PA pc W
 have HMP : Hid (∀ W, Below w.heap.size w W → (W.cell? ⟨b, off, none⟩ = some (.int .i64 p.kind) ∧ W.cell? ⟨b, off + 1, none⟩ = some (.int .i64 p.num) ∧ W.cell? ⟨b, off + 2, none⟩ = some (.string p.name) ∧ W.cell? ⟨b, off + 3, none⟩ = some (.slice PA p.args.length pc)) ∧ (W.cell? ⟨b, off + 4, none⟩ = some (.int .i64 t.kind) ∧ W.cell? ⟨b, off + 4 + 1, none⟩ = some (.int .i64 t.num) ∧ W.cell? ⟨b, off + 4 + 2, none⟩ = some (.string t.name) ∧ W.cell? ⟨b, off + 4 + 3, none⟩ = some (.slice TA t.args.length tc))) := Lib.hid fun W hW => ⟨⟨(hW.cell (p := ⟨b, _, none⟩) hb).trans p0, (hW.cell (p := ⟨b, _, none⟩) hb).trans p1, (hW.cell (p := ⟨b, _, none⟩) hb).trans p2, (hW.cell (p := ⟨b, _, none⟩) hb).trans p3⟩, (hW.cell (p := ⟨b, _, none⟩) hb).trans t0, (hW.cell (p := ⟨b, _, none⟩) hb).trans t1, (hW.cell (p := ⟨b, _, none⟩) hb).trans t2, (hW.cell (p := ⟨b, _, none⟩) hb).trans t3⟩
 have HBL0 : Hid (Below w.heap.size w (((((w.alloc (.cells #[.slice OA on oc, .int .i64 q, .int .i64 u, .bool c, .bool d, .slice CA cn cc] 43)).alloc (.cells #[.int .i64 gk, .int .i64 gn, .string gs, .slice (some ⟨b, off, none⟩) 2 ac] 26)).alloc (.cells #[.slice none 0 0, .int .i64 0, .int .i64 0, .bool false, .bool false, .slice none 0 0] 43)).alloc (.cells #[.int .i64 0, .int .i64 0, .string ⟨#[]⟩, .slice none 0 0] 26)))) := Lib.hid (((((Below.refl _ w).alloc (Nat.le_refl _) _).alloc (by simp) _).alloc (by simp; omega) _).alloc (by simp; omega) _)
 have HBK0 : Hid (Bks (((((w.alloc (.cells #[.slice OA on oc, .int .i64 q, .int .i64 u, .bool c, .bool d, .slice CA cn cc] 43)).alloc (.cells #[.int .i64 gk, .int .i64 gn, .string gs, .slice (some ⟨b, off, none⟩) 2 ac] 26)).alloc (.cells #[.slice none 0 0, .int .i64 0, .int .i64 0, .bool false, .bool false, .slice none 0 0] 43)).alloc (.cells #[.int .i64 0, .int .i64 0, .string ⟨#[]⟩, .slice none 0 0] 26))) [(w.heap.size + 1 + 1 + 1, [.int .i64 0, .int .i64 0, .string ⟨#[]⟩, .slice none 0 0]), (w.heap.size + 1 + 1, [.slice none 0 0, .int .i64 0, .int .i64 0, .bool false, .bool false, .slice none 0 0]), (w.heap.size + 1, [.int .i64 gk, .int .i64 gn, .string gs, .slice (some ⟨b, off, none⟩) 2 ac]), (w.heap.size, [.slice OA on oc, .int .i64 q, .int .i64 u, .bool c, .bool d, .slice CA cn cc])]) := Lib.hid (((((Bks.nil w).new [.slice OA on oc, .int .i64 q, .int .i64 u, .bool c, .bool d, .slice CA cn cc] 43 rfl).new [.int .i64 gk, .int .i64 gn, .string gs, .slice (some ⟨b, off, none⟩) 2 ac] 26 (by simp)).new [.slice none 0 0, .int .i64 0, .int .i64 0, .bool false, .bool false, .slice none 0 0] 43 (by simp)).new [.int .i64 0, .int .i64 0, .string ⟨#[]⟩, .slice none 0 0] 26 (by simp))
 clear hA hPA hTA p0 p1 p2 p3 t0 t1 t2 t3 hTab hC hcv HR HIB HJB HTA HBP HBT HUP HUT HAP
 go_enter Tryz.func116, Tryz.ntmps116
 go_wp2_with fail
 go_loopw [19] (fun i wr => ∃ k : Nat, k ≤ 2 ∧ i = .int .i64 k ∧ Hid (Below w.heap.size w wr) ∧ Hid (Bks wr [(w.heap.size + 1 + 1 + 1, [.int .i64 0, .int .i64 0, .string ⟨#[]⟩, .slice none 0 0]), (w.heap.size + 1 + 1, [.slice none 0 0, .int .i64 0, .int .i64 0, .bool false, .bool false, .slice none 0 0]), (w.heap.size + 1, [.int .i64 gk, .int .i64 gn, .string gs, .slice (some ⟨b, off, none⟩) 2 ac]), (w.heap.size, [.slice OA on oc, .int .i64 q, .int .i64 u, .bool c, .bool d, .slice CA cn cc])]) ∧ (1 ≤ k → up = true ∨ bp = true) ∧ (2 ≤ k → ut = true ∨ bt = true)) (fun i _ => 2 - (intOf i).toNat)
 case atStart => exact ⟨0, by decide, rfl, HBL0, HBK0, fun h => (by omega), fun h => (by omega)⟩
 case round =>
  obtain ⟨k, hk, rfl, HBL, HBK, hk1, hk2⟩ := hrel
  have hcs := HMP.out wr HBL.out
  rcases (show k = 0 ∨ k = 1 ∨ k = 2 by omega) with rfl | rfl | rfl
  ·obtain ⟨⟨c0, c1, c2, c3⟩, -⟩ := hcs
   have hbw : b < wr.heap.size := Nat.lt_of_lt_of_le hb HBL.out.size
   have hBA : Below wr.heap.size wr (wr.alloc (.cells #[.int .i64 p.kind, .int .i64 p.num, .string p.name, .slice PA p.args.length pc] 26)) := (Below.refl _ _).alloc (Nat.le_refl _) _
   have HBX : Hid (Bks (wr.alloc (.cells #[.int .i64 p.kind, .int .i64 p.num, .string p.name, .slice PA p.args.length pc] 26)) [(wr.heap.size, [.int .i64 p.kind, .int .i64 p.num, .string p.name, .slice PA p.args.length pc]), (w.heap.size + 1 + 1 + 1, [.int .i64 0, .int .i64 0, .string ⟨#[]⟩, .slice none 0 0]), (w.heap.size + 1 + 1, [.slice none 0 0, .int .i64 0, .int .i64 0, .bool false, .bool false, .slice none 0 0]), (w.heap.size + 1, [.int .i64 gk, .int .i64 gn, .string gs, .slice (some ⟨b, off, none⟩) 2 ac]), (w.heap.size, [.slice OA on oc, .int .i64 q, .int .i64 u, .bool c, .bool d, .slice CA cn cc])]) := Lib.hid (HBK.out.new [.int .i64 p.kind, .int .i64 p.num, .string p.name, .slice PA p.args.length pc] 26 rfl)
   have HUQ := Lib.hid (HUBP.out (wr.alloc (.cells #[.int .i64 p.kind, .int .i64 p.num, .string p.name, .slice PA p.args.length pc] 26)) (wr.heap.size + 1) (HBL.out.trans (hBA.mono HBL.out.size)) (by simp))
   go_wp2_with fail
   refine HUQ.out.mono ?_; rintro e w1 ⟨rfl, hB1⟩
   have hBA1 : Below (wr.alloc (.cells #[.int .i64 p.kind, .int .i64 p.num, .string p.name, .slice PA p.args.length pc] 26)).heap.size (wr.alloc (.cells #[.int .i64 p.kind, .int .i64 p.num, .string p.name, .slice PA p.args.length pc] 26)) w1 := ((Below.refl _ _).alloc (Nat.le_refl _) _).trans (hB1.mono (by simp))
   have hB01 : Below wr.heap.size wr w1 := hBA.trans (hBA1.mono (by simp))
   have HBL1 := Lib.hid (HBL.out.trans (hB01.mono HBL.out.size))
   have HBK1 := Lib.hid (HBK.out.call hB01)
   have HBX1 := Lib.hid (HBX.out.call hBA1)
   clear hB1 hBA1 hB01 hBA HUQ HBL HBK HBX c0 c1 c2 c3
   cases up
   have x4_0 := HBX1.out.cell 0 0 rfl rfl
   have x4_1 := HBX1.out.cell 0 1 rfl rfl
   have x4_2 := HBX1.out.cell 0 2 rfl rfl
   have x4_3 := HBX1.out.cell 0 3 rfl rfl
   ·go_wp2_with fail
    refine (HIP.out _).mono ?_; rintro e w2 ⟨rfl, hB2⟩
    have HBL2 := Lib.hid (HBL1.out.trans (hB2.mono HBL1.out.size))
    have HBK2 := Lib.hid (HBK1.out.call hB2)
    have HBX2 := Lib.hid (HBX1.out.call hB2)
    clear hB2 HBL1 HBK1 HBX1 x4_0 x4_1 x4_2 x4_3
    cases bp
    ·clear HIP HIT HX HMP HTAB HC HCV HAA HPA HUBP HUBT HIA
     have x4_0 := HBX2.out.cell 0 0 rfl rfl
     have x4_1 := HBX2.out.cell 0 1 rfl rfl
     have x4_2 := HBX2.out.cell 0 2 rfl rfl
     have x4_3 := HBX2.out.cell 0 3 rfl rfl
     go_wp2_with fail
     refine (HTYP.out _ HBL2.out).mono ?_; rintro e w4 ⟨IA, ic, rfl, hB4, hN4⟩
     have HBL4 := Lib.hid (HBL2.out.trans (hB4.mono HBL2.out.size))
     have HBK4 := Lib.hid (HBK2.out.call hB4)
     have HL3 : Hid (w.heap.size + 1 + 1 + 1 < w2.heap.size) := Lib.hid (HBK2.out.lt 0 rfl)
     have HRS := Lib.hid (f_raise ib IA ic w4)
     have HN4 := Lib.hid hN4
     unfold rvB RV.val tmV at HRS
     dsimp only at HRS
     clear hB4 hN4 HTYP HTYT
     unfold tmV
     go_wp2_with fail
     refine HRS.out.mono ?_; rintro e w5 ⟨rfl, hB5⟩
     have HBL5 := Lib.hid (HBL4.out.trans (hB5.mono HBL4.out.size))
     have HBK5 := Lib.hid (HBK4.out.call hB5)
     have HN5 : Hid (TmsK (fun k => w2.heap.size ≤ k ∧ k < w5.heap.size) w5 IA ib.args) := Lib.hid (HN4.out.keep (fun b hb => hB5.block b hb.2) (fun b hb => ⟨hb.1, Nat.lt_of_lt_of_le hb.2 hB5.size⟩))
     clear hB5 HBL4 HBK4 HN4 HRS
     have e2_0 := HBK5.out.cell 1 0 rfl rfl
     have e2_1 := HBK5.out.cell 1 1 rfl rfl
     have e2_2 := HBK5.out.cell 1 2 rfl rfl
     have e2_3 := HBK5.out.cell 1 3 rfl rfl
     have e2_4 := HBK5.out.cell 1 4 rfl rfl
     have e2_5 := HBK5.out.cell 1 5 rfl rfl
     have e3_0 := HBK5.out.cell 0 0 rfl rfl
     have e3_1 := HBK5.out.cell 0 1 rfl rfl
     have e3_2 := HBK5.out.cell 0 2 rfl rfl
     have e3_3 := HBK5.out.cell 0 3 rfl rfl
     have e2f0 := HBK5.out.fz 1 0 rfl
     have e2f1 := HBK5.out.fz 1 1 rfl
     have e2f2 := HBK5.out.fz 1 2 rfl
     have e2f3 := HBK5.out.fz 1 3 rfl
     have e2f4 := HBK5.out.fz 1 4 rfl
     have e2f5 := HBK5.out.fz 1 5 rfl
     have e3f0 := HBK5.out.fz 0 0 rfl
     have e3f1 := HBK5.out.fz 0 1 rfl
     have e3f2 := HBK5.out.fz 0 2 rfl
     have e3f3 := HBK5.out.fz 0 3 rfl
     have e2l : w.heap.size + 1 + 1 < w5.heap.size := HBK5.out.lt 1 rfl
     have e3l : w.heap.size + 1 + 1 + 1 < w5.heap.size := HBK5.out.lt 0 rfl
     have HBKZ : Hid (Bks (((((((((((w5.setCell ⟨w.heap.size + 1 + 1, 0, none⟩ (.slice none 0 0)).setCell ⟨w.heap.size + 1 + 1, 1, none⟩ (.int .i64 0)).setCell ⟨w.heap.size + 1 + 1, 2, none⟩ (.int .i64 0)).setCell ⟨w.heap.size + 1 + 1, 3, none⟩ (.bool false)).setCell ⟨w.heap.size + 1 + 1, 4, none⟩ (.bool false)).setCell ⟨w.heap.size + 1 + 1, 5, none⟩ (.slice none 0 0)).setCell ⟨w.heap.size + 1 + 1 + 1, 0, none⟩ (.int .i64 ib.kind)).setCell ⟨w.heap.size + 1 + 1 + 1, 1, none⟩ (.int .i64 ib.num)).setCell ⟨w.heap.size + 1 + 1 + 1, 2, none⟩ (.string ib.name)).setCell ⟨w.heap.size + 1 + 1 + 1, 3, none⟩ (.slice IA ib.args.length ic))) [(w.heap.size + 1 + 1 + 1, [.int .i64 ib.kind, .int .i64 ib.num, .string ib.name, .slice IA ib.args.length ic]), (w.heap.size + 1 + 1, [.slice none 0 0, .int .i64 0, .int .i64 0, .bool false, .bool false, .slice none 0 0]), (w.heap.size + 1, [.int .i64 gk, .int .i64 gn, .string gs, .slice (some ⟨b, off, none⟩) 2 ac]), (w.heap.size, [.slice OA on oc, .int .i64 q, .int .i64 u, .bool c, .bool d, .slice CA cn cc])]) := Lib.hid ((HBK5.out.set6 1 rfl (.slice none 0 0) (.int .i64 0) (.int .i64 0) (.bool false) (.bool false) (.slice none 0 0)).set4 0 rfl (.int .i64 ib.kind) (.int .i64 ib.num) (.string ib.name) (.slice IA ib.args.length ic))
     have HBLZ : Hid (Below w.heap.size w (((((((((((w5.setCell ⟨w.heap.size + 1 + 1, 0, none⟩ (.slice none 0 0)).setCell ⟨w.heap.size + 1 + 1, 1, none⟩ (.int .i64 0)).setCell ⟨w.heap.size + 1 + 1, 2, none⟩ (.int .i64 0)).setCell ⟨w.heap.size + 1 + 1, 3, none⟩ (.bool false)).setCell ⟨w.heap.size + 1 + 1, 4, none⟩ (.bool false)).setCell ⟨w.heap.size + 1 + 1, 5, none⟩ (.slice none 0 0)).setCell ⟨w.heap.size + 1 + 1 + 1, 0, none⟩ (.int .i64 ib.kind)).setCell ⟨w.heap.size + 1 + 1 + 1, 1, none⟩ (.int .i64 ib.num)).setCell ⟨w.heap.size + 1 + 1 + 1, 2, none⟩ (.string ib.name)).setCell ⟨w.heap.size + 1 + 1 + 1, 3, none⟩ (.slice IA ib.args.length ic)))) := Lib.hid ((((((((((HBL5.out.setCell (p := ⟨w.heap.size + 1 + 1, _, none⟩) (show w.heap.size ≤ w.heap.size + 1 + 1 by omega) _).setCell (p := ⟨w.heap.size + 1 + 1, _, none⟩) (show w.heap.size ≤ w.heap.size + 1 + 1 by omega) _).setCell (p := ⟨w.heap.size + 1 + 1, _, none⟩) (show w.heap.size ≤ w.heap.size + 1 + 1 by omega) _).setCell (p := ⟨w.heap.size + 1 + 1, _, none⟩) (show w.heap.size ≤ w.heap.size + 1 + 1 by omega) _).setCell (p := ⟨w.heap.size + 1 + 1, _, none⟩) (show w.heap.size ≤ w.heap.size + 1 + 1 by omega) _).setCell (p := ⟨w.heap.size + 1 + 1, _, none⟩) (show w.heap.size ≤ w.heap.size + 1 + 1 by omega) _).setCell (p := ⟨w.heap.size + 1 + 1 + 1, _, none⟩) (show w.heap.size ≤ w.heap.size + 1 + 1 + 1 by omega) _).setCell (p := ⟨w.heap.size + 1 + 1 + 1, _, none⟩) (show w.heap.size ≤ w.heap.size + 1 + 1 + 1 by omega) _).setCell (p := ⟨w.heap.size + 1 + 1 + 1, _, none⟩) (show w.heap.size ≤ w.heap.size + 1 + 1 + 1 by omega) _).setCell (p := ⟨w.heap.size + 1 + 1 + 1, _, none⟩) (show w.heap.size ≤ w.heap.size + 1 + 1 + 1 by omega) _)
     have hkk : ∀ k, k ≠ w.heap.size + 1 + 1 → k ≠ w.heap.size + 1 + 1 + 1 → (((((((((((w5.setCell ⟨w.heap.size + 1 + 1, 0, none⟩ (.slice none 0 0)).setCell ⟨w.heap.size + 1 + 1, 1, none⟩ (.int .i64 0)).setCell ⟨w.heap.size + 1 + 1, 2, none⟩ (.int .i64 0)).setCell ⟨w.heap.size + 1 + 1, 3, none⟩ (.bool false)).setCell ⟨w.heap.size + 1 + 1, 4, none⟩ (.bool false)).setCell ⟨w.heap.size + 1 + 1, 5, none⟩ (.slice none 0 0)).setCell ⟨w.heap.size + 1 + 1 + 1, 0, none⟩ (.int .i64 ib.kind)).setCell ⟨w.heap.size + 1 + 1 + 1, 1, none⟩ (.int .i64 ib.num)).setCell ⟨w.heap.size + 1 + 1 + 1, 2, none⟩ (.string ib.name)).setCell ⟨w.heap.size + 1 + 1 + 1, 3, none⟩ (.slice IA ib.args.length ic))).heap[k]? = w5.heap[k]? := fun k h2 h3 => by
      rw [heap_setCell_other _ _ _ _ h3, heap_setCell_other _ _ _ _ h3, heap_setCell_other _ _ _ _ h3, heap_setCell_other _ _ _ _ h3, heap_setCell_other _ _ _ _ h2, heap_setCell_other _ _ _ _ h2, heap_setCell_other _ _ _ _ h2, heap_setCell_other _ _ _ _ h2, heap_setCell_other _ _ _ _ h2, heap_setCell_other _ _ _ _ h2]
     have hNZ : NewT w (((((((((((w5.setCell ⟨w.heap.size + 1 + 1, 0, none⟩ (.slice none 0 0)).setCell ⟨w.heap.size + 1 + 1, 1, none⟩ (.int .i64 0)).setCell ⟨w.heap.size + 1 + 1, 2, none⟩ (.int .i64 0)).setCell ⟨w.heap.size + 1 + 1, 3, none⟩ (.bool false)).setCell ⟨w.heap.size + 1 + 1, 4, none⟩ (.bool false)).setCell ⟨w.heap.size + 1 + 1, 5, none⟩ (.slice none 0 0)).setCell ⟨w.heap.size + 1 + 1 + 1, 0, none⟩ (.int .i64 ib.kind)).setCell ⟨w.heap.size + 1 + 1 + 1, 1, none⟩ (.int .i64 ib.num)).setCell ⟨w.heap.size + 1 + 1 + 1, 2, none⟩ (.string ib.name)).setCell ⟨w.heap.size + 1 + 1 + 1, 3, none⟩ (.slice IA ib.args.length ic))) IA ib.args := HN5.out.keep (fun b hb => hkk b (by have := HL3.out; omega) (by have := HL3.out; omega)) (fun b hb => ⟨by have := HL3.out; omega, by simpa using hb.2⟩)
     obtain ⟨wz, HWZ⟩ : ∃ wz, Hid (wz = ((((((((((w5.setCell ⟨w.heap.size + 1 + 1, 0, none⟩ (.slice none 0 0)).setCell ⟨w.heap.size + 1 + 1, 1, none⟩ (.int .i64 0)).setCell ⟨w.heap.size + 1 + 1, 2, none⟩ (.int .i64 0)).setCell ⟨w.heap.size + 1 + 1, 3, none⟩ (.bool false)).setCell ⟨w.heap.size + 1 + 1, 4, none⟩ (.bool false)).setCell ⟨w.heap.size + 1 + 1, 5, none⟩ (.slice none 0 0)).setCell ⟨w.heap.size + 1 + 1 + 1, 0, none⟩ (.int .i64 ib.kind)).setCell ⟨w.heap.size + 1 + 1 + 1, 1, none⟩ (.int .i64 ib.num)).setCell ⟨w.heap.size + 1 + 1 + 1, 2, none⟩ (.string ib.name)).setCell ⟨w.heap.size + 1 + 1 + 1, 3, none⟩ (.slice IA ib.args.length ic))) := ⟨_, Lib.hid rfl⟩
     rw [← HWZ.out] at HBKZ HBLZ hNZ
     have HNZ := Lib.hid hNZ
     clear hNZ hkk
     go_wp2_with fail
     rw [← HWZ.out]
     have m2_0 := HBKZ.out.cell 1 0 rfl rfl
     have m2_1 := HBKZ.out.cell 1 1 rfl rfl
     have m2_2 := HBKZ.out.cell 1 2 rfl rfl
     have m2_3 := HBKZ.out.cell 1 3 rfl rfl
     have m2_4 := HBKZ.out.cell 1 4 rfl rfl
     have m2_5 := HBKZ.out.cell 1 5 rfl rfl
     have m3_0 := HBKZ.out.cell 0 0 rfl rfl
     have m3_1 := HBKZ.out.cell 0 1 rfl rfl
     have m3_2 := HBKZ.out.cell 0 2 rfl rfl
     have m3_3 := HBKZ.out.cell 0 3 rfl rfl
     exact bodyPost_ret (v := .tuple #[.agg #[.slice none 0 0, .int .i64 0, .int .i64 0, .bool false, .bool false, .slice none 0 0], .slice none 0 0, .agg #[.int .i64 ib.kind, .int .i64 ib.num, .string ib.name, .slice IA ib.args.length ic], .int .i64 8]) (by simp [results, Tryz.results116, go_sem, m2_0, m2_1, m2_2, m2_3, m2_4, m2_5, m3_0, m3_1, m3_2, m3_3]) rfl ⟨rvB ib.kind ib.num ib.name IA ib.args.length ic 8, rfl, HBLZ.out, by rw [HR1.out (by first | rfl | trivial) (by first | rfl | trivial)]; exact ⟨rfl, rfl, rfl, rfl, rfl, HNZ.out⟩⟩
    ·go_wp2_with fail
     go_roundw
     case rel => exact ⟨1, by omega, by go_num, HBL2, HBK2, fun _ => .inr (by first | rfl | trivial), fun h => (by omega)⟩
     case measure => simp [intOf]
   ·go_wp2_with fail
    go_roundw
    case rel => exact ⟨1, by omega, by go_num, HBL1, HBK1, fun _ => .inl (by first | rfl | trivial), fun h => (by omega)⟩
    case measure => simp [intOf]
  ·obtain ⟨-, ⟨c0, c1, c2, c3⟩⟩ := hcs
   have hbw : b < wr.heap.size := Nat.lt_of_lt_of_le hb HBL.out.size
   have hBA : Below wr.heap.size wr (wr.alloc (.cells #[.int .i64 t.kind, .int .i64 t.num, .string t.name, .slice TA t.args.length tc] 26)) := (Below.refl _ _).alloc (Nat.le_refl _) _
   have HBX : Hid (Bks (wr.alloc (.cells #[.int .i64 t.kind, .int .i64 t.num, .string t.name, .slice TA t.args.length tc] 26)) [(wr.heap.size, [.int .i64 t.kind, .int .i64 t.num, .string t.name, .slice TA t.args.length tc]), (w.heap.size + 1 + 1 + 1, [.int .i64 0, .int .i64 0, .string ⟨#[]⟩, .slice none 0 0]), (w.heap.size + 1 + 1, [.slice none 0 0, .int .i64 0, .int .i64 0, .bool false, .bool false, .slice none 0 0]), (w.heap.size + 1, [.int .i64 gk, .int .i64 gn, .string gs, .slice (some ⟨b, off, none⟩) 2 ac]), (w.heap.size, [.slice OA on oc, .int .i64 q, .int .i64 u, .bool c, .bool d, .slice CA cn cc])]) := Lib.hid (HBK.out.new [.int .i64 t.kind, .int .i64 t.num, .string t.name, .slice TA t.args.length tc] 26 rfl)
   have HUQ := Lib.hid (HUBT.out (wr.alloc (.cells #[.int .i64 t.kind, .int .i64 t.num, .string t.name, .slice TA t.args.length tc] 26)) (wr.heap.size + 1) (HBL.out.trans (hBA.mono HBL.out.size)) (by simp))
   go_wp2_with fail
   refine HUQ.out.mono ?_; rintro e w1 ⟨rfl, hB1⟩
   have hBA1 : Below (wr.alloc (.cells #[.int .i64 t.kind, .int .i64 t.num, .string t.name, .slice TA t.args.length tc] 26)).heap.size (wr.alloc (.cells #[.int .i64 t.kind, .int .i64 t.num, .string t.name, .slice TA t.args.length tc] 26)) w1 := ((Below.refl _ _).alloc (Nat.le_refl _) _).trans (hB1.mono (by simp))
   have hB01 : Below wr.heap.size wr w1 := hBA.trans (hBA1.mono (by simp))
   have HBL1 := Lib.hid (HBL.out.trans (hB01.mono HBL.out.size))
   have HBK1 := Lib.hid (HBK.out.call hB01)
   have HBX1 := Lib.hid (HBX.out.call hBA1)
   clear hB1 hBA1 hB01 hBA HUQ HBL HBK HBX c0 c1 c2 c3
   cases ut
   have x4_0 := HBX1.out.cell 0 0 rfl rfl
   have x4_1 := HBX1.out.cell 0 1 rfl rfl
   have x4_2 := HBX1.out.cell 0 2 rfl rfl
   have x4_3 := HBX1.out.cell 0 3 rfl rfl
   ·go_wp2_with fail
    refine (HIT.out _).mono ?_; rintro e w2 ⟨rfl, hB2⟩
    have HBL2 := Lib.hid (HBL1.out.trans (hB2.mono HBL1.out.size))
    have HBK2 := Lib.hid (HBK1.out.call hB2)
    have HBX2 := Lib.hid (HBX1.out.call hB2)
    clear hB2 HBL1 HBK1 HBX1 x4_0 x4_1 x4_2 x4_3
    cases bt
    ·clear HIP HIT HX HMP HTAB HC HCV HAA HPA HUBP HUBT HIA
     have x4_0 := HBX2.out.cell 0 0 rfl rfl
     have x4_1 := HBX2.out.cell 0 1 rfl rfl
     have x4_2 := HBX2.out.cell 0 2 rfl rfl
     have x4_3 := HBX2.out.cell 0 3 rfl rfl
     go_wp2_with fail
     refine (HTYT.out _ HBL2.out).mono ?_; rintro e w4 ⟨IA, ic, rfl, hB4, hN4⟩
     have HBL4 := Lib.hid (HBL2.out.trans (hB4.mono HBL2.out.size))
     have HBK4 := Lib.hid (HBK2.out.call hB4)
     have HL3 : Hid (w.heap.size + 1 + 1 + 1 < w2.heap.size) := Lib.hid (HBK2.out.lt 0 rfl)
     have HRS := Lib.hid (f_raise jb IA ic w4)
     have HN4 := Lib.hid hN4
     unfold rvB RV.val tmV at HRS
     dsimp only at HRS
     clear hB4 hN4 HTYP HTYT
     unfold tmV
     go_wp2_with fail
     refine HRS.out.mono ?_; rintro e w5 ⟨rfl, hB5⟩
     have HBL5 := Lib.hid (HBL4.out.trans (hB5.mono HBL4.out.size))
     have HBK5 := Lib.hid (HBK4.out.call hB5)
     have HN5 : Hid (TmsK (fun k => w2.heap.size ≤ k ∧ k < w5.heap.size) w5 IA jb.args) := Lib.hid (HN4.out.keep (fun b hb => hB5.block b hb.2) (fun b hb => ⟨hb.1, Nat.lt_of_lt_of_le hb.2 hB5.size⟩))
     clear hB5 HBL4 HBK4 HN4 HRS
     have e2_0 := HBK5.out.cell 1 0 rfl rfl
     have e2_1 := HBK5.out.cell 1 1 rfl rfl
     have e2_2 := HBK5.out.cell 1 2 rfl rfl
     have e2_3 := HBK5.out.cell 1 3 rfl rfl
     have e2_4 := HBK5.out.cell 1 4 rfl rfl
     have e2_5 := HBK5.out.cell 1 5 rfl rfl
     have e3_0 := HBK5.out.cell 0 0 rfl rfl
     have e3_1 := HBK5.out.cell 0 1 rfl rfl
     have e3_2 := HBK5.out.cell 0 2 rfl rfl
     have e3_3 := HBK5.out.cell 0 3 rfl rfl
     have e2f0 := HBK5.out.fz 1 0 rfl
     have e2f1 := HBK5.out.fz 1 1 rfl
     have e2f2 := HBK5.out.fz 1 2 rfl
     have e2f3 := HBK5.out.fz 1 3 rfl
     have e2f4 := HBK5.out.fz 1 4 rfl
     have e2f5 := HBK5.out.fz 1 5 rfl
     have e3f0 := HBK5.out.fz 0 0 rfl
     have e3f1 := HBK5.out.fz 0 1 rfl
     have e3f2 := HBK5.out.fz 0 2 rfl
     have e3f3 := HBK5.out.fz 0 3 rfl
     have e2l : w.heap.size + 1 + 1 < w5.heap.size := HBK5.out.lt 1 rfl
     have e3l : w.heap.size + 1 + 1 + 1 < w5.heap.size := HBK5.out.lt 0 rfl
     have HBKZ : Hid (Bks (((((((((((w5.setCell ⟨w.heap.size + 1 + 1, 0, none⟩ (.slice none 0 0)).setCell ⟨w.heap.size + 1 + 1, 1, none⟩ (.int .i64 0)).setCell ⟨w.heap.size + 1 + 1, 2, none⟩ (.int .i64 0)).setCell ⟨w.heap.size + 1 + 1, 3, none⟩ (.bool false)).setCell ⟨w.heap.size + 1 + 1, 4, none⟩ (.bool false)).setCell ⟨w.heap.size + 1 + 1, 5, none⟩ (.slice none 0 0)).setCell ⟨w.heap.size + 1 + 1 + 1, 0, none⟩ (.int .i64 jb.kind)).setCell ⟨w.heap.size + 1 + 1 + 1, 1, none⟩ (.int .i64 jb.num)).setCell ⟨w.heap.size + 1 + 1 + 1, 2, none⟩ (.string jb.name)).setCell ⟨w.heap.size + 1 + 1 + 1, 3, none⟩ (.slice IA jb.args.length ic))) [(w.heap.size + 1 + 1 + 1, [.int .i64 jb.kind, .int .i64 jb.num, .string jb.name, .slice IA jb.args.length ic]), (w.heap.size + 1 + 1, [.slice none 0 0, .int .i64 0, .int .i64 0, .bool false, .bool false, .slice none 0 0]), (w.heap.size + 1, [.int .i64 gk, .int .i64 gn, .string gs, .slice (some ⟨b, off, none⟩) 2 ac]), (w.heap.size, [.slice OA on oc, .int .i64 q, .int .i64 u, .bool c, .bool d, .slice CA cn cc])]) := Lib.hid ((HBK5.out.set6 1 rfl (.slice none 0 0) (.int .i64 0) (.int .i64 0) (.bool false) (.bool false) (.slice none 0 0)).set4 0 rfl (.int .i64 jb.kind) (.int .i64 jb.num) (.string jb.name) (.slice IA jb.args.length ic))
     have HBLZ : Hid (Below w.heap.size w (((((((((((w5.setCell ⟨w.heap.size + 1 + 1, 0, none⟩ (.slice none 0 0)).setCell ⟨w.heap.size + 1 + 1, 1, none⟩ (.int .i64 0)).setCell ⟨w.heap.size + 1 + 1, 2, none⟩ (.int .i64 0)).setCell ⟨w.heap.size + 1 + 1, 3, none⟩ (.bool false)).setCell ⟨w.heap.size + 1 + 1, 4, none⟩ (.bool false)).setCell ⟨w.heap.size + 1 + 1, 5, none⟩ (.slice none 0 0)).setCell ⟨w.heap.size + 1 + 1 + 1, 0, none⟩ (.int .i64 jb.kind)).setCell ⟨w.heap.size + 1 + 1 + 1, 1, none⟩ (.int .i64 jb.num)).setCell ⟨w.heap.size + 1 + 1 + 1, 2, none⟩ (.string jb.name)).setCell ⟨w.heap.size + 1 + 1 + 1, 3, none⟩ (.slice IA jb.args.length ic)))) := Lib.hid ((((((((((HBL5.out.setCell (p := ⟨w.heap.size + 1 + 1, _, none⟩) (show w.heap.size ≤ w.heap.size + 1 + 1 by omega) _).setCell (p := ⟨w.heap.size + 1 + 1, _, none⟩) (show w.heap.size ≤ w.heap.size + 1 + 1 by omega) _).setCell (p := ⟨w.heap.size + 1 + 1, _, none⟩) (show w.heap.size ≤ w.heap.size + 1 + 1 by omega) _).setCell (p := ⟨w.heap.size + 1 + 1, _, none⟩) (show w.heap.size ≤ w.heap.size + 1 + 1 by omega) _).setCell (p := ⟨w.heap.size + 1 + 1, _, none⟩) (show w.heap.size ≤ w.heap.size + 1 + 1 by omega) _).setCell (p := ⟨w.heap.size + 1 + 1, _, none⟩) (show w.heap.size ≤ w.heap.size + 1 + 1 by omega) _).setCell (p := ⟨w.heap.size + 1 + 1 + 1, _, none⟩) (show w.heap.size ≤ w.heap.size + 1 + 1 + 1 by omega) _).setCell (p := ⟨w.heap.size + 1 + 1 + 1, _, none⟩) (show w.heap.size ≤ w.heap.size + 1 + 1 + 1 by omega) _).setCell (p := ⟨w.heap.size + 1 + 1 + 1, _, none⟩) (show w.heap.size ≤ w.heap.size + 1 + 1 + 1 by omega) _).setCell (p := ⟨w.heap.size + 1 + 1 + 1, _, none⟩) (show w.heap.size ≤ w.heap.size + 1 + 1 + 1 by omega) _)
     have hkk : ∀ k, k ≠ w.heap.size + 1 + 1 → k ≠ w.heap.size + 1 + 1 + 1 → (((((((((((w5.setCell ⟨w.heap.size + 1 + 1, 0, none⟩ (.slice none 0 0)).setCell ⟨w.heap.size + 1 + 1, 1, none⟩ (.int .i64 0)).setCell ⟨w.heap.size + 1 + 1, 2, none⟩ (.int .i64 0)).setCell ⟨w.heap.size + 1 + 1, 3, none⟩ (.bool false)).setCell ⟨w.heap.size + 1 + 1, 4, none⟩ (.bool false)).setCell ⟨w.heap.size + 1 + 1, 5, none⟩ (.slice none 0 0)).setCell ⟨w.heap.size + 1 + 1 + 1, 0, none⟩ (.int .i64 jb.kind)).setCell ⟨w.heap.size + 1 + 1 + 1, 1, none⟩ (.int .i64 jb.num)).setCell ⟨w.heap.size + 1 + 1 + 1, 2, none⟩ (.string jb.name)).setCell ⟨w.heap.size + 1 + 1 + 1, 3, none⟩ (.slice IA jb.args.length ic))).heap[k]? = w5.heap[k]? := fun k h2 h3 => by
      rw [heap_setCell_other _ _ _ _ h3, heap_setCell_other _ _ _ _ h3, heap_setCell_other _ _ _ _ h3, heap_setCell_other _ _ _ _ h3, heap_setCell_other _ _ _ _ h2, heap_setCell_other _ _ _ _ h2, heap_setCell_other _ _ _ _ h2, heap_setCell_other _ _ _ _ h2, heap_setCell_other _ _ _ _ h2, heap_setCell_other _ _ _ _ h2]
     have hNZ : NewT w (((((((((((w5.setCell ⟨w.heap.size + 1 + 1, 0, none⟩ (.slice none 0 0)).setCell ⟨w.heap.size + 1 + 1, 1, none⟩ (.int .i64 0)).setCell ⟨w.heap.size + 1 + 1, 2, none⟩ (.int .i64 0)).setCell ⟨w.heap.size + 1 + 1, 3, none⟩ (.bool false)).setCell ⟨w.heap.size + 1 + 1, 4, none⟩ (.bool false)).setCell ⟨w.heap.size + 1 + 1, 5, none⟩ (.slice none 0 0)).setCell ⟨w.heap.size + 1 + 1 + 1, 0, none⟩ (.int .i64 jb.kind)).setCell ⟨w.heap.size + 1 + 1 + 1, 1, none⟩ (.int .i64 jb.num)).setCell ⟨w.heap.size + 1 + 1 + 1, 2, none⟩ (.string jb.name)).setCell ⟨w.heap.size + 1 + 1 + 1, 3, none⟩ (.slice IA jb.args.length ic))) IA jb.args := HN5.out.keep (fun b hb => hkk b (by have := HL3.out; omega) (by have := HL3.out; omega)) (fun b hb => ⟨by have := HL3.out; omega, by simpa using hb.2⟩)
     obtain ⟨wz, HWZ⟩ : ∃ wz, Hid (wz = ((((((((((w5.setCell ⟨w.heap.size + 1 + 1, 0, none⟩ (.slice none 0 0)).setCell ⟨w.heap.size + 1 + 1, 1, none⟩ (.int .i64 0)).setCell ⟨w.heap.size + 1 + 1, 2, none⟩ (.int .i64 0)).setCell ⟨w.heap.size + 1 + 1, 3, none⟩ (.bool false)).setCell ⟨w.heap.size + 1 + 1, 4, none⟩ (.bool false)).setCell ⟨w.heap.size + 1 + 1, 5, none⟩ (.slice none 0 0)).setCell ⟨w.heap.size + 1 + 1 + 1, 0, none⟩ (.int .i64 jb.kind)).setCell ⟨w.heap.size + 1 + 1 + 1, 1, none⟩ (.int .i64 jb.num)).setCell ⟨w.heap.size + 1 + 1 + 1, 2, none⟩ (.string jb.name)).setCell ⟨w.heap.size + 1 + 1 + 1, 3, none⟩ (.slice IA jb.args.length ic))) := ⟨_, Lib.hid rfl⟩
     rw [← HWZ.out] at HBKZ HBLZ hNZ
     have HNZ := Lib.hid hNZ
     clear hNZ hkk
     go_wp2_with fail
     rw [← HWZ.out]
     have m2_0 := HBKZ.out.cell 1 0 rfl rfl
     have m2_1 := HBKZ.out.cell 1 1 rfl rfl
     have m2_2 := HBKZ.out.cell 1 2 rfl rfl
     have m2_3 := HBKZ.out.cell 1 3 rfl rfl
     have m2_4 := HBKZ.out.cell 1 4 rfl rfl
     have m2_5 := HBKZ.out.cell 1 5 rfl rfl
     have m3_0 := HBKZ.out.cell 0 0 rfl rfl
     have m3_1 := HBKZ.out.cell 0 1 rfl rfl
     have m3_2 := HBKZ.out.cell 0 2 rfl rfl
     have m3_3 := HBKZ.out.cell 0 3 rfl rfl
     exact bodyPost_ret (v := .tuple #[.agg #[.slice none 0 0, .int .i64 0, .int .i64 0, .bool false, .bool false, .slice none 0 0], .slice none 0 0, .agg #[.int .i64 jb.kind, .int .i64 jb.num, .string jb.name, .slice IA jb.args.length ic], .int .i64 8]) (by simp [results, Tryz.results116, go_sem, m2_0, m2_1, m2_2, m2_3, m2_4, m2_5, m3_0, m3_1, m3_2, m3_3]) rfl ⟨rvB jb.kind jb.num jb.name IA jb.args.length ic 8, rfl, HBLZ.out, by rw [HR2.out (hk1 (by omega)) (by first | rfl | trivial) (by first | rfl | trivial)]; exact ⟨rfl, rfl, rfl, rfl, rfl, HNZ.out⟩⟩
    ·go_wp2_with fail
     go_roundw
     case rel => exact ⟨2, by omega, by go_num, HBL2, HBK2, fun _ => hk1 (by omega), fun _ => .inr (by first | rfl | trivial)⟩
     case measure => simp [intOf]
   ·go_wp2_with fail
    go_roundw
    case rel => exact ⟨2, by omega, by go_num, HBL1, HBK1, fun _ => hk1 (by omega), fun _ => .inl (by first | rfl | trivial)⟩
    case measure => simp [intOf]
  ·have hup := hk1 (by omega)
   have hut := hk2 (by omega)
   obtain ⟨⟨c0, c1, c2, c3⟩, -⟩ := hcs
   have hbw : b < wr.heap.size := Nat.lt_of_lt_of_le hb HBL.out.size
   have hBA : Below wr.heap.size wr (wr.alloc (.cells #[.int .i64 p.kind, .int .i64 p.num, .string p.name, .slice PA p.args.length pc] 26)) := (Below.refl _ _).alloc (Nat.le_refl _) _
   obtain ⟨gp, HGP⟩ : ∃ gp, Hid (gp = wr.heap.size) := ⟨_, Lib.hid rfl⟩
   have HBX : Hid (Bks (wr.alloc (.cells #[.int .i64 p.kind, .int .i64 p.num, .string p.name, .slice PA p.args.length pc] 26)) [(gp, [.int .i64 p.kind, .int .i64 p.num, .string p.name, .slice PA p.args.length pc]), (w.heap.size + 1 + 1 + 1, [.int .i64 0, .int .i64 0, .string ⟨#[]⟩, .slice none 0 0]), (w.heap.size + 1 + 1, [.slice none 0 0, .int .i64 0, .int .i64 0, .bool false, .bool false, .slice none 0 0]), (w.heap.size + 1, [.int .i64 gk, .int .i64 gn, .string gs, .slice (some ⟨b, off, none⟩) 2 ac]), (w.heap.size, [.slice OA on oc, .int .i64 q, .int .i64 u, .bool c, .bool d, .slice CA cn cc])]) := Lib.hid (HBK.out.new [.int .i64 p.kind, .int .i64 p.num, .string p.name, .slice PA p.args.length pc] 26 HGP.out.symm)
   clear HTYP HTYT HIP HIT HMP HUBP HUBT HR1 HR2 hk1 hk2
   go_wp2_with fail
   rw [← HGP.out]
   refine (HIA.out _).mono ?_; rintro e w1 ⟨rfl, hB1⟩
   have hB01 : Below wr.heap.size wr w1 := hBA.trans (hB1.mono (by simp))
   have HBL1 := Lib.hid (HBL.out.trans (hB01.mono HBL.out.size))
   have HBX1 := Lib.hid (HBX.out.call hB1)
   clear hB1 hB01 hBA HBL HBK HBX c0 c1 c2 c3 HIA HGP
   cases ap
   ·have HRR := Lib.hid (HR4.out hup hut (by first | rfl | trivial))
    clear HR3 HR4 HX hup hut
    have s0_0 := HBX1.out.cell 4 0 rfl rfl
    have s0_1 := HBX1.out.cell 4 1 rfl rfl
    have s0_2 := HBX1.out.cell 4 2 rfl rfl
    have s0_3 := HBX1.out.cell 4 3 rfl rfl
    have s0_4 := HBX1.out.cell 4 4 rfl rfl
    have s0_5 := HBX1.out.cell 4 5 rfl rfl
    have s0l : w.heap.size < w1.heap.size := HBX1.out.lt 4 rfl
    go_wp2_with fail
    have HLW : Hid (w.heap.size + 1 + 1 + 1 < w1.heap.size) := Lib.hid (HBX1.out.lt 1 rfl)
    go_loopw [14, 63] (fun v i wr => ∃ (k : Nat) (rs : List TR), k ≤ cn ∧ i = .int .i64 k ∧ Hid (Below w1.heap.size w1 wr) ∧ Hid (OwnR w1.heap.size 26 wr v rs) ∧ Hid (rs.map (·.1) = (cl.take k).map cvAns)) (fun _ i _ => cn - (intOf i).toNat)
    case atStart => exact ⟨0, [], Nat.zero_le _, rfl, Lib.hid (Below.refl _ _), Lib.hid (OwnR.nul _ _ _), Lib.hid rfl⟩
    case round =>
     obtain ⟨k, rs, hk, rfl, HB, HO, HR⟩ := hrel
     obtain ⟨v, hvv⟩ : ∃ v, v = u14 := ⟨_, rfl⟩
     subst hvv
     have hcn : cn ≤ 400 := by
      have := cv_len ((cvOk_iff cl).1 HCV.out)
      have := HC.out.len
      omega
     by_cases hlt : k < cn
     ·have hkl : k < cl.length := by rw [← HC.out.len]; exact hlt
      have HBLr := Lib.hid (HBL1.out.trans (HB.out.mono HBL1.out.size))
      obtain ⟨cb, co, hce, hcb, d0, d1⟩ := (HC.out.below HBLr.out).prs k hkl
      have HCB : Hid ((0 ≤ cl[k].1 ∧ cl[k].1 ≤ 255) ∧ 0 ≤ cl[k].2 ∧ cl[k].2 ≤ 255) := Lib.hid (by
       have := ((cvOk_iff cl).1 HCV.out).ok cl[k] (List.getElem_mem hkl)
       exact ⟨⟨this.1, this.2.1⟩, this.2.2.1, this.2.2.2.1⟩)
      have HTK : Hid ((cl.take (k + 1)).map cvAns = (cl.take k).map cvAns ++ [cvAns cl[k]]) := Lib.hid (by rw [List.take_succ_eq_append_getElem hkl, List.map_append]; rfl)
      obtain ⟨fr, HFR⟩ : ∃ z, Hid (z = cl[k].1) := ⟨_, Lib.hid rfl⟩
      obtain ⟨tz, HTO⟩ : ∃ z, Hid (z = cl[k].2) := ⟨_, Lib.hid rfl⟩
      obtain ⟨cf, HCF⟩ : ∃ z, Hid (z = chS fr) := ⟨_, Lib.hid rfl⟩
      obtain ⟨ct, HCT⟩ : ∃ z, Hid (z = chS tz) := ⟨_, Lib.hid rfl⟩
      obtain ⟨xt, HXE⟩ : ∃ z, Hid (z = cvAns cl[k]) := ⟨_, Lib.hid rfl⟩
      rw [← HFR.out] at d0 HCB
      rw [← HTO.out] at d1 HCB
      rw [← HXE.out] at HTK
      have HX2 : Hid (xt = structT ⟨#[99, 117, 114, 114, 101, 110, 116, 95, 99, 104, 97, 114, 95, 99, 111, 110, 118, 101, 114, 115, 105, 111, 110]⟩ [atomT cf, atomT ct]) := Lib.hid (by rw [HXE.out, HCF.out, HCT.out, HFR.out, HTO.out]; rfl)
      have HCHF : Hid (∀ W, Calls Tryz.prog 163 #[.int .i64 fr] W fun e w' => ∃ v, e = .returned v ∧ ((∃ A c, v = Value.agg #[.int .i64 2, .int .i64 0, .string cf, .slice A 0 c]) ∧ Below W.heap.size W w')) := Lib.hid fun W => (f_char fr HCB.out.1.1 HCB.out.1.2 W).mono fun e w' h => by
       obtain ⟨A, c, he, hB⟩ := h
       exact ⟨_, he, ⟨A, c, by rw [HCF.out]; rfl⟩, hB⟩
      have HCHT : Hid (∀ W, Calls Tryz.prog 163 #[.int .i64 tz] W fun e w' => ∃ v, e = .returned v ∧ ((∃ A c, v = Value.agg #[.int .i64 2, .int .i64 0, .string ct, .slice A 0 c]) ∧ Below W.heap.size W w')) := Lib.hid fun W => (f_char tz HCB.out.2.1 HCB.out.2.2 W).mono fun e w' h => by
       obtain ⟨A, c, he, hB⟩ := h
       exact ⟨_, he, ⟨A, c, by rw [HCT.out]; rfl⟩, hB⟩
      have HSTR : Hid (∀ W g, TmsAt W.heap.size W (some ⟨g, 0, none⟩) [atomT cf, atomT ct] → Calls Tryz.prog 159 #[.string ⟨#[99, 117, 114, 114, 101, 110, 116, 95, 99, 104, 97, 114, 95, 99, 111, 110, 118, 101, 114, 115, 105, 111, 110]⟩, .slice (some ⟨g, 0, none⟩) 2 2] W fun e w' => ∃ v, e = .returned v ∧ ((∃ A c, v = Value.agg #[.int .i64 xt.kind, .int .i64 xt.num, .string xt.name, .slice A xt.args.length c] ∧ NewT W w' A xt.args) ∧ Below W.heap.size W w')) := Lib.hid fun W g hT => by
       have := t_struct ⟨#[99, 117, 114, 114, 101, 110, 116, 95, 99, 104, 97, 114, 95, 99, 111, 110, 118, 101, 114, 115, 105, 111, 110]⟩ (some ⟨g, 0, none⟩) 2 _ W (by decide) hT
       rw [← HX2.out] at this
       exact this.mono fun e w' h => by
        obtain ⟨A, c, he, hB, hN⟩ := h
        exact ⟨_, he, ⟨A, c, rfl, hN⟩, hB⟩
      have hk0 : (0 : Int) ≤ (k : Int) := by omega
      have hk1 : (k : Int) < (cn : Int) := by omega
      have hk2 : (k : Int) + 1 ≤ 400 := by omega
      have HK5 : Hid (Bk (wr.alloc (.cells #[.int .i64 fr, .int .i64 tz] 99)) wr.heap.size [.int .i64 fr, .int .i64 tz]) := Lib.hid (Bk.new wr [.int .i64 fr, .int .i64 tz] 99)
      have hBA : Below wr.heap.size wr (wr.alloc (.cells #[.int .i64 fr, .int .i64 tz] 99)) := (Below.refl _ _).alloc (Nat.le_refl _) _
      have HB5 := Lib.hid (HB.out.trans (hBA.mono HB.out.size))
      have HO5 := Lib.hid (HO.out.below hBA)
      have HVO : Hid (∀ b, v.ownBlock = some b → b < wr.heap.size ∧ b < (wr.alloc (.cells #[.int .i64 fr, .int .i64 tz] 99)).heap.size) := Lib.hid fun b e => by
       have := (HO.out.own.lt b e).2
       have := hBA.size
       omega
      have HWW : Hid (w1.heap.size ≤ (wr.alloc (.cells #[.int .i64 fr, .int .i64 tz] 99)).heap.size) := Lib.hid HB5.out.size
      have HRL : Hid (rs.length ≤ 100000) := Lib.hid (by
       have := congrArg List.length HR.out
       rw [List.length_map, List.length_map, List.length_take] at this
       omega)
      have HKR : Hid (k + 1 ≤ cn) := Lib.hid hlt
      clear HXE HFR HTO HCF HCT HCB hkl hBA
      obtain rfl := hce
      go_wp2_with fail
      rename_i K9 hK9
      refine wp_region_any (by kernel_rfl) ?_
      refine wpAny_inv (fun S a X => ∃ (A2 : Option Addr) (c2 : Nat) (A3 : Option Addr) (c3 : Nat) (xA : Option Addr) (xc g1 g2 : Nat) (v2 v3 : Value), a = (⟨#[.agg #[.slice OA on oc, .int .i64 q, .int .i64 u, .bool c, .bool d, .slice (some ⟨cb, co, none⟩) cn cc], .slice (some ⟨b, off, none⟩) 2 ac, .agg #[.int .i64 gk, .int .i64 gn, .string gs, .slice (some ⟨b, off, none⟩) 2 ac], .pointer (some ⟨w.heap.size, 0, none⟩), undef, .pointer (some ⟨w.heap.size + 1, 0, none⟩), .pointer (some ⟨w.heap.size + 1 + 1, 0, none⟩), u7, .pointer (some ⟨w.heap.size + 1 + 1 + 1, 0, none⟩), u9, undef, u11, .pointer (some ⟨gp, 0, none⟩), undef, if S 11 = true then v3 else v, undef, .pointer (some ⟨wr.heap.size, 0, none⟩), .slice (some ⟨b, off, none⟩) 2 ac, .int .i64 2, .int .i64 2, .bool false, u21, u22, u23, u24, u25, u26, u27, u28, u29, u30, u31, u32, u33, u34, u35, u36, u37, u38, u39, .slice (some ⟨b, off, none⟩) 2 ac, .pointer (some ⟨b, off, none⟩), .agg #[.int .i64 p.kind, .int .i64 p.num, .string p.name, .slice PA p.args.length pc], .agg #[.int .i64 p.kind, .int .i64 p.num, .string p.name, .slice PA p.args.length pc], .bool false, undef, undef, undef, undef, undef, undef, undef, undef, undef, undef, undef, undef, undef, undef, undef, .pointer (some ⟨w.heap.size, 5, none⟩), .slice (some ⟨cb, co, none⟩) cn cc, .int .i64 ↑cn, .int .i64 (k : Int), .bool true, .pointer (some ⟨cb, co + k * 2, none⟩), .agg #[.int .i64 fr, .int .i64 tz], if S 0 = true then v else u67, if S 1 = true then .pointer (some ⟨wr.heap.size, 0, none⟩) else u68, if S 2 = true then .int .i64 fr else u69, if S 3 = true then .agg #[.int .i64 2, .int .i64 0, .string cf, .slice A2 0 c2] else u70, if S 4 = true then .pointer (some ⟨wr.heap.size, 1, none⟩) else u71, if S 5 = true then .int .i64 tz else u72, if S 6 = true then .agg #[.int .i64 2, .int .i64 0, .string ct, .slice A3 0 c3] else u73, if S 7 = true then .slice (some ⟨g1, 0, none⟩) 2 2 else u74, if S 8 = true then .agg #[.int .i64 xt.kind, .int .i64 xt.num, .string xt.name, .slice xA xt.args.length xc] else u75, if S 9 = true then .slice (some ⟨g2, 0, none⟩) 1 1 else u76, if S 10 = true then v2 else u77, u78, undef, undef, undef], []⟩ : Act) ∧ ApI 26 w1 (wr.alloc (.cells #[.int .i64 fr, .int .i64 tz] 99)) wr.heap.size [.int .i64 fr, .int .i64 tz] v rs xt [atomT cf, atomT ct] X v2 xA xc g1 g2 (S 7) (S 8) (S 9) (S 10) ∧ (S 10 = true → S 0 = true) ∧ (S 11 = true → S 10 = true) ∧ (S 11 = true → v3 = v2)) (by kernel_rfl) ?stepz ?finz 12 (fun _ => false) _ _ (by decide) ⟨none, 0, none, 0, none, 0, 0, 0, v, v, rfl, ApI.start xt _ v none 0 0 0 HB5.out HK5.out HO5.out, fun h => (by cases h), fun h => (by cases h), fun h => (by cases h)⟩
      case stepz =>
       rintro S j o a X ho hs hp ⟨A2, c2, A3, c3, xA, xc, g1, g2, v2, v3, rfl, hI, j12, j13, jv⟩
       have hlt : j < 12 := (Array.getElem?_eq_some_iff.1 ho).1
       rcases (show j = 0 ∨ j = 1 ∨ j = 2 ∨ j = 3 ∨ j = 4 ∨ j = 5 ∨ j = 6 ∨ j = 7 ∨ j = 8 ∨ j = 9 ∨ j = 10 ∨ j = 11 by omega) with rfl | rfl | rfl | rfl | rfl | rfl | rfl | rfl | rfl | rfl | rfl | rfl
       ·cases ho
        have h13 : S 11 = false := by
         cases h : S 11 with
         | false => rfl
         | true => exact absurd (j12 (j13 h)) (by rw [hs]; simp)
        rw [if_pos (show Region.wanted _ _ = true from rfl)]
        refine wp_val (v := v) (w' := X) ?_ ⟨A2, c2, A3, c3, xA, xc, g1, g2, v2, v3, rfl, hI, fun _ => rfl, j13, jv⟩
        simp [execOp, go_sem, Act.eval, h13]
       ·cases ho
        rw [if_pos (show Region.wanted _ _ = true from rfl)]
        refine wp_val (v := .pointer (some ⟨wr.heap.size, 0, none⟩)) (w' := X) ?_ ⟨A2, c2, A3, c3, xA, xc, g1, g2, v2, v3, rfl, hI, j12, j13, jv⟩
        simp [execOp, go_sem, Act.eval]
       ·cases ho
        have s1 : S 1 = true := hp ⟨1, .data⟩ (by simp) rfl
        have bc0 := hI.box.c 0 (.int .i64 fr) rfl
        rw [if_pos (show Region.wanted _ _ = true from rfl)]
        refine wp_val (v := .int .i64 fr) (w' := X) ?_ ⟨A2, c2, A3, c3, xA, xc, g1, g2, v2, v3, rfl, hI, j12, j13, jv⟩
        simp [execOp, go_sem, Act.eval, s1, bc0]
       ·cases ho
        have s2 : S 2 = true := hp ⟨2, .data⟩ (by simp) rfl
        rw [if_pos (show Region.wanted _ _ = true from rfl)]
        refine wp_cal ?_ (HCHF.out X) (fun v w' hR => ?_)
        ·simp [execOp, go_sem, Act.eval, s2]
         try rfl
        ·obtain ⟨⟨A', c', rfl⟩, hB'⟩ := hR
         exact ⟨A', c', A3, c3, xA, xc, g1, g2, v2, v3, rfl, hI.call hB', j12, j13, jv⟩
       ·cases ho
        rw [if_pos (show Region.wanted _ _ = true from rfl)]
        refine wp_val (v := .pointer (some ⟨wr.heap.size, 1, none⟩)) (w' := X) ?_ ⟨A2, c2, A3, c3, xA, xc, g1, g2, v2, v3, rfl, hI, j12, j13, jv⟩
        simp [execOp, go_sem, Act.eval]
       ·cases ho
        have s4 : S 4 = true := hp ⟨4, .data⟩ (by simp) rfl
        have bc1 := hI.box.c 1 (.int .i64 tz) rfl
        rw [if_pos (show Region.wanted _ _ = true from rfl)]
        refine wp_val (v := .int .i64 tz) (w' := X) ?_ ⟨A2, c2, A3, c3, xA, xc, g1, g2, v2, v3, rfl, hI, j12, j13, jv⟩
        simp [execOp, go_sem, Act.eval, s4, bc1]
       ·cases ho
        have s5 : S 5 = true := hp ⟨5, .data⟩ (by simp) rfl
        rw [if_pos (show Region.wanted _ _ = true from rfl)]
        refine wp_cal ?_ (HCHT.out X) (fun v w' hR => ?_)
        ·simp [execOp, go_sem, Act.eval, s5]
         try rfl
        ·obtain ⟨⟨A', c', rfl⟩, hB'⟩ := hR
         exact ⟨A2, c2, A', c', xA, xc, g1, g2, v2, v3, rfl, hI.call hB', j12, j13, jv⟩
       ·cases ho
        have s3 : S 3 = true := hp ⟨3, .data⟩ (by simp) rfl
        have s6 : S 6 = true := hp ⟨6, .data⟩ (by simp) rfl
        rw [if_pos (show Region.wanted _ _ = true from rfl)]
        refine wp_val (v := .slice (some ⟨X.heap.size, 0, none⟩) 2 2) (w' := X.alloc (.cells #[.int .i64 2, .int .i64 0, .string cf, .slice A2 0 c2, .int .i64 2, .int .i64 0, .string ct, .slice A3 0 c3] 26)) ?_ ⟨A2, c2, A3, c3, xA, xc, X.heap.size, g2, v2, v3, rfl, hI.rowd [(atomT cf, A2, c2), (atomT ct, A3, c3)] 26 rfl (by simp [maxLen]) (fun r hr => by simp only [List.mem_cons, List.mem_nil_iff, or_false] at hr; rcases hr with rfl | rfl <;> exact TmsK.nil), j12, j13, jv⟩
        simp [execOp, go_sem, Act.eval, s3, s6]
       ·cases ho
        have s7 : S 7 = true := hp ⟨7, .data⟩ (by simp) rfl
        rw [if_pos (show Region.wanted _ _ = true from rfl)]
        refine wp_cal ?_ (HSTR.out X g1 (hI.row s7 hs)) (fun v w' hR => ?_)
        ·simp [execOp, go_sem, Act.eval, s7]
         try rfl
        ·obtain ⟨⟨A', c', rfl, hN⟩, hB'⟩ := hR
         exact ⟨A2, c2, A3, c3, A', c', g1, g2, v2, v3, rfl, hI.strd hs A' c' hB' hN, j12, j13, jv⟩
       ·cases ho
        have s8 : S 8 = true := hp ⟨8, .data⟩ (by simp) rfl
        rw [if_pos (show Region.wanted _ _ = true from rfl)]
        refine wp_val (v := .slice (some ⟨X.heap.size, 0, none⟩) 1 1) (w' := X.alloc (.cells #[.int .i64 xt.kind, .int .i64 xt.num, .string xt.name, .slice xA xt.args.length xc] 26)) ?_ ⟨A2, c2, A3, c3, xA, xc, g1, X.heap.size, v2, v3, rfl, hI.oned s8 26, j12, j13, jv⟩
        simp [execOp, go_sem, Act.eval, s8]
       ·cases ho
        have s0 : S 0 = true := hp ⟨0, .data⟩ (by simp) rfl
        have s9 : S 9 = true := hp ⟨9, .data⟩ (by simp) rfl
        rw [if_pos (show Region.wanted _ _ = true from rfl)]
        have h13 : S 11 = false := by
         cases h : S 11 with
         | false => rfl
         | true => exact absurd (j13 h) (by rw [hs]; simp)
        have s8 : S 8 = true := hI.i11 s9
        have hg2 := hI.one s9 hs
        refine wp_appR (.tmp 67) (.tmp 76) rfl w1.heap.size v rs (xt, xA, xc) g2 1 (by simp [Act.eval, s0]) (hI.own hs) (by simp [Act.eval, s9]) hg2 ((hI.str s8).keep (fun _ _ => rfl) (fun b hb => ⟨Nat.le_trans HWW.out hb.1, hb.2, fun e => by have := (HVO.out b e).2; have := hb.1; omega⟩)) HRL.out hI.bel.size (fun v' w' ho hg => ⟨A2, c2, A3, c3, xA, xc, g1, g2, v', v3, rfl, hI.appd s8 s9 hs HVO.out ho hg, fun _ => s0, fun h => absurd (show S 11 = true from h) (by rw [h13]; simp), fun h => absurd (show S 11 = true from h) (by rw [h13]; simp)⟩)
       ·cases ho
        have s10 : S 10 = true := hp ⟨10, .data⟩ (by simp) rfl
        rw [if_pos (show Region.wanted _ _ = true from rfl)]
        refine wp_val (v := v2) (w' := X) ?_ ⟨A2, c2, A3, c3, xA, xc, g1, g2, v2, v2, rfl, hI, j12, fun _ => s10, fun _ => rfl⟩
        simp [execOp, go_sem, Act.eval, s10]
      case finz =>
       rintro S a X9 hall ⟨A2, c2, A3, c3, xA, xc, g1, g2, v2, v3, rfl, hI, -, -, jv⟩
       have s0 := hall 0 (show 0 < 12 by omega)
       have s1 := hall 1 (show 1 < 12 by omega)
       have s2 := hall 2 (show 2 < 12 by omega)
       have s3 := hall 3 (show 3 < 12 by omega)
       have s4 := hall 4 (show 4 < 12 by omega)
       have s5 := hall 5 (show 5 < 12 by omega)
       have s6 := hall 6 (show 6 < 12 by omega)
       have s7 := hall 7 (show 7 < 12 by omega)
       have s8 := hall 8 (show 8 < 12 by omega)
       have s9 := hall 9 (show 9 < 12 by omega)
       have s10 := hall 10 (show 10 < 12 by omega)
       have s11 := hall 11 (show 11 < 12 by omega)
       have hvv := jv s11
       subst hvv
       have HO9 := Lib.hid (hI.own2 s10)
       have HB9 := Lib.hid hI.bel
       have HR9 : Hid ((rs ++ [(xt, xA, xc)]).map (·.1) = (cl.take (k + 1)).map cvAns) := Lib.hid (by
        rw [List.map_append, HR.out, HTK.out]
        rfl)
       refine hK9 _ _ ?_
       simp only [s0, s1, s2, s3, s4, s5, s6, s7, s8, s9, s10, s11, if_true]
       clear hall hI jv hK9 s0 s1 s2 s3 s4 s5 s6 s7 s8 s9 s10 s11 HCHF HCHT HSTR HVO HWW HRL HO5 HB5 HK5 HO HB HR HTK HX2
       go_wp2_with fail
       go_roundw
       case rel => exact ⟨k + 1, _, HKR.out, by go_num, HB9, HO9, HR9⟩
       case measure => simp [intOf] <;> (have := HKR.out; omega)
     ·have hkn : k = cn := by omega
      subst hkn
      obtain ⟨RA, rc, hve, hTR⟩ := HO.out.tms
      have hra : rs.map (fun r : TR => r.1) = cl.map cvAns := by rw [HR.out, HC.out.len, List.take_length]
      have hrl : rs.length = k := by
       have := congrArg List.length hra
       rw [List.length_map, List.length_map, ← HC.out.len] at this
       exact this
      rw [hrl] at hve
      subst hve
      rw [hra] at hTR
      have HTR := Lib.hid hTR
      have HBLr := Lib.hid (HBL1.out.trans (HB.out.mono HBL1.out.size))
      have HBKr : Hid (Bks wr [(gp, [.int .i64 p.kind, .int .i64 p.num, .string p.name, .slice PA p.args.length pc]), (w.heap.size + 1 + 1 + 1, [.int .i64 0, .int .i64 0, .string ⟨#[]⟩, .slice none 0 0]), (w.heap.size + 1 + 1, [.slice none 0 0, .int .i64 0, .int .i64 0, .bool false, .bool false, .slice none 0 0]), (w.heap.size + 1, [.int .i64 gk, .int .i64 gn, .string gs, .slice (some ⟨b, off, none⟩) 2 ac]), (w.heap.size, [.slice OA on oc, .int .i64 q, .int .i64 u, .bool c, .bool d, .slice CA k cc])]) := Lib.hid (HBX1.out.call HB.out)
      clear hTR hra hrl HO HB HR
      have f0_0 := HBKr.out.cell 4 0 rfl rfl
      have f0_1 := HBKr.out.cell 4 1 rfl rfl
      have f0_2 := HBKr.out.cell 4 2 rfl rfl
      have f0_3 := HBKr.out.cell 4 3 rfl rfl
      have f0_4 := HBKr.out.cell 4 4 rfl rfl
      have f0_5 := HBKr.out.cell 4 5 rfl rfl
      have f2_0 := HBKr.out.cell 2 0 rfl rfl
      have f2_1 := HBKr.out.cell 2 1 rfl rfl
      have f2_2 := HBKr.out.cell 2 2 rfl rfl
      have f2_3 := HBKr.out.cell 2 3 rfl rfl
      have f2_4 := HBKr.out.cell 2 4 rfl rfl
      have f2_5 := HBKr.out.cell 2 5 rfl rfl
      have f3_0 := HBKr.out.cell 1 0 rfl rfl
      have f3_1 := HBKr.out.cell 1 1 rfl rfl
      have f3_2 := HBKr.out.cell 1 2 rfl rfl
      have f3_3 := HBKr.out.cell 1 3 rfl rfl
      have f2f0 := HBKr.out.fz 2 0 rfl
      have f2f1 := HBKr.out.fz 2 1 rfl
      have f2f2 := HBKr.out.fz 2 2 rfl
      have f2f3 := HBKr.out.fz 2 3 rfl
      have f2f4 := HBKr.out.fz 2 4 rfl
      have f2f5 := HBKr.out.fz 2 5 rfl
      have f3f0 := HBKr.out.fz 1 0 rfl
      have f3f1 := HBKr.out.fz 1 1 rfl
      have f3f2 := HBKr.out.fz 1 2 rfl
      have f3f3 := HBKr.out.fz 1 3 rfl
      have f0l : w.heap.size < wr.heap.size := HBKr.out.lt 4 rfl
      have f2l : w.heap.size + 1 + 1 < wr.heap.size := HBKr.out.lt 2 rfl
      have f3l : w.heap.size + 1 + 1 + 1 < wr.heap.size := HBKr.out.lt 1 rfl
      have HBKZ : Hid (Bks (((((((((((wr.setCell ⟨w.heap.size + 1 + 1, 0, none⟩ (.slice OA on oc)).setCell ⟨w.heap.size + 1 + 1, 1, none⟩ (.int .i64 q)).setCell ⟨w.heap.size + 1 + 1, 2, none⟩ (.int .i64 u)).setCell ⟨w.heap.size + 1 + 1, 3, none⟩ (.bool c)).setCell ⟨w.heap.size + 1 + 1, 4, none⟩ (.bool d)).setCell ⟨w.heap.size + 1 + 1, 5, none⟩ (.slice CA k cc)).setCell ⟨w.heap.size + 1 + 1 + 1, 0, none⟩ (.int .i64 0)).setCell ⟨w.heap.size + 1 + 1 + 1, 1, none⟩ (.int .i64 0)).setCell ⟨w.heap.size + 1 + 1 + 1, 2, none⟩ (.string ⟨#[]⟩)).setCell ⟨w.heap.size + 1 + 1 + 1, 3, none⟩ (.slice none 0 0))) [(gp, [.int .i64 p.kind, .int .i64 p.num, .string p.name, .slice PA p.args.length pc]), (w.heap.size + 1 + 1 + 1, [.int .i64 0, .int .i64 0, .string ⟨#[]⟩, .slice none 0 0]), (w.heap.size + 1 + 1, [.slice OA on oc, .int .i64 q, .int .i64 u, .bool c, .bool d, .slice CA k cc]), (w.heap.size + 1, [.int .i64 gk, .int .i64 gn, .string gs, .slice (some ⟨b, off, none⟩) 2 ac]), (w.heap.size, [.slice OA on oc, .int .i64 q, .int .i64 u, .bool c, .bool d, .slice CA k cc])]) := Lib.hid ((HBKr.out.set6 2 rfl (.slice OA on oc) (.int .i64 q) (.int .i64 u) (.bool c) (.bool d) (.slice CA k cc)).set4 1 rfl (.int .i64 0) (.int .i64 0) (.string ⟨#[]⟩) (.slice none 0 0))
      have hbz : Below w.heap.size w (((((((((((wr.setCell ⟨w.heap.size + 1 + 1, 0, none⟩ (.slice OA on oc)).setCell ⟨w.heap.size + 1 + 1, 1, none⟩ (.int .i64 q)).setCell ⟨w.heap.size + 1 + 1, 2, none⟩ (.int .i64 u)).setCell ⟨w.heap.size + 1 + 1, 3, none⟩ (.bool c)).setCell ⟨w.heap.size + 1 + 1, 4, none⟩ (.bool d)).setCell ⟨w.heap.size + 1 + 1, 5, none⟩ (.slice CA k cc)).setCell ⟨w.heap.size + 1 + 1 + 1, 0, none⟩ (.int .i64 0)).setCell ⟨w.heap.size + 1 + 1 + 1, 1, none⟩ (.int .i64 0)).setCell ⟨w.heap.size + 1 + 1 + 1, 2, none⟩ (.string ⟨#[]⟩)).setCell ⟨w.heap.size + 1 + 1 + 1, 3, none⟩ (.slice none 0 0))) := ((((((((((HBLr.out.setCell (p := ⟨w.heap.size + 1 + 1, _, none⟩) (show w.heap.size ≤ w.heap.size + 1 + 1 by omega) _).setCell (p := ⟨w.heap.size + 1 + 1, _, none⟩) (show w.heap.size ≤ w.heap.size + 1 + 1 by omega) _).setCell (p := ⟨w.heap.size + 1 + 1, _, none⟩) (show w.heap.size ≤ w.heap.size + 1 + 1 by omega) _).setCell (p := ⟨w.heap.size + 1 + 1, _, none⟩) (show w.heap.size ≤ w.heap.size + 1 + 1 by omega) _).setCell (p := ⟨w.heap.size + 1 + 1, _, none⟩) (show w.heap.size ≤ w.heap.size + 1 + 1 by omega) _).setCell (p := ⟨w.heap.size + 1 + 1, _, none⟩) (show w.heap.size ≤ w.heap.size + 1 + 1 by omega) _).setCell (p := ⟨w.heap.size + 1 + 1 + 1, _, none⟩) (show w.heap.size ≤ w.heap.size + 1 + 1 + 1 by omega) _).setCell (p := ⟨w.heap.size + 1 + 1 + 1, _, none⟩) (show w.heap.size ≤ w.heap.size + 1 + 1 + 1 by omega) _).setCell (p := ⟨w.heap.size + 1 + 1 + 1, _, none⟩) (show w.heap.size ≤ w.heap.size + 1 + 1 + 1 by omega) _).setCell (p := ⟨w.heap.size + 1 + 1 + 1, _, none⟩) (show w.heap.size ≤ w.heap.size + 1 + 1 + 1 by omega) _)
      have hkk : ∀ j, j ≠ w.heap.size + 1 + 1 → j ≠ w.heap.size + 1 + 1 + 1 → (((((((((((wr.setCell ⟨w.heap.size + 1 + 1, 0, none⟩ (.slice OA on oc)).setCell ⟨w.heap.size + 1 + 1, 1, none⟩ (.int .i64 q)).setCell ⟨w.heap.size + 1 + 1, 2, none⟩ (.int .i64 u)).setCell ⟨w.heap.size + 1 + 1, 3, none⟩ (.bool c)).setCell ⟨w.heap.size + 1 + 1, 4, none⟩ (.bool d)).setCell ⟨w.heap.size + 1 + 1, 5, none⟩ (.slice CA k cc)).setCell ⟨w.heap.size + 1 + 1 + 1, 0, none⟩ (.int .i64 0)).setCell ⟨w.heap.size + 1 + 1 + 1, 1, none⟩ (.int .i64 0)).setCell ⟨w.heap.size + 1 + 1 + 1, 2, none⟩ (.string ⟨#[]⟩)).setCell ⟨w.heap.size + 1 + 1 + 1, 3, none⟩ (.slice none 0 0))).heap[j]? = wr.heap[j]? := fun j h2 h3 => by
       rw [heap_setCell_other _ _ _ _ h3, heap_setCell_other _ _ _ _ h3, heap_setCell_other _ _ _ _ h3, heap_setCell_other _ _ _ _ h3, heap_setCell_other _ _ _ _ h2, heap_setCell_other _ _ _ _ h2, heap_setCell_other _ _ _ _ h2, heap_setCell_other _ _ _ _ h2, heap_setCell_other _ _ _ _ h2, heap_setCell_other _ _ _ _ h2]
      have hNZ : NewT w (((((((((((wr.setCell ⟨w.heap.size + 1 + 1, 0, none⟩ (.slice OA on oc)).setCell ⟨w.heap.size + 1 + 1, 1, none⟩ (.int .i64 q)).setCell ⟨w.heap.size + 1 + 1, 2, none⟩ (.int .i64 u)).setCell ⟨w.heap.size + 1 + 1, 3, none⟩ (.bool c)).setCell ⟨w.heap.size + 1 + 1, 4, none⟩ (.bool d)).setCell ⟨w.heap.size + 1 + 1, 5, none⟩ (.slice CA k cc)).setCell ⟨w.heap.size + 1 + 1 + 1, 0, none⟩ (.int .i64 0)).setCell ⟨w.heap.size + 1 + 1 + 1, 1, none⟩ (.int .i64 0)).setCell ⟨w.heap.size + 1 + 1 + 1, 2, none⟩ (.string ⟨#[]⟩)).setCell ⟨w.heap.size + 1 + 1 + 1, 3, none⟩ (.slice none 0 0))) RA (cl.map cvAns) := HTR.out.keep (fun b hb => hkk b (by have := HLW.out; have := hb.1; omega) (by have := HLW.out; have := hb.1; omega)) (fun b hb => ⟨by have := HLW.out; have := hb.1; omega, by simpa using hb.2⟩)
      have hTZ : Tab (((((((((((wr.setCell ⟨w.heap.size + 1 + 1, 0, none⟩ (.slice OA on oc)).setCell ⟨w.heap.size + 1 + 1, 1, none⟩ (.int .i64 q)).setCell ⟨w.heap.size + 1 + 1, 2, none⟩ (.int .i64 u)).setCell ⟨w.heap.size + 1 + 1, 3, none⟩ (.bool c)).setCell ⟨w.heap.size + 1 + 1, 4, none⟩ (.bool d)).setCell ⟨w.heap.size + 1 + 1, 5, none⟩ (.slice CA k cc)).setCell ⟨w.heap.size + 1 + 1 + 1, 0, none⟩ (.int .i64 0)).setCell ⟨w.heap.size + 1 + 1 + 1, 1, none⟩ (.int .i64 0)).setCell ⟨w.heap.size + 1 + 1 + 1, 2, none⟩ (.string ⟨#[]⟩)).setCell ⟨w.heap.size + 1 + 1 + 1, 3, none⟩ (.slice none 0 0))) OA on oc l := HTAB.out.below hbz
      have hPZ : PrI BB (((((((((((wr.setCell ⟨w.heap.size + 1 + 1, 0, none⟩ (.slice OA on oc)).setCell ⟨w.heap.size + 1 + 1, 1, none⟩ (.int .i64 q)).setCell ⟨w.heap.size + 1 + 1, 2, none⟩ (.int .i64 u)).setCell ⟨w.heap.size + 1 + 1, 3, none⟩ (.bool c)).setCell ⟨w.heap.size + 1 + 1, 4, none⟩ (.bool d)).setCell ⟨w.heap.size + 1 + 1, 5, none⟩ (.slice CA k cc)).setCell ⟨w.heap.size + 1 + 1 + 1, 0, none⟩ (.int .i64 0)).setCell ⟨w.heap.size + 1 + 1 + 1, 1, none⟩ (.int .i64 0)).setCell ⟨w.heap.size + 1 + 1 + 1, 2, none⟩ (.string ⟨#[]⟩)).setCell ⟨w.heap.size + 1 + 1 + 1, 3, none⟩ (.slice none 0 0))) CA k cc cl := HC.out.below hbz
      obtain ⟨wz, HWZ⟩ : ∃ wz, Hid (wz = ((((((((((wr.setCell ⟨w.heap.size + 1 + 1, 0, none⟩ (.slice OA on oc)).setCell ⟨w.heap.size + 1 + 1, 1, none⟩ (.int .i64 q)).setCell ⟨w.heap.size + 1 + 1, 2, none⟩ (.int .i64 u)).setCell ⟨w.heap.size + 1 + 1, 3, none⟩ (.bool c)).setCell ⟨w.heap.size + 1 + 1, 4, none⟩ (.bool d)).setCell ⟨w.heap.size + 1 + 1, 5, none⟩ (.slice CA k cc)).setCell ⟨w.heap.size + 1 + 1 + 1, 0, none⟩ (.int .i64 0)).setCell ⟨w.heap.size + 1 + 1 + 1, 1, none⟩ (.int .i64 0)).setCell ⟨w.heap.size + 1 + 1 + 1, 2, none⟩ (.string ⟨#[]⟩)).setCell ⟨w.heap.size + 1 + 1 + 1, 3, none⟩ (.slice none 0 0))) := ⟨_, Lib.hid rfl⟩
      rw [← HWZ.out] at HBKZ hbz hNZ hTZ hPZ
      have HRI : Hid (RIs BB w wz (rvS OA on oc q u c d CA k cc RA k rc) R) := Lib.hid (by
       rw [HRR.out]
       exact ⟨rfl, hTZ, rfl, hPZ, by rw [List.length_map]; exact hPZ.len, hNZ⟩)
      have HBZ := Lib.hid hbz
      clear hNZ hkk hTZ hPZ hbz
      go_wp2_with fail
      rw [← HWZ.out]
      have m2_0 := HBKZ.out.cell 2 0 rfl rfl
      have m2_1 := HBKZ.out.cell 2 1 rfl rfl
      have m2_2 := HBKZ.out.cell 2 2 rfl rfl
      have m2_3 := HBKZ.out.cell 2 3 rfl rfl
      have m2_4 := HBKZ.out.cell 2 4 rfl rfl
      have m2_5 := HBKZ.out.cell 2 5 rfl rfl
      have m3_0 := HBKZ.out.cell 1 0 rfl rfl
      have m3_1 := HBKZ.out.cell 1 1 rfl rfl
      have m3_2 := HBKZ.out.cell 1 2 rfl rfl
      have m3_3 := HBKZ.out.cell 1 3 rfl rfl
      exact bodyPost_ret (v := .tuple #[.agg #[.slice OA on oc, .int .i64 q, .int .i64 u, .bool c, .bool d, .slice CA k cc], .slice RA k rc, .agg #[.int .i64 0, .int .i64 0, .string ⟨#[]⟩, .slice none 0 0], .int .i64 0]) (by simp [results, Tryz.results116, go_sem, m2_0, m2_1, m2_2, m2_3, m2_4, m2_5, m3_0, m3_1, m3_2, m3_3]) rfl ⟨rvS OA on oc q u c d CA k cc RA k rc, rfl, HBZ.out, HRI.out⟩
   ·have HRR := Lib.hid (HR3.out hup hut (by first | rfl | trivial))
    obtain ⟨x, hx⟩ := HX.out hup (by first | rfl | trivial)
    have HXN : Hid (p.name = ⟨#[x]⟩) := Lib.hid hx
    rw [hx, chOf_one] at HRR
    rw [hx] at HBX1
    clear HR3 HR4 HX hup hut
    have s0_0 := HBX1.out.cell 4 0 rfl rfl
    have s0_1 := HBX1.out.cell 4 1 rfl rfl
    have s0_2 := HBX1.out.cell 4 2 rfl rfl
    have s0_3 := HBX1.out.cell 4 3 rfl rfl
    have s0_4 := HBX1.out.cell 4 4 rfl rfl
    have s0_5 := HBX1.out.cell 4 5 rfl rfl
    have s4_0 := HBX1.out.cell 0 0 rfl rfl
    have s4_1 := HBX1.out.cell 0 1 rfl rfl
    have s4_2 := HBX1.out.cell 0 2 rfl rfl
    have s4_3 := HBX1.out.cell 0 3 rfl rfl
    have s0l : w.heap.size < w1.heap.size := HBX1.out.lt 4 rfl
    have s4l : gp < w1.heap.size := HBX1.out.lt 0 rfl
    go_wp2_with fail
    rename_i K9 hK9
    obtain ⟨cs, HCS⟩ : ∃ cs, Hid (cs = chS (convT cl x.toNat)) := ⟨_, Lib.hid rfl⟩
    rw [← HCS.out] at HRR
    have HCH := Lib.hid (cv_ch ((cvOk_iff cl).1 HCV.out) (c := x.toNat) (by omega) (by have := x.toNat_lt; omega))
    have HCVT : Hid (∀ X, Below w.heap.size w X → Calls Tryz.prog 164 #[.slice CA cn cc, .int .i64 (x.toNat : Int)] X fun e w' => ∃ v, e = .returned v ∧ (v = .int .i64 (convT cl x.toNat) ∧ Below X.heap.size X w')) := Lib.hid fun X hX => by
     have hc := HC.out.below hX
     have hl := cv_len ((cvOk_iff cl).1 HCV.out)
     exact (chars_convert CA cn cc cl x.toNat X hc.len (by rw [hc.len]; omega) hc.prs HCV.out (by omega) (by have := x.toNat_lt; omega)).mono fun e w' h => ⟨_, h.1, rfl, h.2⟩
    have HCHR : Hid (∀ X, Calls Tryz.prog 163 #[.int .i64 (convT cl x.toNat)] X fun e w' => ∃ v, e = .returned v ∧ ((∃ A7 c7, v = .agg #[.int .i64 2, .int .i64 0, .string cs, .slice A7 0 c7]) ∧ Below X.heap.size X w')) := Lib.hid fun X => (f_char (convT cl x.toNat) HCH.out.1 HCH.out.2 X).mono fun e w' h => by
     obtain ⟨A', c', he, hb⟩ := h
     exact ⟨_, he, ⟨A', c', by rw [HCS.out]; rfl⟩, hb⟩
    refine wp_region_any (by kernel_rfl) ?_
    refine wpAny_inv (fun S a X => ∃ (A7 : Option Addr) (c7 e : Nat), a = (⟨#[.agg #[.slice OA on oc, .int .i64 q, .int .i64 u, .bool c, .bool d, .slice CA cn cc], .slice (some ⟨b, off, none⟩) 2 ac, .agg #[.int .i64 gk, .int .i64 gn, .string gs, .slice (some ⟨b, off, none⟩) 2 ac], .pointer (some ⟨w.heap.size, 0, none⟩), undef, .pointer (some ⟨w.heap.size + 1, 0, none⟩), .pointer (some ⟨w.heap.size + 1 + 1, 0, none⟩), u7, .pointer (some ⟨w.heap.size + 1 + 1 + 1, 0, none⟩), u9, undef, u11, .pointer (some ⟨gp, 0, none⟩), if S 8 = true then .pointer (some ⟨e, 0, none⟩) else undef, undef, undef, undef, .slice (some ⟨b, off, none⟩) 2 ac, .int .i64 2, .int .i64 2, .bool false, u21, u22, u23, u24, u25, u26, u27, u28, u29, u30, u31, u32, u33, u34, u35, u36, u37, u38, u39, .slice (some ⟨b, off, none⟩) 2 ac, .pointer (some ⟨b, off, none⟩), .agg #[.int .i64 p.kind, .int .i64 p.num, .string ⟨#[x]⟩, .slice PA p.args.length pc], .agg #[.int .i64 p.kind, .int .i64 p.num, .string ⟨#[x]⟩, .slice PA p.args.length pc], .bool true, if S 0 = true then .pointer (some ⟨w.heap.size, 5, none⟩) else undef, if S 1 = true then .slice CA cn cc else undef, if S 2 = true then .pointer (some ⟨gp, 2, none⟩) else undef, if S 3 = true then .string ⟨#[x]⟩ else undef, if S 4 = true then .int .u8 (x.toNat : Int) else undef, if S 5 = true then .int .i64 (x.toNat : Int) else undef, if S 6 = true then .int .i64 (convT cl x.toNat) else undef, if S 7 = true then .agg #[.int .i64 2, .int .i64 0, .string cs, .slice A7 0 c7] else undef, undef, undef, undef, undef, undef, undef, undef, undef, undef, undef, undef, undef, undef, undef, undef, undef, undef, undef, undef, undef, undef, undef, undef, undef, undef, undef, undef, undef, undef], []⟩ : Act) ∧ Below w1.heap.size w1 X ∧ (S 8 = true → w1.heap.size ≤ e ∧ Bk X e (if S 9 = true then [.int .i64 2, .int .i64 0, .string cs, .slice A7 0 c7] else [.int .i64 0, .int .i64 0, .string ⟨#[]⟩, .slice none 0 0])) ∧ (S 9 = true → S 8 = true) ∧ (S 9 = true → S 7 = true)) (by kernel_rfl) ?step ?fin 10 (fun _ => false) _ _ (by decide) ⟨none, 0, 0, rfl, (Below.refl _ w1).drew, fun h => (by cases h), fun h => (by cases h), fun h => (by cases h)⟩
    case step =>
     rintro S j o a X ho hs hp ⟨A7, c7, e, rfl, hB, he, i98, i97⟩
     have hlt : j < 10 := (Array.getElem?_eq_some_iff.1 ho).1
     rcases (show j = 0 ∨ j = 1 ∨ j = 2 ∨ j = 3 ∨ j = 4 ∨ j = 5 ∨ j = 6 ∨ j = 7 ∨ j = 8 ∨ j = 9 by omega) with rfl | rfl | rfl | rfl | rfl | rfl | rfl | rfl | rfl | rfl
     ·cases ho
      rw [if_pos (show Region.wanted _ _ = true from rfl)]
      refine wp_val (v := .pointer (some ⟨w.heap.size, 5, none⟩)) (w' := X) ?_ ⟨A7, c7, e, rfl, hB, he, i98, i97⟩
      simp [execOp, go_sem, Act.eval]
     ·cases ho
      have s0 : S 0 = true := hp ⟨0, .data⟩ (by simp) rfl
      have z : X.cell? ⟨w.heap.size, 5, none⟩ = some (.slice CA cn cc) := (hB.cell (p := ⟨_, 5, none⟩) s0l).trans s0_5
      rw [if_pos (show Region.wanted _ _ = true from rfl)]
      refine wp_val (v := .slice CA cn cc) (w' := X) ?_ ⟨A7, c7, e, rfl, hB, he, i98, i97⟩
      simp [execOp, go_sem, Act.eval, s0, z]
     ·cases ho
      rw [if_pos (show Region.wanted _ _ = true from rfl)]
      refine wp_val (v := .pointer (some ⟨gp, 2, none⟩)) (w' := X) ?_ ⟨A7, c7, e, rfl, hB, he, i98, i97⟩
      simp [execOp, go_sem, Act.eval]
     ·cases ho
      have s2 : S 2 = true := hp ⟨2, .data⟩ (by simp) rfl
      have z : X.cell? ⟨gp, 2, none⟩ = some (.string ⟨#[x]⟩) := (hB.cell (p := ⟨_, 2, none⟩) s4l).trans s4_2
      rw [if_pos (show Region.wanted _ _ = true from rfl)]
      refine wp_val (v := .string ⟨#[x]⟩) (w' := X) ?_ ⟨A7, c7, e, rfl, hB, he, i98, i97⟩
      simp [execOp, go_sem, Act.eval, s2, z]
     ·cases ho
      have s3 : S 3 = true := hp ⟨3, .data⟩ (by simp) rfl
      rw [if_pos (show Region.wanted _ _ = true from rfl)]
      refine wp_val (v := .int .u8 (x.toNat : Int)) (w' := X) ?_ ⟨A7, c7, e, rfl, hB, he, i98, i97⟩
      simp [execOp, go_sem, Act.eval, s3]
      rfl
     ·cases ho
      have s4 : S 4 = true := hp ⟨4, .data⟩ (by simp) rfl
      have z1 := IntWalk.i64_in (x.toNat : Int) (by have := x.toNat_lt; omega)
      rw [if_pos (show Region.wanted _ _ = true from rfl)]
      refine wp_val (v := .int .i64 (x.toNat : Int)) (w' := X) ?_ ⟨A7, c7, e, rfl, hB, he, i98, i97⟩
      simp [execOp, go_sem, Act.eval, s4, z1]
     ·cases ho
      have s1 : S 1 = true := hp ⟨1, .data⟩ (by simp) rfl
      have s5 : S 5 = true := hp ⟨5, .data⟩ (by simp) rfl
      rw [if_pos (show Region.wanted _ _ = true from rfl)]
      refine wp_cal ?_ (HCVT.out X (HBL1.out.trans (hB.mono HBL1.out.size))) (fun v w' hR => ?_)
      ·simp [execOp, go_sem, Act.eval, s1, s5]
       try rfl
      ·obtain ⟨rfl, hB'⟩ := hR
       exact ⟨A7, c7, e, rfl, hB.trans (hB'.mono hB.size), fun h => ⟨(he h).1, (he h).2.call hB'⟩, i98, i97⟩
     ·cases ho
      have s6 : S 6 = true := hp ⟨6, .data⟩ (by simp) rfl
      have h9 : S 9 = false := by
       cases h : S 9
       ·rfl
       ·exact absurd (i97 h) (by rw [hs]; simp)
      rw [if_pos (show Region.wanted _ _ = true from rfl)]
      refine wp_cal ?_ (HCHR.out X) (fun v w' hR => ?_)
      ·simp [execOp, go_sem, Act.eval, s6]
       try rfl
      ·obtain ⟨⟨A', c', rfl⟩, hB'⟩ := hR
       refine ⟨A', c', e, rfl, hB.trans (hB'.mono hB.size), fun h => ⟨(he h).1, ?_⟩, i98, fun _ => rfl⟩
       have hk := (he h).2.call hB'
       rw [if_neg (by rw [h9]; simp)] at hk
       rw [if_neg (show ¬ updF S 7 9 = true from fun hh => by rw [show updF S 7 9 = S 9 from rfl, h9] at hh; cases hh)]
       exact hk
     ·cases ho
      rw [if_pos (show Region.wanted _ _ = true from rfl)]
      refine wp_val (v := .pointer (some ⟨X.heap.size, 0, none⟩)) (w' := X.alloc (.cells #[.int .i64 0, .int .i64 0, .string ⟨#[]⟩, .slice none 0 0] 26)) ?_ ⟨A7, c7, X.heap.size, rfl, hB.alloc hB.size _, fun _ => ⟨hB.size, by rw [if_neg (show ¬ updF S 8 9 = true from fun h => absurd (i98 h) (by rw [hs]; simp))]; exact Bk.new X [.int .i64 0, .int .i64 0, .string ⟨#[]⟩, .slice none 0 0] 26⟩, fun _ => rfl, i97⟩
      simp [execOp, go_sem]
     ·cases ho
      have s7 : S 7 = true := hp ⟨7, .data⟩ (by simp) rfl
      have s8 : S 8 = true := hp ⟨8, .data⟩ (by simp) rfl
      rw [if_pos (show Region.wanted _ _ = true from rfl)]
      have hk := (he s8).2
      rw [if_neg (by rw [hs]; simp)] at hk
      have z0 := hk.c 0 (.int .i64 0) rfl
      have f0 := hk.f 0
      have z1 := hk.c 1 (.int .i64 0) rfl
      have f1 := hk.f 1
      have z2 := hk.c 2 (.string ⟨#[]⟩) rfl
      have f2 := hk.f 2
      have z3 := hk.c 3 (.slice none 0 0) rfl
      have f3 := hk.f 3
      refine wp_skp (w' := ((((X.setCell ⟨e, 0, none⟩ (.int .i64 2)).setCell ⟨e, 1, none⟩ (.int .i64 0)).setCell ⟨e, 2, none⟩ (.string cs)).setCell ⟨e, 3, none⟩ (.slice A7 0 c7))) ?_ ⟨A7, c7, e, rfl, ((((hB.setCell (p := ⟨_, _, none⟩) (he s8).1 _).setCell (p := ⟨_, _, none⟩) (he s8).1 _).setCell (p := ⟨_, _, none⟩) (he s8).1 _).setCell (p := ⟨_, _, none⟩) (he s8).1 _), fun _ => ⟨(he s8).1, by rw [if_pos (show updF S 9 9 = true from rfl)]; exact ((((hk.set 0 (.int .i64 2)).set 1 (.int .i64 0)).set 2 (.string cs)).set 3 (.slice A7 0 c7))⟩, fun _ => s8, fun _ => s7⟩
      simp [execOp, go_sem, Act.eval, s8, s7, z0, z1, z2, z3, f0, f1, f2, f3]
    case fin =>
     rintro S a W2 hall ⟨A7, c7, e, rfl, hB, he, -, -⟩
     have s0 := hall 0 (show 0 < 10 by omega)
     have s1 := hall 1 (show 1 < 10 by omega)
     have s2 := hall 2 (show 2 < 10 by omega)
     have s3 := hall 3 (show 3 < 10 by omega)
     have s4 := hall 4 (show 4 < 10 by omega)
     have s5 := hall 5 (show 5 < 10 by omega)
     have s6 := hall 6 (show 6 < 10 by omega)
     have s7 := hall 7 (show 7 < 10 by omega)
     have s8 := hall 8 (show 8 < 10 by omega)
     have s9 := hall 9 (show 9 < 10 by omega)
     have he0 := (he s8).2
     rw [if_pos s9] at he0
     have HE := Lib.hid he0
     have HEL := Lib.hid (he s8).1
     have HBL2 := Lib.hid (HBL1.out.trans (hB.mono HBL1.out.size))
     have HBX2 := Lib.hid (HBX1.out.keep fun x hx => hB.block x.1 (HBX1.out.bk x hx).lt)
     have HLW : Hid (w.heap.size + 1 + 1 + 1 < w1.heap.size) := Lib.hid (HBX1.out.lt 1 rfl)
     have HGW : Hid (gp < w1.heap.size) := Lib.hid (HBX1.out.lt 0 rfl)
     have HS12 : Hid (w1.heap.size ≤ W2.heap.size) := Lib.hid hB.size
     refine hK9 _ _ ?_
     simp only [s0, s1, s2, s3, s4, s5, s6, s7, s8, if_true]
     clear hall hB he he0 HBL1 HBX1 hK9 HCVT HCHR HCH s0 s1 s2 s3 s4 s5 s6 s7 s8 s9 s0l s4l s0_0 s0_1 s0_2 s0_3 s0_4 s0_5 s4_0 s4_1 s4_2 s4_3
     go_wp2_with fail
     rename_i K10 hK10
     have HBZ2 : Hid (Bks W2 [(e, [.int .i64 2, .int .i64 0, .string cs, .slice A7 0 c7]), (gp, [.int .i64 p.kind, .int .i64 p.num, .string ⟨#[x]⟩, .slice PA p.args.length pc]), (w.heap.size + 1 + 1 + 1, [.int .i64 0, .int .i64 0, .string ⟨#[]⟩, .slice none 0 0]), (w.heap.size + 1 + 1, [.slice none 0 0, .int .i64 0, .int .i64 0, .bool false, .bool false, .slice none 0 0]), (w.heap.size + 1, [.int .i64 gk, .int .i64 gn, .string gs, .slice (some ⟨b, off, none⟩) 2 ac]), (w.heap.size, [.slice OA on oc, .int .i64 q, .int .i64 u, .bool c, .bool d, .slice CA cn cc])]) := Lib.hid (HBX2.out.cons HE.out (fun x hx => by
      have := (HBX2.out.top x hx)
      have := HGW.out; have := HEL.out
      omega))
     obtain ⟨xt, HXT⟩ : ∃ xt, Hid (xt = structT ⟨#[99, 117, 114, 114, 101, 110, 116, 95, 99, 104, 97, 114, 95, 99, 111, 110, 118, 101, 114, 115, 105, 111, 110]⟩ [p, atomT cs]) := ⟨_, Lib.hid rfl⟩
     rw [← HXT.out] at HRR
     have HSTR : Hid (∀ W g, TmsK (fun b => (b < w.heap.size ∨ w1.heap.size ≤ b) ∧ b < W.heap.size) W (some ⟨g, 0, none⟩) [p, atomT cs] → Calls Tryz.prog 159 #[.string ⟨#[99, 117, 114, 114, 101, 110, 116, 95, 99, 104, 97, 114, 95, 99, 111, 110, 118, 101, 114, 115, 105, 111, 110]⟩, .slice (some ⟨g, 0, none⟩) 2 2] W fun e w' => ∃ v, e = .returned v ∧ ((∃ A c, v = Value.agg #[.int .i64 xt.kind, .int .i64 xt.num, .string xt.name, .slice A xt.args.length c] ∧ NewT W w' A xt.args) ∧ Below W.heap.size W w')) := Lib.hid fun W g hT => by
      have := t_struct ⟨#[99, 117, 114, 114, 101, 110, 116, 95, 99, 104, 97, 114, 95, 99, 111, 110, 118, 101, 114, 115, 105, 111, 110]⟩ (some ⟨g, 0, none⟩) 2 [p, atomT cs] W (by decide) (hT.at fun b hb => hb.2)
      rw [← HXT.out] at this
      exact this.mono fun e w' h => by
       obtain ⟨A, c, he, hB, hN⟩ := h
       exact ⟨_, he, ⟨A, c, rfl, hN⟩, hB⟩
     clear HBX2 HE HXT HCS
     refine wp_region_any (by kernel_rfl) ?_
     refine wpAny_inv (fun S a X => ∃ (xA : Option Addr) (xc g1 g2 : Nat) (v7 : Value), a = (⟨#[.agg #[.slice OA on oc, .int .i64 q, .int .i64 u, .bool c, .bool d, .slice CA cn cc], .slice (some ⟨b, off, none⟩) 2 ac, .agg #[.int .i64 gk, .int .i64 gn, .string gs, .slice (some ⟨b, off, none⟩) 2 ac], .pointer (some ⟨w.heap.size, 0, none⟩), undef, .pointer (some ⟨w.heap.size + 1, 0, none⟩), .pointer (some ⟨w.heap.size + 1 + 1, 0, none⟩), if S 8 = true then v7 else u7, .pointer (some ⟨w.heap.size + 1 + 1 + 1, 0, none⟩), if S 10 = true then .int .i64 0 else u9, undef, u11, .pointer (some ⟨gp, 0, none⟩), .pointer (some ⟨e, 0, none⟩), undef, undef, undef, .slice (some ⟨b, off, none⟩) 2 ac, .int .i64 2, .int .i64 2, .bool false, u21, u22, u23, u24, u25, u26, u27, u28, u29, u30, u31, u32, u33, u34, u35, u36, u37, u38, u39, .slice (some ⟨b, off, none⟩) 2 ac, .pointer (some ⟨b, off, none⟩), .agg #[.int .i64 p.kind, .int .i64 p.num, .string ⟨#[x]⟩, .slice PA p.args.length pc], .agg #[.int .i64 p.kind, .int .i64 p.num, .string ⟨#[x]⟩, .slice PA p.args.length pc], .bool true, .pointer (some ⟨w.heap.size, 5, none⟩), .slice CA cn cc, .pointer (some ⟨gp, 2, none⟩), .string ⟨#[x]⟩, .int IntKind.u8 ↑x.toNat, .int .i64 ↑x.toNat, .int .i64 (convT cl ↑x.toNat), .agg #[.int .i64 2, .int .i64 0, .string cs, .slice A7 0 c7], if S 0 = true then .agg #[.slice OA on oc, .int .i64 q, .int .i64 u, .bool c, .bool d, .slice CA cn cc] else undef, if S 1 = true then .agg #[.int .i64 p.kind, .int .i64 p.num, .string ⟨#[x]⟩, .slice PA p.args.length pc] else undef, if S 2 = true then .agg #[.int .i64 2, .int .i64 0, .string cs, .slice A7 0 c7] else undef, if S 3 = true then .slice (some ⟨g1, 0, none⟩) 2 2 else undef, if S 4 = true then .agg #[.int .i64 xt.kind, .int .i64 xt.num, .string xt.name, .slice xA xt.args.length xc] else undef, if S 5 = true then .slice (some ⟨g2, 0, none⟩) 1 1 else undef, if S 6 = true then .agg #[.int .i64 0, .int .i64 0, .string ⟨#[]⟩, .slice none 0 0] else undef, undef, undef, undef, undef, undef, undef, undef, undef, undef, undef, undef, undef, undef, undef, undef, undef, undef, undef, undef, undef, undef, undef], []⟩ : Act) ∧ LcI w w1 [(e, [.int .i64 2, .int .i64 0, .string cs, .slice A7 0 c7]), (gp, [.int .i64 p.kind, .int .i64 p.num, .string ⟨#[x]⟩, .slice PA p.args.length pc]), (w.heap.size + 1 + 1 + 1, [.int .i64 0, .int .i64 0, .string ⟨#[]⟩, .slice none 0 0]), (w.heap.size + 1 + 1, if S 7 = true then [.slice OA on oc, .int .i64 q, .int .i64 u, .bool c, .bool d, .slice CA cn cc] else [.slice none 0 0, .int .i64 0, .int .i64 0, .bool false, .bool false, .slice none 0 0]), (w.heap.size + 1, [.int .i64 gk, .int .i64 gn, .string gs, .slice (some ⟨b, off, none⟩) 2 ac]), (w.heap.size, [.slice OA on oc, .int .i64 q, .int .i64 u, .bool c, .bool d, .slice CA cn cc])] xt [p, atomT cs] X xA xc g1 g2 (S 3) (S 4) (S 5) ∧ (S 8 = true → S 5 = true) ∧ (S 8 = true → v7 = .slice (some ⟨g2, 0, none⟩) 1 1)) (by kernel_rfl) ?stepq ?finq 11 (fun _ => false) _ _ (by decide) ⟨none, 0, 0, 0, undef, rfl, ⟨HBL2.out.drew, HS12.out, HBZ2.out.dr, fun h => (by cases h), fun h => (by cases h), fun h => (by cases h)⟩, fun h => (by cases h), fun h => (by cases h)⟩
     case stepq =>
      rintro S j o a X ho hs hp ⟨xA, xc, g1, g2, v7, rfl, hI, i85, j8⟩
      have hlt : j < 11 := (Array.getElem?_eq_some_iff.1 ho).1
      rcases (show j = 0 ∨ j = 1 ∨ j = 2 ∨ j = 3 ∨ j = 4 ∨ j = 5 ∨ j = 6 ∨ j = 7 ∨ j = 8 ∨ j = 9 ∨ j = 10 by omega) with rfl | rfl | rfl | rfl | rfl | rfl | rfl | rfl | rfl | rfl | rfl
      ·cases ho
       have z0 := hI.bks.cell 5 0 (g := w.heap.size) (v := .slice OA on oc) rfl rfl
       have z1 := hI.bks.cell 5 1 (g := w.heap.size) (v := .int .i64 q) rfl rfl
       have z2 := hI.bks.cell 5 2 (g := w.heap.size) (v := .int .i64 u) rfl rfl
       have z3 := hI.bks.cell 5 3 (g := w.heap.size) (v := .bool c) rfl rfl
       have z4 := hI.bks.cell 5 4 (g := w.heap.size) (v := .bool d) rfl rfl
       have z5 := hI.bks.cell 5 5 (g := w.heap.size) (v := .slice CA cn cc) rfl rfl
       rw [if_pos (show Region.wanted _ _ = true from rfl)]
       refine wp_val (v := .agg #[.slice OA on oc, .int .i64 q, .int .i64 u, .bool c, .bool d, .slice CA cn cc]) (w' := X) ?_ ⟨xA, xc, g1, g2, v7, rfl, hI, i85, j8⟩
       simp [execOp, go_sem, Act.eval, z0, z1, z2, z3, z4, z5]
      ·cases ho
       have z0 := hI.bks.cell 1 0 (g := gp) (v := .int .i64 p.kind) rfl rfl
       have z1 := hI.bks.cell 1 1 (g := gp) (v := .int .i64 p.num) rfl rfl
       have z2 := hI.bks.cell 1 2 (g := gp) (v := .string ⟨#[x]⟩) rfl rfl
       have z3 := hI.bks.cell 1 3 (g := gp) (v := .slice PA p.args.length pc) rfl rfl
       rw [if_pos (show Region.wanted _ _ = true from rfl)]
       refine wp_val (v := .agg #[.int .i64 p.kind, .int .i64 p.num, .string ⟨#[x]⟩, .slice PA p.args.length pc]) (w' := X) ?_ ⟨xA, xc, g1, g2, v7, rfl, hI, i85, j8⟩
       simp [execOp, go_sem, Act.eval, z0, z1, z2, z3]
      ·cases ho
       have z0 := hI.bks.cell 0 0 (g := e) (v := .int .i64 2) rfl rfl
       have z1 := hI.bks.cell 0 1 (g := e) (v := .int .i64 0) rfl rfl
       have z2 := hI.bks.cell 0 2 (g := e) (v := .string cs) rfl rfl
       have z3 := hI.bks.cell 0 3 (g := e) (v := .slice A7 0 c7) rfl rfl
       rw [if_pos (show Region.wanted _ _ = true from rfl)]
       refine wp_val (v := .agg #[.int .i64 2, .int .i64 0, .string cs, .slice A7 0 c7]) (w' := X) ?_ ⟨xA, xc, g1, g2, v7, rfl, hI, i85, j8⟩
       simp [execOp, go_sem, Act.eval, z0, z1, z2, z3]
      ·cases ho
       have s1 : S 1 = true := hp ⟨1, .data⟩ (by simp) rfl
       have s2 : S 2 = true := hp ⟨2, .data⟩ (by simp) rfl
       rw [if_pos (show Region.wanted _ _ = true from rfl)]
       have hal := (Below.refl X.heap.size X).alloc (Nat.le_refl _) (.cells #[.int .i64 p.kind, .int .i64 p.num, .string ⟨#[x]⟩, .slice PA p.args.length pc, .int .i64 2, .int .i64 0, .string cs, .slice A7 0 c7] 26)
       have e0 : rowsC [(p, PA, pc), (atomT cs, A7, c7)] = [.int .i64 p.kind, .int .i64 p.num, .string ⟨#[x]⟩, .slice PA p.args.length pc, .int .i64 2, .int .i64 0, .string cs, .slice A7 0 c7] := by
        show [_, _, Value.string p.name, _, _, _, _, _] = _
        rw [HXN.out]
        rfl
       have h' := hI.call hal
       have hrw := TmsK.rows (K := fun b => (b < w.heap.size ∨ w1.heap.size ≤ b) ∧ b < X.heap.size + 1) (w := X) (rs := [(p, PA, pc), (atomT cs, A7, c7)]) (e := 26) ⟨.inr hI.siz, by omega⟩ (by simp [maxLen]) (fun r hr => by
        rw [e0]
        simp only [List.mem_cons, List.mem_nil_iff, or_false] at hr
        rcases hr with rfl | rfl
        ·exact TmsK.keep ((HPA.out.keep hI.bel).keep (hal.mono hI.bel.size)) (fun _ _ => rfl) (fun b hb => ⟨.inl hb, by have := hI.bel.size; have := hb; omega⟩)
        ·exact TmsK.nil)
       refine wp_val (v := .slice (some ⟨X.heap.size, 0, none⟩) 2 2) (w' := X.alloc (.cells #[.int .i64 p.kind, .int .i64 p.num, .string ⟨#[x]⟩, .slice PA p.args.length pc, .int .i64 2, .int .i64 0, .string cs, .slice A7 0 c7] 26)) ?_ ⟨xA, xc, X.heap.size, g2, v7, rfl, ⟨h'.bel, h'.siz, h'.bks, fun _ _ => ?_, h'.str, h'.one⟩, i85, j8⟩
       ·simp [execOp, go_sem, Act.eval, s1, s2]
       ·rw [e0] at hrw
        exact hrw.keep (fun _ _ => rfl) (fun b hb => ⟨hb.1, by simpa using hb.2⟩)
      ·cases ho
       have s3 : S 3 = true := hp ⟨3, .data⟩ (by simp) rfl
       rw [if_pos (show Region.wanted _ _ = true from rfl)]
       refine wp_cal ?_ (HSTR.out X g1 (hI.row s3 hs)) (fun v w' hR => ?_)
       ·simp [execOp, go_sem, Act.eval, s3]
        try rfl
       ·obtain ⟨⟨A', c', rfl, hN⟩, hB'⟩ := hR
        have h' := hI.call hB'
        exact ⟨A', c', g1, g2, v7, rfl, ⟨h'.bel, h'.siz, h'.bks, fun _ h => (by cases h), fun _ _ => hN.keep (fun _ _ => rfl) (fun b hb => ⟨Nat.le_trans hI.siz hb.1, hb.2⟩), h'.one⟩, i85, j8⟩
      ·cases ho
       have s4 : S 4 = true := hp ⟨4, .data⟩ (by simp) rfl
       rw [if_pos (show Region.wanted _ _ = true from rfl)]
       have hal := (Below.refl X.heap.size X).alloc (Nat.le_refl _) (.cells #[.int .i64 xt.kind, .int .i64 xt.num, .string xt.name, .slice xA xt.args.length xc] 26)
       have h' := hI.call hal
       have hrw := TmsK.rows (K := fun b => w1.heap.size ≤ b ∧ b < X.heap.size + 1) (w := X) (rs := [(xt, xA, xc)]) (e := 26) ⟨hI.siz, by omega⟩ (by simp [maxLen]) (fun r hr => by
        rw [List.mem_singleton.1 hr]
        exact (hI.str s4 hs).keep (fun b hb => hal.block b hb.2) (fun b hb => ⟨hb.1, by have := hb.2; omega⟩))
       refine wp_val (v := .slice (some ⟨X.heap.size, 0, none⟩) 1 1) (w' := X.alloc (.cells #[.int .i64 xt.kind, .int .i64 xt.num, .string xt.name, .slice xA xt.args.length xc] 26)) ?_ ⟨xA, xc, g1, X.heap.size, v7, rfl, ⟨h'.bel, h'.siz, h'.bks, h'.row, fun _ h => (by cases h), fun _ => hrw.keep (fun _ _ => rfl) (fun b hb => ⟨hb.1, by simpa using hb.2⟩)⟩, fun _ => rfl, fun h => absurd (i85 h) (by rw [hs]; simp)⟩
       simp [execOp, go_sem, Act.eval, s4]
      ·cases ho
       rw [if_pos (show Region.wanted _ _ = true from rfl)]
       refine wp_val (v := .agg #[.int .i64 0, .int .i64 0, .string ⟨#[]⟩, .slice none 0 0]) (w' := X) ?_ ⟨xA, xc, g1, g2, v7, rfl, hI, i85, j8⟩
       simp [execOp, go_sem, Act.eval]
      ·cases ho
       have s0 : S 0 = true := hp ⟨0, .data⟩ (by simp) rfl
       rw [if_pos (show Region.wanted _ _ = true from rfl)]
       have hbk := hI.bks
       rw [if_neg (show ¬ S 7 = true by rw [hs]; simp)] at hbk
       have z0 := hbk.cell 3 0 (g := w.heap.size + 1 + 1) (v := .slice none 0 0) rfl rfl
       have f0 := hbk.fz 3 0 (g := w.heap.size + 1 + 1) rfl
       have z1 := hbk.cell 3 1 (g := w.heap.size + 1 + 1) (v := .int .i64 0) rfl rfl
       have f1 := hbk.fz 3 1 (g := w.heap.size + 1 + 1) rfl
       have z2 := hbk.cell 3 2 (g := w.heap.size + 1 + 1) (v := .int .i64 0) rfl rfl
       have f2 := hbk.fz 3 2 (g := w.heap.size + 1 + 1) rfl
       have z3 := hbk.cell 3 3 (g := w.heap.size + 1 + 1) (v := .bool false) rfl rfl
       have f3 := hbk.fz 3 3 (g := w.heap.size + 1 + 1) rfl
       have z4 := hbk.cell 3 4 (g := w.heap.size + 1 + 1) (v := .bool false) rfl rfl
       have f4 := hbk.fz 3 4 (g := w.heap.size + 1 + 1) rfl
       have z5 := hbk.cell 3 5 (g := w.heap.size + 1 + 1) (v := .slice none 0 0) rfl rfl
       have f5 := hbk.fz 3 5 (g := w.heap.size + 1 + 1) rfl
       refine wp_skp (w' := ((((((X.setCell ⟨w.heap.size + 1 + 1, 0, none⟩ (.slice OA on oc)).setCell ⟨w.heap.size + 1 + 1, 1, none⟩ (.int .i64 q)).setCell ⟨w.heap.size + 1 + 1, 2, none⟩ (.int .i64 u)).setCell ⟨w.heap.size + 1 + 1, 3, none⟩ (.bool c)).setCell ⟨w.heap.size + 1 + 1, 4, none⟩ (.bool d)).setCell ⟨w.heap.size + 1 + 1, 5, none⟩ (.slice CA cn cc))) ?_ ⟨xA, xc, g1, g2, v7, rfl, hI.put (w.heap.size + 1 + 1) (by omega) (by have := HLW.out; omega) (by simp) (fun b hb => by rw [heap_setCell_other _ _ _ _ hb, heap_setCell_other _ _ _ _ hb, heap_setCell_other _ _ _ _ hb, heap_setCell_other _ _ _ _ hb, heap_setCell_other _ _ _ _ hb, heap_setCell_other _ _ _ _ hb]) ((((((hI.bel.setCell (p := ⟨w.heap.size + 1 + 1, _, none⟩) (show w.heap.size ≤ w.heap.size + 1 + 1 by omega) _).setCell (p := ⟨w.heap.size + 1 + 1, _, none⟩) (show w.heap.size ≤ w.heap.size + 1 + 1 by omega) _).setCell (p := ⟨w.heap.size + 1 + 1, _, none⟩) (show w.heap.size ≤ w.heap.size + 1 + 1 by omega) _).setCell (p := ⟨w.heap.size + 1 + 1, _, none⟩) (show w.heap.size ≤ w.heap.size + 1 + 1 by omega) _).setCell (p := ⟨w.heap.size + 1 + 1, _, none⟩) (show w.heap.size ≤ w.heap.size + 1 + 1 by omega) _).setCell (p := ⟨w.heap.size + 1 + 1, _, none⟩) (show w.heap.size ≤ w.heap.size + 1 + 1 by omega) _) (by rw [if_pos (show updF S 7 7 = true from rfl)]; exact hbk.set6 3 rfl (.slice OA on oc) (.int .i64 q) (.int .i64 u) (.bool c) (.bool d) (.slice CA cn cc)), i85, j8⟩
       simp [execOp, go_sem, Act.eval, s0, z0, f0, z1, f1, z2, f2, z3, f3, z4, f4, z5, f5]
      ·cases ho
       have s5 : S 5 = true := hp ⟨5, .data⟩ (by simp) rfl
       rw [if_pos (show Region.wanted _ _ = true from rfl)]
       refine wp_val (v := .slice (some ⟨g2, 0, none⟩) 1 1) (w' := X) ?_ ⟨xA, xc, g1, g2, .slice (some ⟨g2, 0, none⟩) 1 1, rfl, hI, fun _ => s5, fun _ => rfl⟩
       simp [execOp, go_sem, Act.eval, s5]
      ·cases ho
       have s6 : S 6 = true := hp ⟨6, .data⟩ (by simp) rfl
       rw [if_pos (show Region.wanted _ _ = true from rfl)]
       have hbk := hI.bks
       have z0 := hbk.cell 2 0 (g := w.heap.size + 1 + 1 + 1) (v := .int .i64 0) rfl rfl
       have f0 := hbk.fz 2 0 (g := w.heap.size + 1 + 1 + 1) rfl
       have z1 := hbk.cell 2 1 (g := w.heap.size + 1 + 1 + 1) (v := .int .i64 0) rfl rfl
       have f1 := hbk.fz 2 1 (g := w.heap.size + 1 + 1 + 1) rfl
       have z2 := hbk.cell 2 2 (g := w.heap.size + 1 + 1 + 1) (v := .string ⟨#[]⟩) rfl rfl
       have f2 := hbk.fz 2 2 (g := w.heap.size + 1 + 1 + 1) rfl
       have z3 := hbk.cell 2 3 (g := w.heap.size + 1 + 1 + 1) (v := .slice none 0 0) rfl rfl
       have f3 := hbk.fz 2 3 (g := w.heap.size + 1 + 1 + 1) rfl
       refine wp_skp (w' := ((((X.setCell ⟨w.heap.size + 1 + 1 + 1, 0, none⟩ (.int .i64 0)).setCell ⟨w.heap.size + 1 + 1 + 1, 1, none⟩ (.int .i64 0)).setCell ⟨w.heap.size + 1 + 1 + 1, 2, none⟩ (.string ⟨#[]⟩)).setCell ⟨w.heap.size + 1 + 1 + 1, 3, none⟩ (.slice none 0 0))) ?_ ⟨xA, xc, g1, g2, v7, rfl, hI.put (w.heap.size + 1 + 1 + 1) (by omega) (by have := HLW.out; omega) (by simp) (fun b hb => by rw [heap_setCell_other _ _ _ _ hb, heap_setCell_other _ _ _ _ hb, heap_setCell_other _ _ _ _ hb, heap_setCell_other _ _ _ _ hb]) ((((hI.bel.setCell (p := ⟨w.heap.size + 1 + 1 + 1, _, none⟩) (show w.heap.size ≤ w.heap.size + 1 + 1 + 1 by omega) _).setCell (p := ⟨w.heap.size + 1 + 1 + 1, _, none⟩) (show w.heap.size ≤ w.heap.size + 1 + 1 + 1 by omega) _).setCell (p := ⟨w.heap.size + 1 + 1 + 1, _, none⟩) (show w.heap.size ≤ w.heap.size + 1 + 1 + 1 by omega) _).setCell (p := ⟨w.heap.size + 1 + 1 + 1, _, none⟩) (show w.heap.size ≤ w.heap.size + 1 + 1 + 1 by omega) _) (hbk.set4 2 rfl (.int .i64 0) (.int .i64 0) (.string ⟨#[]⟩) (.slice none 0 0)), i85, j8⟩
       simp [execOp, go_sem, Act.eval, s6, z0, f0, z1, f1, z2, f2, z3, f3]
      ·cases ho
       rw [if_pos (show Region.wanted _ _ = true from rfl)]
       refine wp_val (v := .int .i64 0) (w' := X) ?_ ⟨xA, xc, g1, g2, v7, rfl, hI, i85, j8⟩
       simp [execOp, go_sem, Act.eval]
     case finq =>
      rintro S a W3 hall ⟨xA, xc, g1, g2, v7, rfl, hI, -, j8⟩
      have s0 := hall 0 (show 0 < 11 by omega)
      have s1 := hall 1 (show 1 < 11 by omega)
      have s2 := hall 2 (show 2 < 11 by omega)
      have s3 := hall 3 (show 3 < 11 by omega)
      have s4 := hall 4 (show 4 < 11 by omega)
      have s5 := hall 5 (show 5 < 11 by omega)
      have s6 := hall 6 (show 6 < 11 by omega)
      have s7 := hall 7 (show 7 < 11 by omega)
      have s8 := hall 8 (show 8 < 11 by omega)
      have s9 := hall 9 (show 9 < 11 by omega)
      have s10 := hall 10 (show 10 < 11 by omega)
      have hv7 := j8 s8
      subst hv7
      have hbk := hI.bks
      rw [if_pos s7] at hbk
      have HBK3 : Hid (Bks W3 [(e, [.int .i64 2, .int .i64 0, .string cs, .slice A7 0 c7]), (gp, [.int .i64 p.kind, .int .i64 p.num, .string ⟨#[x]⟩, .slice PA p.args.length pc]), (w.heap.size + 1 + 1 + 1, [.int .i64 0, .int .i64 0, .string ⟨#[]⟩, .slice none 0 0]), (w.heap.size + 1 + 1, [.slice OA on oc, .int .i64 q, .int .i64 u, .bool c, .bool d, .slice CA cn cc]), (w.heap.size + 1, [.int .i64 gk, .int .i64 gn, .string gs, .slice (some ⟨b, off, none⟩) 2 ac]), (w.heap.size, [.slice OA on oc, .int .i64 q, .int .i64 u, .bool c, .bool d, .slice CA cn cc])]) := Lib.hid hbk
      have HON3 := Lib.hid ((hI.one s5).keep (K' := fun b => w.heap.size ≤ b ∧ b < W3.heap.size) (fun _ _ => rfl) (fun b hb => ⟨by have := HLW.out; have := hb.1; omega, hb.2⟩))
      have HBL3 := Lib.hid hI.bel
      refine hK10 _ _ ?_
      simp only [s0, s1, s2, s3, s4, s5, s6, s8, s10, if_true]
      clear hall hI j8 hbk hK10 s0 s1 s2 s3 s4 s5 s6 s7 s8 s9 s10 HBL2 HBZ2 HSTR HLW HGW HS12 HEL
      have HRI : Hid (RIs BB w W3 (rvS OA on oc q u c d CA cn cc (some ⟨g2, 0, none⟩) 1 1) R) := Lib.hid (by
       rw [HRR.out]
       exact ⟨rfl, HTAB.out.below HBL3.out, rfl, HC.out.below HBL3.out, rfl, HON3.out⟩)
      go_wp2_with fail
      have m2_0 := HBK3.out.cell 3 0 rfl rfl
      have m2_1 := HBK3.out.cell 3 1 rfl rfl
      have m2_2 := HBK3.out.cell 3 2 rfl rfl
      have m2_3 := HBK3.out.cell 3 3 rfl rfl
      have m2_4 := HBK3.out.cell 3 4 rfl rfl
      have m2_5 := HBK3.out.cell 3 5 rfl rfl
      have m3_0 := HBK3.out.cell 2 0 rfl rfl
      have m3_1 := HBK3.out.cell 2 1 rfl rfl
      have m3_2 := HBK3.out.cell 2 2 rfl rfl
      have m3_3 := HBK3.out.cell 2 3 rfl rfl
      exact bodyPost_ret (v := .tuple #[.agg #[.slice OA on oc, .int .i64 q, .int .i64 u, .bool c, .bool d, .slice CA cn cc], .slice (some ⟨g2, 0, none⟩) 1 1, .agg #[.int .i64 0, .int .i64 0, .string ⟨#[]⟩, .slice none 0 0], .int .i64 0]) (by simp [results, Tryz.results116, go_sem, m2_0, m2_1, m2_2, m2_3, m2_4, m2_5, m3_0, m3_1, m3_2, m3_3]) rfl ⟨rvS OA on oc q u c d CA cn cc (some ⟨g2, 0, none⟩) 1 1, rfl, HBL3.out, HRI.out⟩
end Go.Proofs.YtfkhcpeahdkafaaGreat
