/- Flags: what Call refuses. -/
import Derived.Test.YtfkhcpeahdkafaaGreatH23
import Derived.Test.YtfkhcpeahdkafaaGreatH32
namespace Hb
open Go Go.RowKit
def cbA (sv gv : Value) (g : Nat) (S : Nat → Bool) : Act := ⟨#[sv, gv, .pointer (some ⟨g, 0, none⟩), .pointer (some ⟨g + 1, 0, none⟩), .pointer (some ⟨g + 1 + 1, 0, none⟩), .slice none 0 0, .pointer (some ⟨g + 1 + 1 + 1, 0, none⟩), .int .i64 0, undef, undef, undef, if S 0 = true then sv else undef, if S 1 = true then .bool false else undef, if S 2 = true then .bool true else undef, if S 3 = true then .bool true else undef, undef, undef, undef, if S 7 = true then .bool true else undef, if S 8 = true then .bool true else undef, undef, undef, undef, undef, undef, if S 14 = true then .bool true else undef, undef, undef, undef, undef, undef, undef, undef, undef, undef, undef, undef, undef, undef, undef, undef, undef, undef, undef, undef, undef, undef, undef, undef, undef, undef, undef, undef, undef, undef, undef, undef, undef, undef, undef, undef, undef, undef, undef, undef, undef, undef, undef, undef, undef, undef, undef, undef, undef, undef, undef, undef], []⟩
def cbB (sv gv : Value) (g : Nat) (S : Nat → Bool) : Act := ⟨#[sv, gv, .pointer (some ⟨g, 0, none⟩), .pointer (some ⟨g + 1, 0, none⟩), .pointer (some ⟨g + 1 + 1, 0, none⟩), .slice none 0 0, .pointer (some ⟨g + 1 + 1 + 1, 0, none⟩), .int .i64 0, undef, undef, undef, if S 0 = true then sv else undef, if S 1 = true then .bool true else undef, if S 2 = true then .bool false else undef, if S 3 = true then .bool false else undef, if S 4 = true then gv else undef, if S 5 = true then .bool false else undef, if S 6 = true then .bool true else undef, if S 7 = true then .bool true else undef, if S 8 = true then .bool true else undef, undef, undef, undef, undef, undef, if S 14 = true then .bool true else undef, undef, undef, undef, undef, undef, undef, undef, undef, undef, undef, undef, undef, undef, undef, undef, undef, undef, undef, undef, undef, undef, undef, undef, undef, undef, undef, undef, undef, undef, undef, undef, undef, undef, undef, undef, undef, undef, undef, undef, undef, undef, undef, undef, undef, undef, undef, undef, undef, undef, undef, undef], []⟩
def cbC (sv gv cv : Value) (g : Nat) (S : Nat → Bool) : Act := ⟨#[sv, gv, .pointer (some ⟨g, 0, none⟩), .pointer (some ⟨g + 1, 0, none⟩), .pointer (some ⟨g + 1 + 1, 0, none⟩), .slice none 0 0, .pointer (some ⟨g + 1 + 1 + 1, 0, none⟩), .int .i64 0, undef, undef, undef, if S 0 = true then sv else undef, if S 1 = true then .bool true else undef, if S 2 = true then .bool false else undef, if S 3 = true then .bool false else undef, if S 4 = true then gv else undef, if S 5 = true then .bool true else undef, if S 6 = true then .bool false else undef, if S 7 = true then .bool false else undef, if S 8 = true then .bool false else undef, if S 9 = true then gv else undef, if S 10 = true then gv else undef, if S 11 = true then cv else undef, if S 12 = true then .bool false else undef, if S 13 = true then .bool true else undef, if S 14 = true then .bool true else undef, undef, undef, undef, undef, undef, undef, undef, undef, undef, undef, undef, undef, undef, undef, undef, undef, undef, undef, undef, undef, undef, undef, undef, undef, undef, undef, undef, undef, undef, undef, undef, undef, undef, undef, undef, undef, undef, undef, undef, undef, undef, undef, undef, undef, undef, undef, undef, undef, undef, undef, undef], []⟩
def rvN (n : Int) : Value := .tuple #[.agg #[.slice none 0 0, .int .i64 0, .int .i64 0, .bool false, .bool false, .slice none 0 0], .slice none 0 0, .agg #[.int .i64 0, .int .i64 0, .string ⟨#[]⟩, .slice none 0 0], .int .i64 n]
end Hb
namespace Go.Proofs.YtfkhcpeahdkafaaGreat
open Go.RowKit Hb Go.Shelf
set_option maxRecDepth 100000
set_option maxHeartbeats 3200000 in
theorem f_call_a (OA : Option Addr) (on oc : Nat) (q u : Int) (c d : Bool) (CA : Option Addr) (cn cc : Nat) (gk gn : Int) (gs : ByteArray) (AA : Option Addr) (na ac : Nat) (gl : List Tm) (l : List OpR) (cl : List (Int × Int)) (w : World)
  (hTab : Tab w OA on oc l) (hcl : cn = cl.length) (hcn : cn ≤ maxLen) (hcp : Pairs w CA cl) (_hna : na = gl.length) (_hA : TmsAt w.heap.size w AA gl) (hvs : (opsValid l && (flOk ⟨q, u, c, d⟩ && pvalid cl)) = false) : Calls Tryz.prog 30 #[.agg #[.slice OA on oc, .int .i64 q, .int .i64 u, .bool c, .bool d, .slice CA cn cc], .agg #[.int .i64 gk, .int .i64 gn, .string gs, .slice AA na ac]] w fun e w' => e = .returned (rvN 1) ∧ Below w.heap.size w w' := by
 have HVS : Hid (∀ X, Below w.heap.size w X → Calls Tryz.prog 23 #[.agg #[.slice OA on oc, .int .i64 q, .int .i64 u, .bool c, .bool d, .slice CA cn cc]] X fun e w' => ∃ v, e = .returned v ∧ (v = .bool false ∧ Below X.heap.size X w')) := Lib.hid fun X hX => (f_validSyntaxL OA on oc q u c d CA cn cc l cl X (hTab.below hX) hcl hcn (hcp.below hX)).mono fun e w' h => ⟨_, h.1, by rw [hvs], h.2⟩
 have HBL0 : Hid (Below w.heap.size w (((((w.alloc (.cells #[.slice OA on oc, .int .i64 q, .int .i64 u, .bool c, .bool d, .slice CA cn cc] 43)).alloc (.cells #[.int .i64 gk, .int .i64 gn, .string gs, .slice AA na ac] 26)).alloc (.cells #[.slice none 0 0, .int .i64 0, .int .i64 0, .bool false, .bool false, .slice none 0 0] 43)).alloc (.cells #[.int .i64 0, .int .i64 0, .string ⟨#[]⟩, .slice none 0 0] 26)))) := Lib.hid (((((Below.refl _ w).alloc (Nat.le_refl _) _).alloc (by simp) _).alloc (by simp; omega) _).alloc (by simp; omega) _)
 have HBK0 : Hid (Bks (((((w.alloc (.cells #[.slice OA on oc, .int .i64 q, .int .i64 u, .bool c, .bool d, .slice CA cn cc] 43)).alloc (.cells #[.int .i64 gk, .int .i64 gn, .string gs, .slice AA na ac] 26)).alloc (.cells #[.slice none 0 0, .int .i64 0, .int .i64 0, .bool false, .bool false, .slice none 0 0] 43)).alloc (.cells #[.int .i64 0, .int .i64 0, .string ⟨#[]⟩, .slice none 0 0] 26))) [(w.heap.size + 1 + 1 + 1, [.int .i64 0, .int .i64 0, .string ⟨#[]⟩, .slice none 0 0]), (w.heap.size + 1 + 1, [.slice none 0 0, .int .i64 0, .int .i64 0, .bool false, .bool false, .slice none 0 0]), (w.heap.size + 1, [.int .i64 gk, .int .i64 gn, .string gs, .slice AA na ac]), (w.heap.size, [.slice OA on oc, .int .i64 q, .int .i64 u, .bool c, .bool d, .slice CA cn cc])]) := Lib.hid (((((Bks.nil w).new [.slice OA on oc, .int .i64 q, .int .i64 u, .bool c, .bool d, .slice CA cn cc] 43 rfl).new [.int .i64 gk, .int .i64 gn, .string gs, .slice AA na ac] 26 (by simp)).new [.slice none 0 0, .int .i64 0, .int .i64 0, .bool false, .bool false, .slice none 0 0] 43 (by simp)).new [.int .i64 0, .int .i64 0, .string ⟨#[]⟩, .slice none 0 0] 26 (by simp))
 clear hTab hcl hcn hcp _hA hvs _hna
 go_enter Tryz.func30, Tryz.ntmps30
 go_wp2_with fail
 obtain ⟨W0, HW0⟩ : ∃ W0, Hid (W0 = ((((w.alloc (.cells #[.slice OA on oc, .int .i64 q, .int .i64 u, .bool c, .bool d, .slice CA cn cc] 43)).alloc (.cells #[.int .i64 gk, .int .i64 gn, .string gs, .slice AA na ac] 26)).alloc (.cells #[.slice none 0 0, .int .i64 0, .int .i64 0, .bool false, .bool false, .slice none 0 0] 43)).alloc (.cells #[.int .i64 0, .int .i64 0, .string ⟨#[]⟩, .slice none 0 0] 26))) := ⟨_, Lib.hid rfl⟩
 rw [← HW0.out] at HBL0 HBK0 ⊢
 clear HW0
 rename_i K0 hK0
 have as_0 := HBK0.out.cell 3 0 rfl rfl
 have as_1 := HBK0.out.cell 3 1 rfl rfl
 have as_2 := HBK0.out.cell 3 2 rfl rfl
 have as_3 := HBK0.out.cell 3 3 rfl rfl
 have as_4 := HBK0.out.cell 3 4 rfl rfl
 have as_5 := HBK0.out.cell 3 5 rfl rfl
 have ag_0 := HBK0.out.cell 2 0 rfl rfl
 have ag_1 := HBK0.out.cell 2 1 rfl rfl
 have ag_2 := HBK0.out.cell 2 2 rfl rfl
 have ag_3 := HBK0.out.cell 2 3 rfl rfl
 have ls : w.heap.size < W0.heap.size := HBK0.out.lt 3 rfl
 have lg : w.heap.size + 1 < W0.heap.size := HBK0.out.lt 2 rfl
 refine wp_region_any (by kernel_rfl) ?_
 refine wpAny_inv (fun S a X => a = (cbA (.agg #[.slice OA on oc, .int .i64 q, .int .i64 u, .bool c, .bool d, .slice CA cn cc]) (.agg #[.int .i64 gk, .int .i64 gn, .string gs, .slice AA na ac]) w.heap.size S) ∧ Below W0.heap.size W0 X) (by kernel_rfl) ?step ?fin 15 (fun _ => false) _ _ (by decide) ⟨rfl, (Below.refl _ W0).drew⟩
 case step =>
  rintro S j o a X ho hs hp ⟨rfl, hB⟩
  have hlt : j < 15 := (Array.getElem?_eq_some_iff.1 ho).1
  rcases (show j = 0 ∨ j = 1 ∨ j = 2 ∨ j = 3 ∨ j = 4 ∨ j = 5 ∨ j = 6 ∨ j = 7 ∨ j = 8 ∨ j = 9 ∨ j = 10 ∨ j = 11 ∨ j = 12 ∨ j = 13 ∨ j = 14 by omega) with rfl | rfl | rfl | rfl | rfl | rfl | rfl | rfl | rfl | rfl | rfl | rfl | rfl | rfl | rfl
  ·cases ho
   have xs0 : X.cell? ⟨w.heap.size, 0, none⟩ = some (.slice OA on oc) := (hB.cell (p := ⟨_, 0, none⟩) ls).trans as_0
   have xs1 : X.cell? ⟨w.heap.size, 1, none⟩ = some (.int .i64 q) := (hB.cell (p := ⟨_, 1, none⟩) ls).trans as_1
   have xs2 : X.cell? ⟨w.heap.size, 2, none⟩ = some (.int .i64 u) := (hB.cell (p := ⟨_, 2, none⟩) ls).trans as_2
   have xs3 : X.cell? ⟨w.heap.size, 3, none⟩ = some (.bool c) := (hB.cell (p := ⟨_, 3, none⟩) ls).trans as_3
   have xs4 : X.cell? ⟨w.heap.size, 4, none⟩ = some (.bool d) := (hB.cell (p := ⟨_, 4, none⟩) ls).trans as_4
   have xs5 : X.cell? ⟨w.heap.size, 5, none⟩ = some (.slice CA cn cc) := (hB.cell (p := ⟨_, 5, none⟩) ls).trans as_5
   rw [if_pos (show Region.wanted _ _ = true from rfl)]
   refine wp_val (v := .agg #[.slice OA on oc, .int .i64 q, .int .i64 u, .bool c, .bool d, .slice CA cn cc]) (w' := X) ?_ ⟨rfl, hB⟩
   simp [execOp, go_sem, Act.eval, cbA, xs0, xs1, xs2, xs3, xs4, xs5]
  ·cases ho
   have s0 : S 0 = true := hp ⟨0, .data⟩ (by simp) rfl
   rw [if_pos (show Region.wanted _ _ = true from rfl)]
   refine wp_cal ?_ (HVS.out X (HBL0.out.trans (hB.mono HBL0.out.size))) (fun v w' hR => ?_)
   ·simp [execOp, go_sem, Act.eval, cbA, s0]
    try rfl
   ·obtain ⟨rfl, hB'⟩ := hR
    exact ⟨rfl, hB.trans (hB'.mono hB.size)⟩
  ·cases ho
   have s1 : S 1 = true := hp ⟨1, .data⟩ (by simp) rfl
   rw [if_pos (show Region.wanted _ _ = true from rfl)]
   refine wp_val (v := .bool true) (w' := X) ?_ ⟨rfl, hB⟩
   simp [execOp, go_sem, Act.eval, cbA, s1]
  ·cases ho
   have s2 : S 2 = true := hp ⟨2, .data⟩ (by simp) rfl
   rw [if_pos (show Region.wanted _ _ = true from rfl)]
   refine wp_val (v := .bool true) (w' := X) ?_ ⟨rfl, hB⟩
   simp [execOp, go_sem, Act.eval, cbA, s2]
  ·cases ho
   have s3 : S 3 = true := hp ⟨3, .guard⟩ (by simp) rfl
   rw [if_neg (show ¬ Region.wanted _ (yielded _ _) = true by simp [Region.wanted, yielded, cbA, s3])]
   exact ⟨rfl, hB⟩
  ·cases ho
   have s3 : S 3 = true := hp ⟨3, .guard⟩ (by simp) rfl
   rw [if_neg (show ¬ Region.wanted _ (yielded _ _) = true by simp [Region.wanted, yielded, cbA, s3])]
   exact ⟨rfl, hB⟩
  ·cases ho
   have s3 : S 3 = true := hp ⟨3, .guard⟩ (by simp) rfl
   rw [if_neg (show ¬ Region.wanted _ (yielded _ _) = true by simp [Region.wanted, yielded, cbA, s3])]
   exact ⟨rfl, hB⟩
  ·cases ho
   have s3 : S 3 = true := hp ⟨3, .data⟩ (by simp) rfl
   rw [if_pos (show Region.wanted _ _ = true from rfl)]
   refine wp_val (v := .bool true) (w' := X) ?_ ⟨rfl, hB⟩
   simp [execOp, go_sem, Act.eval, cbA, s3]
  ·cases ho
   have s7 : S 7 = true := hp ⟨7, .data⟩ (by simp) rfl
   rw [if_pos (show Region.wanted _ _ = true from rfl)]
   refine wp_val (v := .bool true) (w' := X) ?_ ⟨rfl, hB⟩
   simp [execOp, go_sem, Act.eval, cbA, s7]
  ·cases ho
   have s8 : S 8 = true := hp ⟨8, .guard⟩ (by simp) rfl
   rw [if_neg (show ¬ Region.wanted _ (yielded _ _) = true by simp [Region.wanted, yielded, cbA, s8])]
   exact ⟨rfl, hB⟩
  ·cases ho
   have s8 : S 8 = true := hp ⟨8, .guard⟩ (by simp) rfl
   rw [if_neg (show ¬ Region.wanted _ (yielded _ _) = true by simp [Region.wanted, yielded, cbA, s8])]
   exact ⟨rfl, hB⟩
  ·cases ho
   have s8 : S 8 = true := hp ⟨8, .guard⟩ (by simp) rfl
   rw [if_neg (show ¬ Region.wanted _ (yielded _ _) = true by simp [Region.wanted, yielded, cbA, s8])]
   exact ⟨rfl, hB⟩
  ·cases ho
   have s8 : S 8 = true := hp ⟨8, .guard⟩ (by simp) rfl
   rw [if_neg (show ¬ Region.wanted _ (yielded _ _) = true by simp [Region.wanted, yielded, cbA, s8])]
   exact ⟨rfl, hB⟩
  ·cases ho
   have s8 : S 8 = true := hp ⟨8, .guard⟩ (by simp) rfl
   rw [if_neg (show ¬ Region.wanted _ (yielded _ _) = true by simp [Region.wanted, yielded, cbA, s8])]
   exact ⟨rfl, hB⟩
  ·cases ho
   have s8 : S 8 = true := hp ⟨8, .data⟩ (by simp) rfl
   rw [if_pos (show Region.wanted _ _ = true from rfl)]
   refine wp_val (v := .bool true) (w' := X) ?_ ⟨rfl, hB⟩
   simp [execOp, go_sem, Act.eval, cbA, s8]
 case fin =>
  rintro S a W1 hall ⟨rfl, hB⟩
  have s0 := hall 0 (show 0 < 15 by omega)
  have s1 := hall 1 (show 1 < 15 by omega)
  have s2 := hall 2 (show 2 < 15 by omega)
  have s3 := hall 3 (show 3 < 15 by omega)
  have s4 := hall 4 (show 4 < 15 by omega)
  have s5 := hall 5 (show 5 < 15 by omega)
  have s6 := hall 6 (show 6 < 15 by omega)
  have s7 := hall 7 (show 7 < 15 by omega)
  have s8 := hall 8 (show 8 < 15 by omega)
  have s9 := hall 9 (show 9 < 15 by omega)
  have s10 := hall 10 (show 10 < 15 by omega)
  have s11 := hall 11 (show 11 < 15 by omega)
  have s12 := hall 12 (show 12 < 15 by omega)
  have s13 := hall 13 (show 13 < 15 by omega)
  have s14 := hall 14 (show 14 < 15 by omega)
  have HBL1 := Lib.hid (HBL0.out.trans (hB.mono HBL0.out.size))
  have HBK1 := Lib.hid (HBK0.out.keep fun x hx => hB.block x.1 (HBK0.out.bk x hx).lt)
  refine hK0 _ _ ?_
  simp only [cbA, s0, s1, s2, s3, s7, s8, s14, if_true]
  clear hall hB HBL0 HBK0 hK0 HVS ls lg s0 s1 s2 s3 s4 s5 s6 s7 s8 s9 s10 s11 s12 s13 s14 as_0 as_1 as_2 as_3 as_4 as_5 ag_0 ag_1 ag_2 ag_3
  have hk1 : Bks _ [(w.heap.size + 1 + 1 + 1, [.int .i64 0, .int .i64 0, .string ⟨#[]⟩, .slice none 0 0]), (w.heap.size + 1 + 1, [.slice none 0 0, .int .i64 0, .int .i64 0, .bool false, .bool false, .slice none 0 0]), (w.heap.size + 1, [.int .i64 gk, .int .i64 gn, .string gs, .slice AA na ac]), (w.heap.size, [.slice OA on oc, .int .i64 q, .int .i64 u, .bool c, .bool d, .slice CA cn cc])] := HBK1.out.set6 1 rfl (.slice none 0 0) (.int .i64 0) (.int .i64 0) (.bool false) (.bool false) (.slice none 0 0)
  have hk2 : Bks _ [(w.heap.size + 1 + 1 + 1, [.int .i64 0, .int .i64 0, .string ⟨#[]⟩, .slice none 0 0]), (w.heap.size + 1 + 1, [.slice none 0 0, .int .i64 0, .int .i64 0, .bool false, .bool false, .slice none 0 0]), (w.heap.size + 1, [.int .i64 gk, .int .i64 gn, .string gs, .slice AA na ac]), (w.heap.size, [.slice OA on oc, .int .i64 q, .int .i64 u, .bool c, .bool d, .slice CA cn cc])] := hk1.set4 0 rfl (.int .i64 0) (.int .i64 0) (.string ⟨#[]⟩) (.slice none 0 0)
  have hbl : Below w.heap.size w (((((((((((W1.setCell ⟨w.heap.size + 1 + 1, 0, none⟩ (.slice none 0 0)).setCell ⟨w.heap.size + 1 + 1, 1, none⟩ (.int .i64 0)).setCell ⟨w.heap.size + 1 + 1, 2, none⟩ (.int .i64 0)).setCell ⟨w.heap.size + 1 + 1, 3, none⟩ (.bool false)).setCell ⟨w.heap.size + 1 + 1, 4, none⟩ (.bool false)).setCell ⟨w.heap.size + 1 + 1, 5, none⟩ (.slice none 0 0)).setCell ⟨w.heap.size + 1 + 1 + 1, 0, none⟩ (.int .i64 0)).setCell ⟨w.heap.size + 1 + 1 + 1, 1, none⟩ (.int .i64 0)).setCell ⟨w.heap.size + 1 + 1 + 1, 2, none⟩ (.string ⟨#[]⟩)).setCell ⟨w.heap.size + 1 + 1 + 1, 3, none⟩ (.slice none 0 0))) := ((((((((((HBL1.out.setCell (p := ⟨w.heap.size + 1 + 1, _, none⟩) (show w.heap.size ≤ w.heap.size + 1 + 1 by omega) _).setCell (p := ⟨w.heap.size + 1 + 1, _, none⟩) (show w.heap.size ≤ w.heap.size + 1 + 1 by omega) _).setCell (p := ⟨w.heap.size + 1 + 1, _, none⟩) (show w.heap.size ≤ w.heap.size + 1 + 1 by omega) _).setCell (p := ⟨w.heap.size + 1 + 1, _, none⟩) (show w.heap.size ≤ w.heap.size + 1 + 1 by omega) _).setCell (p := ⟨w.heap.size + 1 + 1, _, none⟩) (show w.heap.size ≤ w.heap.size + 1 + 1 by omega) _).setCell (p := ⟨w.heap.size + 1 + 1, _, none⟩) (show w.heap.size ≤ w.heap.size + 1 + 1 by omega) _).setCell (p := ⟨w.heap.size + 1 + 1 + 1, _, none⟩) (show w.heap.size ≤ w.heap.size + 1 + 1 + 1 by omega) _).setCell (p := ⟨w.heap.size + 1 + 1 + 1, _, none⟩) (show w.heap.size ≤ w.heap.size + 1 + 1 + 1 by omega) _).setCell (p := ⟨w.heap.size + 1 + 1 + 1, _, none⟩) (show w.heap.size ≤ w.heap.size + 1 + 1 + 1 by omega) _).setCell (p := ⟨w.heap.size + 1 + 1 + 1, _, none⟩) (show w.heap.size ≤ w.heap.size + 1 + 1 + 1 by omega) _)
  obtain ⟨wz, HWZ⟩ : ∃ wz, Hid (wz = ((((((((((W1.setCell ⟨w.heap.size + 1 + 1, 0, none⟩ (.slice none 0 0)).setCell ⟨w.heap.size + 1 + 1, 1, none⟩ (.int .i64 0)).setCell ⟨w.heap.size + 1 + 1, 2, none⟩ (.int .i64 0)).setCell ⟨w.heap.size + 1 + 1, 3, none⟩ (.bool false)).setCell ⟨w.heap.size + 1 + 1, 4, none⟩ (.bool false)).setCell ⟨w.heap.size + 1 + 1, 5, none⟩ (.slice none 0 0)).setCell ⟨w.heap.size + 1 + 1 + 1, 0, none⟩ (.int .i64 0)).setCell ⟨w.heap.size + 1 + 1 + 1, 1, none⟩ (.int .i64 0)).setCell ⟨w.heap.size + 1 + 1 + 1, 2, none⟩ (.string ⟨#[]⟩)).setCell ⟨w.heap.size + 1 + 1 + 1, 3, none⟩ (.slice none 0 0))) := ⟨_, Lib.hid rfl⟩
  rw [← HWZ.out] at hk2 hbl
  have HKZ := Lib.hid hk2
  have HBZ := Lib.hid hbl
  clear hk1 hk2 hbl
  have ja_0 := HBK1.out.cell 1 0 rfl rfl
  have ja_1 := HBK1.out.cell 1 1 rfl rfl
  have ja_2 := HBK1.out.cell 1 2 rfl rfl
  have ja_3 := HBK1.out.cell 1 3 rfl rfl
  have ja_4 := HBK1.out.cell 1 4 rfl rfl
  have ja_5 := HBK1.out.cell 1 5 rfl rfl
  have jc_0 := HBK1.out.cell 0 0 rfl rfl
  have jc_1 := HBK1.out.cell 0 1 rfl rfl
  have jc_2 := HBK1.out.cell 0 2 rfl rfl
  have jc_3 := HBK1.out.cell 0 3 rfl rfl
  have jaf0 := HBK1.out.fz 1 0 rfl
  have jaf1 := HBK1.out.fz 1 1 rfl
  have jaf2 := HBK1.out.fz 1 2 rfl
  have jaf3 := HBK1.out.fz 1 3 rfl
  have jaf4 := HBK1.out.fz 1 4 rfl
  have jaf5 := HBK1.out.fz 1 5 rfl
  have jcf0 := HBK1.out.fz 0 0 rfl
  have jcf1 := HBK1.out.fz 0 1 rfl
  have jcf2 := HBK1.out.fz 0 2 rfl
  have jcf3 := HBK1.out.fz 0 3 rfl
  have la := HBK1.out.lt 1 rfl
  have lc := HBK1.out.lt 0 rfl
  go_wp2_with fail
  rw [← HWZ.out]
  have ma_0 := HKZ.out.cell 1 0 rfl rfl
  have ma_1 := HKZ.out.cell 1 1 rfl rfl
  have ma_2 := HKZ.out.cell 1 2 rfl rfl
  have ma_3 := HKZ.out.cell 1 3 rfl rfl
  have ma_4 := HKZ.out.cell 1 4 rfl rfl
  have ma_5 := HKZ.out.cell 1 5 rfl rfl
  have mc_0 := HKZ.out.cell 0 0 rfl rfl
  have mc_1 := HKZ.out.cell 0 1 rfl rfl
  have mc_2 := HKZ.out.cell 0 2 rfl rfl
  have mc_3 := HKZ.out.cell 0 3 rfl rfl
  exact bodyPost_ret (v := rvN 1) (by simp [rvN, results, Tryz.results30, go_sem, ma_0, ma_1, ma_2, ma_3, ma_4, ma_5, mc_0, mc_1, mc_2, mc_3]) rfl ⟨rfl, HBZ.out⟩
set_option maxHeartbeats 3200000 in
theorem f_call_b (OA : Option Addr) (on oc : Nat) (q u : Int) (c d : Bool) (CA : Option Addr) (cn cc : Nat) (gk gn : Int) (gs : ByteArray) (AA : Option Addr) (na ac : Nat) (gl : List Tm) (l : List OpR) (cl : List (Int × Int)) (w : World)
  (hTab : Tab w OA on oc l) (hcl : cn = cl.length) (hcn : cn ≤ maxLen) (hcp : Pairs w CA cl) (hna : na = gl.length) (hA : TmsAt w.heap.size w AA gl) (hvs : (opsValid l && (flOk ⟨q, u, c, d⟩ && pvalid cl)) = true) (hvt : validT (.mk gk gn gs gl) = false) : Calls Tryz.prog 30 #[.agg #[.slice OA on oc, .int .i64 q, .int .i64 u, .bool c, .bool d, .slice CA cn cc], .agg #[.int .i64 gk, .int .i64 gn, .string gs, .slice AA na ac]] w fun e w' => e = .returned (rvN 1) ∧ Below w.heap.size w w' := by
 have HVS : Hid (∀ X, Below w.heap.size w X → Calls Tryz.prog 23 #[.agg #[.slice OA on oc, .int .i64 q, .int .i64 u, .bool c, .bool d, .slice CA cn cc]] X fun e w' => ∃ v, e = .returned v ∧ (v = .bool true ∧ Below X.heap.size X w')) := Lib.hid fun X hX => (f_validSyntaxL OA on oc q u c d CA cn cc l cl X (hTab.below hX) hcl hcn (hcp.below hX)).mono fun e w' h => ⟨_, h.1, by rw [hvs], h.2⟩
 have HVT : Hid (∀ X, Below w.heap.size w X → Calls Tryz.prog 53 #[tmV (.mk gk gn gs gl) AA ac] X fun e w' => ∃ v, e = .returned v ∧ (v = .bool false ∧ Below X.heap.size X w')) := Lib.hid fun X hX => (t_valid (.mk gk gn gs gl) AA ac X ((hA.keep hX).mono hX.size)).mono fun e w' h => ⟨_, h.1, by rw [hvt], h.2⟩
 have HBL0 : Hid (Below w.heap.size w (((((w.alloc (.cells #[.slice OA on oc, .int .i64 q, .int .i64 u, .bool c, .bool d, .slice CA cn cc] 43)).alloc (.cells #[.int .i64 gk, .int .i64 gn, .string gs, .slice AA na ac] 26)).alloc (.cells #[.slice none 0 0, .int .i64 0, .int .i64 0, .bool false, .bool false, .slice none 0 0] 43)).alloc (.cells #[.int .i64 0, .int .i64 0, .string ⟨#[]⟩, .slice none 0 0] 26)))) := Lib.hid (((((Below.refl _ w).alloc (Nat.le_refl _) _).alloc (by simp) _).alloc (by simp; omega) _).alloc (by simp; omega) _)
 have HBK0 : Hid (Bks (((((w.alloc (.cells #[.slice OA on oc, .int .i64 q, .int .i64 u, .bool c, .bool d, .slice CA cn cc] 43)).alloc (.cells #[.int .i64 gk, .int .i64 gn, .string gs, .slice AA na ac] 26)).alloc (.cells #[.slice none 0 0, .int .i64 0, .int .i64 0, .bool false, .bool false, .slice none 0 0] 43)).alloc (.cells #[.int .i64 0, .int .i64 0, .string ⟨#[]⟩, .slice none 0 0] 26))) [(w.heap.size + 1 + 1 + 1, [.int .i64 0, .int .i64 0, .string ⟨#[]⟩, .slice none 0 0]), (w.heap.size + 1 + 1, [.slice none 0 0, .int .i64 0, .int .i64 0, .bool false, .bool false, .slice none 0 0]), (w.heap.size + 1, [.int .i64 gk, .int .i64 gn, .string gs, .slice AA na ac]), (w.heap.size, [.slice OA on oc, .int .i64 q, .int .i64 u, .bool c, .bool d, .slice CA cn cc])]) := Lib.hid (((((Bks.nil w).new [.slice OA on oc, .int .i64 q, .int .i64 u, .bool c, .bool d, .slice CA cn cc] 43 rfl).new [.int .i64 gk, .int .i64 gn, .string gs, .slice AA na ac] 26 (by simp)).new [.slice none 0 0, .int .i64 0, .int .i64 0, .bool false, .bool false, .slice none 0 0] 43 (by simp)).new [.int .i64 0, .int .i64 0, .string ⟨#[]⟩, .slice none 0 0] 26 (by simp))
 have HTV : Hid (∀ A c, tmV (.mk gk gn gs gl) A c = .agg #[.int .i64 gk, .int .i64 gn, .string gs, .slice A na c]) := Lib.hid fun A c => by rw [hna]; rfl
 rw [HTV.out] at HVT
 clear hTab hcl hcn hcp hA hvs hvt hna HTV
 go_enter Tryz.func30, Tryz.ntmps30
 go_wp2_with fail
 obtain ⟨W0, HW0⟩ : ∃ W0, Hid (W0 = ((((w.alloc (.cells #[.slice OA on oc, .int .i64 q, .int .i64 u, .bool c, .bool d, .slice CA cn cc] 43)).alloc (.cells #[.int .i64 gk, .int .i64 gn, .string gs, .slice AA na ac] 26)).alloc (.cells #[.slice none 0 0, .int .i64 0, .int .i64 0, .bool false, .bool false, .slice none 0 0] 43)).alloc (.cells #[.int .i64 0, .int .i64 0, .string ⟨#[]⟩, .slice none 0 0] 26))) := ⟨_, Lib.hid rfl⟩
 rw [← HW0.out] at HBL0 HBK0 ⊢
 clear HW0
 rename_i K0 hK0
 have as_0 := HBK0.out.cell 3 0 rfl rfl
 have as_1 := HBK0.out.cell 3 1 rfl rfl
 have as_2 := HBK0.out.cell 3 2 rfl rfl
 have as_3 := HBK0.out.cell 3 3 rfl rfl
 have as_4 := HBK0.out.cell 3 4 rfl rfl
 have as_5 := HBK0.out.cell 3 5 rfl rfl
 have ag_0 := HBK0.out.cell 2 0 rfl rfl
 have ag_1 := HBK0.out.cell 2 1 rfl rfl
 have ag_2 := HBK0.out.cell 2 2 rfl rfl
 have ag_3 := HBK0.out.cell 2 3 rfl rfl
 have ls : w.heap.size < W0.heap.size := HBK0.out.lt 3 rfl
 have lg : w.heap.size + 1 < W0.heap.size := HBK0.out.lt 2 rfl
 refine wp_region_any (by kernel_rfl) ?_
 refine wpAny_inv (fun S a X => a = (cbB (.agg #[.slice OA on oc, .int .i64 q, .int .i64 u, .bool c, .bool d, .slice CA cn cc]) (.agg #[.int .i64 gk, .int .i64 gn, .string gs, .slice AA na ac]) w.heap.size S) ∧ Below W0.heap.size W0 X) (by kernel_rfl) ?step ?fin 15 (fun _ => false) _ _ (by decide) ⟨rfl, (Below.refl _ W0).drew⟩
 case step =>
  rintro S j o a X ho hs hp ⟨rfl, hB⟩
  have hlt : j < 15 := (Array.getElem?_eq_some_iff.1 ho).1
  rcases (show j = 0 ∨ j = 1 ∨ j = 2 ∨ j = 3 ∨ j = 4 ∨ j = 5 ∨ j = 6 ∨ j = 7 ∨ j = 8 ∨ j = 9 ∨ j = 10 ∨ j = 11 ∨ j = 12 ∨ j = 13 ∨ j = 14 by omega) with rfl | rfl | rfl | rfl | rfl | rfl | rfl | rfl | rfl | rfl | rfl | rfl | rfl | rfl | rfl
  ·cases ho
   have xs0 : X.cell? ⟨w.heap.size, 0, none⟩ = some (.slice OA on oc) := (hB.cell (p := ⟨_, 0, none⟩) ls).trans as_0
   have xs1 : X.cell? ⟨w.heap.size, 1, none⟩ = some (.int .i64 q) := (hB.cell (p := ⟨_, 1, none⟩) ls).trans as_1
   have xs2 : X.cell? ⟨w.heap.size, 2, none⟩ = some (.int .i64 u) := (hB.cell (p := ⟨_, 2, none⟩) ls).trans as_2
   have xs3 : X.cell? ⟨w.heap.size, 3, none⟩ = some (.bool c) := (hB.cell (p := ⟨_, 3, none⟩) ls).trans as_3
   have xs4 : X.cell? ⟨w.heap.size, 4, none⟩ = some (.bool d) := (hB.cell (p := ⟨_, 4, none⟩) ls).trans as_4
   have xs5 : X.cell? ⟨w.heap.size, 5, none⟩ = some (.slice CA cn cc) := (hB.cell (p := ⟨_, 5, none⟩) ls).trans as_5
   rw [if_pos (show Region.wanted _ _ = true from rfl)]
   refine wp_val (v := .agg #[.slice OA on oc, .int .i64 q, .int .i64 u, .bool c, .bool d, .slice CA cn cc]) (w' := X) ?_ ⟨rfl, hB⟩
   simp [execOp, go_sem, Act.eval, cbB, xs0, xs1, xs2, xs3, xs4, xs5]
  ·cases ho
   have s0 : S 0 = true := hp ⟨0, .data⟩ (by simp) rfl
   rw [if_pos (show Region.wanted _ _ = true from rfl)]
   refine wp_cal ?_ (HVS.out X (HBL0.out.trans (hB.mono HBL0.out.size))) (fun v w' hR => ?_)
   ·simp [execOp, go_sem, Act.eval, cbB, s0]
    try rfl
   ·obtain ⟨rfl, hB'⟩ := hR
    exact ⟨rfl, hB.trans (hB'.mono hB.size)⟩
  ·cases ho
   have s1 : S 1 = true := hp ⟨1, .data⟩ (by simp) rfl
   rw [if_pos (show Region.wanted _ _ = true from rfl)]
   refine wp_val (v := .bool false) (w' := X) ?_ ⟨rfl, hB⟩
   simp [execOp, go_sem, Act.eval, cbB, s1]
  ·cases ho
   have s2 : S 2 = true := hp ⟨2, .data⟩ (by simp) rfl
   rw [if_pos (show Region.wanted _ _ = true from rfl)]
   refine wp_val (v := .bool false) (w' := X) ?_ ⟨rfl, hB⟩
   simp [execOp, go_sem, Act.eval, cbB, s2]
  ·cases ho
   have s3 : S 3 = true := hp ⟨3, .guard⟩ (by simp) rfl
   have xg0 : X.cell? ⟨w.heap.size + 1, 0, none⟩ = some (.int .i64 gk) := (hB.cell (p := ⟨_, 0, none⟩) lg).trans ag_0
   have xg1 : X.cell? ⟨w.heap.size + 1, 1, none⟩ = some (.int .i64 gn) := (hB.cell (p := ⟨_, 1, none⟩) lg).trans ag_1
   have xg2 : X.cell? ⟨w.heap.size + 1, 2, none⟩ = some (.string gs) := (hB.cell (p := ⟨_, 2, none⟩) lg).trans ag_2
   have xg3 : X.cell? ⟨w.heap.size + 1, 3, none⟩ = some (.slice AA na ac) := (hB.cell (p := ⟨_, 3, none⟩) lg).trans ag_3
   rw [if_pos (show Region.wanted _ (yielded _ _) = true by simp [Region.wanted, yielded, cbB, s3])]
   refine wp_val (v := .agg #[.int .i64 gk, .int .i64 gn, .string gs, .slice AA na ac]) (w' := X) ?_ ⟨rfl, hB⟩
   simp [execOp, go_sem, Act.eval, cbB, xg0, xg1, xg2, xg3]
  ·cases ho
   have s4 : S 4 = true := hp ⟨4, .data⟩ (by simp) rfl
   have s3 : S 3 = true := hp ⟨3, .guard⟩ (by simp) rfl
   rw [if_pos (show Region.wanted _ (yielded _ _) = true by simp [Region.wanted, yielded, cbB, s3])]
   refine wp_cal ?_ (HVT.out X (HBL0.out.trans (hB.mono HBL0.out.size))) (fun v w' hR => ?_)
   ·simp [execOp, go_sem, Act.eval, cbB, s4]
    try rfl
   ·obtain ⟨rfl, hB'⟩ := hR
    exact ⟨rfl, hB.trans (hB'.mono hB.size)⟩
  ·cases ho
   have s5 : S 5 = true := hp ⟨5, .data⟩ (by simp) rfl
   have s3 : S 3 = true := hp ⟨3, .guard⟩ (by simp) rfl
   rw [if_pos (show Region.wanted _ (yielded _ _) = true by simp [Region.wanted, yielded, cbB, s3])]
   refine wp_val (v := .bool true) (w' := X) ?_ ⟨rfl, hB⟩
   simp [execOp, go_sem, Act.eval, cbB, s5]
  ·cases ho
   have s3 : S 3 = true := hp ⟨3, .data⟩ (by simp) rfl
   have s6 : S 6 = true := hp ⟨6, .data⟩ (by simp) rfl
   rw [if_pos (show Region.wanted _ _ = true from rfl)]
   refine wp_val (v := .bool true) (w' := X) ?_ ⟨rfl, hB⟩
   simp [execOp, go_sem, Act.eval, cbB, s3, s6]
  ·cases ho
   have s7 : S 7 = true := hp ⟨7, .data⟩ (by simp) rfl
   rw [if_pos (show Region.wanted _ _ = true from rfl)]
   refine wp_val (v := .bool true) (w' := X) ?_ ⟨rfl, hB⟩
   simp [execOp, go_sem, Act.eval, cbB, s7]
  ·cases ho
   have s8 : S 8 = true := hp ⟨8, .guard⟩ (by simp) rfl
   rw [if_neg (show ¬ Region.wanted _ (yielded _ _) = true by simp [Region.wanted, yielded, cbB, s8])]
   exact ⟨rfl, hB⟩
  ·cases ho
   have s8 : S 8 = true := hp ⟨8, .guard⟩ (by simp) rfl
   rw [if_neg (show ¬ Region.wanted _ (yielded _ _) = true by simp [Region.wanted, yielded, cbB, s8])]
   exact ⟨rfl, hB⟩
  ·cases ho
   have s8 : S 8 = true := hp ⟨8, .guard⟩ (by simp) rfl
   rw [if_neg (show ¬ Region.wanted _ (yielded _ _) = true by simp [Region.wanted, yielded, cbB, s8])]
   exact ⟨rfl, hB⟩
  ·cases ho
   have s8 : S 8 = true := hp ⟨8, .guard⟩ (by simp) rfl
   rw [if_neg (show ¬ Region.wanted _ (yielded _ _) = true by simp [Region.wanted, yielded, cbB, s8])]
   exact ⟨rfl, hB⟩
  ·cases ho
   have s8 : S 8 = true := hp ⟨8, .guard⟩ (by simp) rfl
   rw [if_neg (show ¬ Region.wanted _ (yielded _ _) = true by simp [Region.wanted, yielded, cbB, s8])]
   exact ⟨rfl, hB⟩
  ·cases ho
   have s8 : S 8 = true := hp ⟨8, .data⟩ (by simp) rfl
   rw [if_pos (show Region.wanted _ _ = true from rfl)]
   refine wp_val (v := .bool true) (w' := X) ?_ ⟨rfl, hB⟩
   simp [execOp, go_sem, Act.eval, cbB, s8]
 case fin =>
  rintro S a W1 hall ⟨rfl, hB⟩
  have s0 := hall 0 (show 0 < 15 by omega)
  have s1 := hall 1 (show 1 < 15 by omega)
  have s2 := hall 2 (show 2 < 15 by omega)
  have s3 := hall 3 (show 3 < 15 by omega)
  have s4 := hall 4 (show 4 < 15 by omega)
  have s5 := hall 5 (show 5 < 15 by omega)
  have s6 := hall 6 (show 6 < 15 by omega)
  have s7 := hall 7 (show 7 < 15 by omega)
  have s8 := hall 8 (show 8 < 15 by omega)
  have s9 := hall 9 (show 9 < 15 by omega)
  have s10 := hall 10 (show 10 < 15 by omega)
  have s11 := hall 11 (show 11 < 15 by omega)
  have s12 := hall 12 (show 12 < 15 by omega)
  have s13 := hall 13 (show 13 < 15 by omega)
  have s14 := hall 14 (show 14 < 15 by omega)
  have HBL1 := Lib.hid (HBL0.out.trans (hB.mono HBL0.out.size))
  have HBK1 := Lib.hid (HBK0.out.keep fun x hx => hB.block x.1 (HBK0.out.bk x hx).lt)
  refine hK0 _ _ ?_
  simp only [cbB, s0, s1, s2, s3, s4, s5, s6, s7, s8, s14, if_true]
  clear hall hB HBL0 HBK0 hK0 HVS HVT ls lg s0 s1 s2 s3 s4 s5 s6 s7 s8 s9 s10 s11 s12 s13 s14 as_0 as_1 as_2 as_3 as_4 as_5 ag_0 ag_1 ag_2 ag_3
  have hk1 : Bks _ [(w.heap.size + 1 + 1 + 1, [.int .i64 0, .int .i64 0, .string ⟨#[]⟩, .slice none 0 0]), (w.heap.size + 1 + 1, [.slice none 0 0, .int .i64 0, .int .i64 0, .bool false, .bool false, .slice none 0 0]), (w.heap.size + 1, [.int .i64 gk, .int .i64 gn, .string gs, .slice AA na ac]), (w.heap.size, [.slice OA on oc, .int .i64 q, .int .i64 u, .bool c, .bool d, .slice CA cn cc])] := HBK1.out.set6 1 rfl (.slice none 0 0) (.int .i64 0) (.int .i64 0) (.bool false) (.bool false) (.slice none 0 0)
  have hk2 : Bks _ [(w.heap.size + 1 + 1 + 1, [.int .i64 0, .int .i64 0, .string ⟨#[]⟩, .slice none 0 0]), (w.heap.size + 1 + 1, [.slice none 0 0, .int .i64 0, .int .i64 0, .bool false, .bool false, .slice none 0 0]), (w.heap.size + 1, [.int .i64 gk, .int .i64 gn, .string gs, .slice AA na ac]), (w.heap.size, [.slice OA on oc, .int .i64 q, .int .i64 u, .bool c, .bool d, .slice CA cn cc])] := hk1.set4 0 rfl (.int .i64 0) (.int .i64 0) (.string ⟨#[]⟩) (.slice none 0 0)
  have hbl : Below w.heap.size w (((((((((((W1.setCell ⟨w.heap.size + 1 + 1, 0, none⟩ (.slice none 0 0)).setCell ⟨w.heap.size + 1 + 1, 1, none⟩ (.int .i64 0)).setCell ⟨w.heap.size + 1 + 1, 2, none⟩ (.int .i64 0)).setCell ⟨w.heap.size + 1 + 1, 3, none⟩ (.bool false)).setCell ⟨w.heap.size + 1 + 1, 4, none⟩ (.bool false)).setCell ⟨w.heap.size + 1 + 1, 5, none⟩ (.slice none 0 0)).setCell ⟨w.heap.size + 1 + 1 + 1, 0, none⟩ (.int .i64 0)).setCell ⟨w.heap.size + 1 + 1 + 1, 1, none⟩ (.int .i64 0)).setCell ⟨w.heap.size + 1 + 1 + 1, 2, none⟩ (.string ⟨#[]⟩)).setCell ⟨w.heap.size + 1 + 1 + 1, 3, none⟩ (.slice none 0 0))) := ((((((((((HBL1.out.setCell (p := ⟨w.heap.size + 1 + 1, _, none⟩) (show w.heap.size ≤ w.heap.size + 1 + 1 by omega) _).setCell (p := ⟨w.heap.size + 1 + 1, _, none⟩) (show w.heap.size ≤ w.heap.size + 1 + 1 by omega) _).setCell (p := ⟨w.heap.size + 1 + 1, _, none⟩) (show w.heap.size ≤ w.heap.size + 1 + 1 by omega) _).setCell (p := ⟨w.heap.size + 1 + 1, _, none⟩) (show w.heap.size ≤ w.heap.size + 1 + 1 by omega) _).setCell (p := ⟨w.heap.size + 1 + 1, _, none⟩) (show w.heap.size ≤ w.heap.size + 1 + 1 by omega) _).setCell (p := ⟨w.heap.size + 1 + 1, _, none⟩) (show w.heap.size ≤ w.heap.size + 1 + 1 by omega) _).setCell (p := ⟨w.heap.size + 1 + 1 + 1, _, none⟩) (show w.heap.size ≤ w.heap.size + 1 + 1 + 1 by omega) _).setCell (p := ⟨w.heap.size + 1 + 1 + 1, _, none⟩) (show w.heap.size ≤ w.heap.size + 1 + 1 + 1 by omega) _).setCell (p := ⟨w.heap.size + 1 + 1 + 1, _, none⟩) (show w.heap.size ≤ w.heap.size + 1 + 1 + 1 by omega) _).setCell (p := ⟨w.heap.size + 1 + 1 + 1, _, none⟩) (show w.heap.size ≤ w.heap.size + 1 + 1 + 1 by omega) _)
  obtain ⟨wz, HWZ⟩ : ∃ wz, Hid (wz = ((((((((((W1.setCell ⟨w.heap.size + 1 + 1, 0, none⟩ (.slice none 0 0)).setCell ⟨w.heap.size + 1 + 1, 1, none⟩ (.int .i64 0)).setCell ⟨w.heap.size + 1 + 1, 2, none⟩ (.int .i64 0)).setCell ⟨w.heap.size + 1 + 1, 3, none⟩ (.bool false)).setCell ⟨w.heap.size + 1 + 1, 4, none⟩ (.bool false)).setCell ⟨w.heap.size + 1 + 1, 5, none⟩ (.slice none 0 0)).setCell ⟨w.heap.size + 1 + 1 + 1, 0, none⟩ (.int .i64 0)).setCell ⟨w.heap.size + 1 + 1 + 1, 1, none⟩ (.int .i64 0)).setCell ⟨w.heap.size + 1 + 1 + 1, 2, none⟩ (.string ⟨#[]⟩)).setCell ⟨w.heap.size + 1 + 1 + 1, 3, none⟩ (.slice none 0 0))) := ⟨_, Lib.hid rfl⟩
  rw [← HWZ.out] at hk2 hbl
  have HKZ := Lib.hid hk2
  have HBZ := Lib.hid hbl
  clear hk1 hk2 hbl
  have ja_0 := HBK1.out.cell 1 0 rfl rfl
  have ja_1 := HBK1.out.cell 1 1 rfl rfl
  have ja_2 := HBK1.out.cell 1 2 rfl rfl
  have ja_3 := HBK1.out.cell 1 3 rfl rfl
  have ja_4 := HBK1.out.cell 1 4 rfl rfl
  have ja_5 := HBK1.out.cell 1 5 rfl rfl
  have jc_0 := HBK1.out.cell 0 0 rfl rfl
  have jc_1 := HBK1.out.cell 0 1 rfl rfl
  have jc_2 := HBK1.out.cell 0 2 rfl rfl
  have jc_3 := HBK1.out.cell 0 3 rfl rfl
  have jaf0 := HBK1.out.fz 1 0 rfl
  have jaf1 := HBK1.out.fz 1 1 rfl
  have jaf2 := HBK1.out.fz 1 2 rfl
  have jaf3 := HBK1.out.fz 1 3 rfl
  have jaf4 := HBK1.out.fz 1 4 rfl
  have jaf5 := HBK1.out.fz 1 5 rfl
  have jcf0 := HBK1.out.fz 0 0 rfl
  have jcf1 := HBK1.out.fz 0 1 rfl
  have jcf2 := HBK1.out.fz 0 2 rfl
  have jcf3 := HBK1.out.fz 0 3 rfl
  have la := HBK1.out.lt 1 rfl
  have lc := HBK1.out.lt 0 rfl
  go_wp2_with fail
  rw [← HWZ.out]
  have ma_0 := HKZ.out.cell 1 0 rfl rfl
  have ma_1 := HKZ.out.cell 1 1 rfl rfl
  have ma_2 := HKZ.out.cell 1 2 rfl rfl
  have ma_3 := HKZ.out.cell 1 3 rfl rfl
  have ma_4 := HKZ.out.cell 1 4 rfl rfl
  have ma_5 := HKZ.out.cell 1 5 rfl rfl
  have mc_0 := HKZ.out.cell 0 0 rfl rfl
  have mc_1 := HKZ.out.cell 0 1 rfl rfl
  have mc_2 := HKZ.out.cell 0 2 rfl rfl
  have mc_3 := HKZ.out.cell 0 3 rfl rfl
  exact bodyPost_ret (v := rvN 1) (by simp [rvN, results, Tryz.results30, go_sem, ma_0, ma_1, ma_2, ma_3, ma_4, ma_5, mc_0, mc_1, mc_2, mc_3]) rfl ⟨rfl, HBZ.out⟩
set_option maxHeartbeats 3200000 in
theorem f_call_c (OA : Option Addr) (on oc : Nat) (q u : Int) (c d : Bool) (CA : Option Addr) (cn cc : Nat) (gk gn : Int) (gs : ByteArray) (AA : Option Addr) (na ac : Nat) (gl : List Tm) (l : List OpR) (cl : List (Int × Int)) (w : World)
  (hTab : Tab w OA on oc l) (hcl : cn = cl.length) (hcn : cn ≤ maxLen) (hcp : Pairs w CA cl) (hna : na = gl.length) (hA : TmsAt w.heap.size w AA gl) (hvs : (opsValid l && (flOk ⟨q, u, c, d⟩ && pvalid cl)) = true) (hvt : validT (.mk gk gn gs gl) = true) (hsm : sameT (.mk gk gn gs gl) (canT (.mk gk gn gs gl)) = false) : Calls Tryz.prog 30 #[.agg #[.slice OA on oc, .int .i64 q, .int .i64 u, .bool c, .bool d, .slice CA cn cc], .agg #[.int .i64 gk, .int .i64 gn, .string gs, .slice AA na ac]] w fun e w' => e = .returned (rvN 1) ∧ Below w.heap.size w w' := by
 have HVS : Hid (∀ X, Below w.heap.size w X → Calls Tryz.prog 23 #[.agg #[.slice OA on oc, .int .i64 q, .int .i64 u, .bool c, .bool d, .slice CA cn cc]] X fun e w' => ∃ v, e = .returned v ∧ (v = .bool true ∧ Below X.heap.size X w')) := Lib.hid fun X hX => (f_validSyntaxL OA on oc q u c d CA cn cc l cl X (hTab.below hX) hcl hcn (hcp.below hX)).mono fun e w' h => ⟨_, h.1, by rw [hvs], h.2⟩
 have HVT : Hid (∀ X, Below w.heap.size w X → Calls Tryz.prog 53 #[tmV (.mk gk gn gs gl) AA ac] X fun e w' => ∃ v, e = .returned v ∧ (v = .bool true ∧ Below X.heap.size X w')) := Lib.hid fun X hX => (t_valid (.mk gk gn gs gl) AA ac X ((hA.keep hX).mono hX.size)).mono fun e w' h => ⟨_, h.1, by rw [hvt], h.2⟩
 have HCN : Hid (∀ X, Below w.heap.size w X → Calls Tryz.prog 67 #[tmV (.mk gk gn gs gl) AA ac] X fun e w' => ∃ v, e = .returned v ∧ ((∃ A' c', v = tmV (canT (.mk gk gn gs gl)) A' c' ∧ TmsAt w'.heap.size w' A' (canT (.mk gk gn gs gl)).args) ∧ Below X.heap.size X w')) := Lib.hid fun X hX => (t_canon (.mk gk gn gs gl) AA ac X ((hA.keep hX).mono hX.size)).mono fun e w' h => by
  obtain ⟨A', c', he, hB, hN⟩ := h
  exact ⟨_, he, ⟨A', c', rfl, hN.at'⟩, hB⟩
 have HSM : Hid (∀ X A' c', Below w.heap.size w X → TmsAt X.heap.size X A' (canT (.mk gk gn gs gl)).args → Calls Tryz.prog 66 #[tmV (.mk gk gn gs gl) AA ac, tmV (canT (.mk gk gn gs gl)) A' c'] X fun e w' => ∃ v, e = .returned v ∧ (v = .bool false ∧ Below X.heap.size X w')) := Lib.hid fun X A' c' hX hT => (t_same (.mk gk gn gs gl) (canT (.mk gk gn gs gl)) AA A' ac c' X ((hA.keep hX).mono hX.size) hT).mono fun e w' h => ⟨_, h.1, by rw [hsm], h.2⟩
 have HBL0 : Hid (Below w.heap.size w (((((w.alloc (.cells #[.slice OA on oc, .int .i64 q, .int .i64 u, .bool c, .bool d, .slice CA cn cc] 43)).alloc (.cells #[.int .i64 gk, .int .i64 gn, .string gs, .slice AA na ac] 26)).alloc (.cells #[.slice none 0 0, .int .i64 0, .int .i64 0, .bool false, .bool false, .slice none 0 0] 43)).alloc (.cells #[.int .i64 0, .int .i64 0, .string ⟨#[]⟩, .slice none 0 0] 26)))) := Lib.hid (((((Below.refl _ w).alloc (Nat.le_refl _) _).alloc (by simp) _).alloc (by simp; omega) _).alloc (by simp; omega) _)
 have HBK0 : Hid (Bks (((((w.alloc (.cells #[.slice OA on oc, .int .i64 q, .int .i64 u, .bool c, .bool d, .slice CA cn cc] 43)).alloc (.cells #[.int .i64 gk, .int .i64 gn, .string gs, .slice AA na ac] 26)).alloc (.cells #[.slice none 0 0, .int .i64 0, .int .i64 0, .bool false, .bool false, .slice none 0 0] 43)).alloc (.cells #[.int .i64 0, .int .i64 0, .string ⟨#[]⟩, .slice none 0 0] 26))) [(w.heap.size + 1 + 1 + 1, [.int .i64 0, .int .i64 0, .string ⟨#[]⟩, .slice none 0 0]), (w.heap.size + 1 + 1, [.slice none 0 0, .int .i64 0, .int .i64 0, .bool false, .bool false, .slice none 0 0]), (w.heap.size + 1, [.int .i64 gk, .int .i64 gn, .string gs, .slice AA na ac]), (w.heap.size, [.slice OA on oc, .int .i64 q, .int .i64 u, .bool c, .bool d, .slice CA cn cc])]) := Lib.hid (((((Bks.nil w).new [.slice OA on oc, .int .i64 q, .int .i64 u, .bool c, .bool d, .slice CA cn cc] 43 rfl).new [.int .i64 gk, .int .i64 gn, .string gs, .slice AA na ac] 26 (by simp)).new [.slice none 0 0, .int .i64 0, .int .i64 0, .bool false, .bool false, .slice none 0 0] 43 (by simp)).new [.int .i64 0, .int .i64 0, .string ⟨#[]⟩, .slice none 0 0] 26 (by simp))
 have HTV : Hid (∀ A c, tmV (.mk gk gn gs gl) A c = .agg #[.int .i64 gk, .int .i64 gn, .string gs, .slice A na c]) := Lib.hid fun A c => by rw [hna]; rfl
 rw [HTV.out] at HVT HCN HSM
 clear hTab hcl hcn hcp hA hvs hvt hsm hna HTV
 go_enter Tryz.func30, Tryz.ntmps30
 go_wp2_with fail
 obtain ⟨W0, HW0⟩ : ∃ W0, Hid (W0 = ((((w.alloc (.cells #[.slice OA on oc, .int .i64 q, .int .i64 u, .bool c, .bool d, .slice CA cn cc] 43)).alloc (.cells #[.int .i64 gk, .int .i64 gn, .string gs, .slice AA na ac] 26)).alloc (.cells #[.slice none 0 0, .int .i64 0, .int .i64 0, .bool false, .bool false, .slice none 0 0] 43)).alloc (.cells #[.int .i64 0, .int .i64 0, .string ⟨#[]⟩, .slice none 0 0] 26))) := ⟨_, Lib.hid rfl⟩
 rw [← HW0.out] at HBL0 HBK0 ⊢
 clear HW0
 rename_i K0 hK0
 have as_0 := HBK0.out.cell 3 0 rfl rfl
 have as_1 := HBK0.out.cell 3 1 rfl rfl
 have as_2 := HBK0.out.cell 3 2 rfl rfl
 have as_3 := HBK0.out.cell 3 3 rfl rfl
 have as_4 := HBK0.out.cell 3 4 rfl rfl
 have as_5 := HBK0.out.cell 3 5 rfl rfl
 have ag_0 := HBK0.out.cell 2 0 rfl rfl
 have ag_1 := HBK0.out.cell 2 1 rfl rfl
 have ag_2 := HBK0.out.cell 2 2 rfl rfl
 have ag_3 := HBK0.out.cell 2 3 rfl rfl
 have ls : w.heap.size < W0.heap.size := HBK0.out.lt 3 rfl
 have lg : w.heap.size + 1 < W0.heap.size := HBK0.out.lt 2 rfl
 refine wp_region_any (by kernel_rfl) ?_
 refine wpAny_inv (fun S a X => ∃ cv, a = (cbC (.agg #[.slice OA on oc, .int .i64 q, .int .i64 u, .bool c, .bool d, .slice CA cn cc]) (.agg #[.int .i64 gk, .int .i64 gn, .string gs, .slice AA na ac]) cv w.heap.size S) ∧ Below W0.heap.size W0 X ∧ (S 11 = true → ∃ A' c', cv = tmV (canT (.mk gk gn gs gl)) A' c' ∧ TmsAt X.heap.size X A' (canT (.mk gk gn gs gl)).args)) (by kernel_rfl) ?step ?fin 15 (fun _ => false) _ _ (by decide) ⟨undef, rfl, (Below.refl _ W0).drew, fun h => (by cases h)⟩
 case step =>
  rintro S j o a X ho hs hp ⟨cv, rfl, hB, hcv⟩
  have hlt : j < 15 := (Array.getElem?_eq_some_iff.1 ho).1
  rcases (show j = 0 ∨ j = 1 ∨ j = 2 ∨ j = 3 ∨ j = 4 ∨ j = 5 ∨ j = 6 ∨ j = 7 ∨ j = 8 ∨ j = 9 ∨ j = 10 ∨ j = 11 ∨ j = 12 ∨ j = 13 ∨ j = 14 by omega) with rfl | rfl | rfl | rfl | rfl | rfl | rfl | rfl | rfl | rfl | rfl | rfl | rfl | rfl | rfl
  ·cases ho
   have xs0 : X.cell? ⟨w.heap.size, 0, none⟩ = some (.slice OA on oc) := (hB.cell (p := ⟨_, 0, none⟩) ls).trans as_0
   have xs1 : X.cell? ⟨w.heap.size, 1, none⟩ = some (.int .i64 q) := (hB.cell (p := ⟨_, 1, none⟩) ls).trans as_1
   have xs2 : X.cell? ⟨w.heap.size, 2, none⟩ = some (.int .i64 u) := (hB.cell (p := ⟨_, 2, none⟩) ls).trans as_2
   have xs3 : X.cell? ⟨w.heap.size, 3, none⟩ = some (.bool c) := (hB.cell (p := ⟨_, 3, none⟩) ls).trans as_3
   have xs4 : X.cell? ⟨w.heap.size, 4, none⟩ = some (.bool d) := (hB.cell (p := ⟨_, 4, none⟩) ls).trans as_4
   have xs5 : X.cell? ⟨w.heap.size, 5, none⟩ = some (.slice CA cn cc) := (hB.cell (p := ⟨_, 5, none⟩) ls).trans as_5
   rw [if_pos (show Region.wanted _ _ = true from rfl)]
   refine wp_val (v := .agg #[.slice OA on oc, .int .i64 q, .int .i64 u, .bool c, .bool d, .slice CA cn cc]) (w' := X) ?_ ⟨cv, rfl, hB, hcv⟩
   simp [execOp, go_sem, Act.eval, cbC, xs0, xs1, xs2, xs3, xs4, xs5]
  ·cases ho
   have s0 : S 0 = true := hp ⟨0, .data⟩ (by simp) rfl
   rw [if_pos (show Region.wanted _ _ = true from rfl)]
   refine wp_cal ?_ (HVS.out X (HBL0.out.trans (hB.mono HBL0.out.size))) (fun v w' hR => ?_)
   ·simp [execOp, go_sem, Act.eval, cbC, s0]
    try rfl
   ·obtain ⟨rfl, hB'⟩ := hR
    exact ⟨_, rfl, hB.trans (hB'.mono hB.size), fun h => (by obtain ⟨A', c', e, hT⟩ := hcv h; exact ⟨A', c', e, (hT.keep hB').mono hB'.size⟩)⟩
  ·cases ho
   have s1 : S 1 = true := hp ⟨1, .data⟩ (by simp) rfl
   rw [if_pos (show Region.wanted _ _ = true from rfl)]
   refine wp_val (v := .bool false) (w' := X) ?_ ⟨cv, rfl, hB, hcv⟩
   simp [execOp, go_sem, Act.eval, cbC, s1]
  ·cases ho
   have s2 : S 2 = true := hp ⟨2, .data⟩ (by simp) rfl
   rw [if_pos (show Region.wanted _ _ = true from rfl)]
   refine wp_val (v := .bool false) (w' := X) ?_ ⟨cv, rfl, hB, hcv⟩
   simp [execOp, go_sem, Act.eval, cbC, s2]
  ·cases ho
   have s3 : S 3 = true := hp ⟨3, .guard⟩ (by simp) rfl
   have xg0 : X.cell? ⟨w.heap.size + 1, 0, none⟩ = some (.int .i64 gk) := (hB.cell (p := ⟨_, 0, none⟩) lg).trans ag_0
   have xg1 : X.cell? ⟨w.heap.size + 1, 1, none⟩ = some (.int .i64 gn) := (hB.cell (p := ⟨_, 1, none⟩) lg).trans ag_1
   have xg2 : X.cell? ⟨w.heap.size + 1, 2, none⟩ = some (.string gs) := (hB.cell (p := ⟨_, 2, none⟩) lg).trans ag_2
   have xg3 : X.cell? ⟨w.heap.size + 1, 3, none⟩ = some (.slice AA na ac) := (hB.cell (p := ⟨_, 3, none⟩) lg).trans ag_3
   rw [if_pos (show Region.wanted _ (yielded _ _) = true by simp [Region.wanted, yielded, cbC, s3])]
   refine wp_val (v := .agg #[.int .i64 gk, .int .i64 gn, .string gs, .slice AA na ac]) (w' := X) ?_ ⟨cv, rfl, hB, hcv⟩
   simp [execOp, go_sem, Act.eval, cbC, xg0, xg1, xg2, xg3]
  ·cases ho
   have s4 : S 4 = true := hp ⟨4, .data⟩ (by simp) rfl
   have s3 : S 3 = true := hp ⟨3, .guard⟩ (by simp) rfl
   rw [if_pos (show Region.wanted _ (yielded _ _) = true by simp [Region.wanted, yielded, cbC, s3])]
   refine wp_cal ?_ (HVT.out X (HBL0.out.trans (hB.mono HBL0.out.size))) (fun v w' hR => ?_)
   ·simp [execOp, go_sem, Act.eval, cbC, s4]
    try rfl
   ·obtain ⟨rfl, hB'⟩ := hR
    exact ⟨_, rfl, hB.trans (hB'.mono hB.size), fun h => (by obtain ⟨A', c', e, hT⟩ := hcv h; exact ⟨A', c', e, (hT.keep hB').mono hB'.size⟩)⟩
  ·cases ho
   have s5 : S 5 = true := hp ⟨5, .data⟩ (by simp) rfl
   have s3 : S 3 = true := hp ⟨3, .guard⟩ (by simp) rfl
   rw [if_pos (show Region.wanted _ (yielded _ _) = true by simp [Region.wanted, yielded, cbC, s3])]
   refine wp_val (v := .bool false) (w' := X) ?_ ⟨cv, rfl, hB, hcv⟩
   simp [execOp, go_sem, Act.eval, cbC, s5]
  ·cases ho
   have s3 : S 3 = true := hp ⟨3, .data⟩ (by simp) rfl
   have s6 : S 6 = true := hp ⟨6, .data⟩ (by simp) rfl
   rw [if_pos (show Region.wanted _ _ = true from rfl)]
   refine wp_val (v := .bool false) (w' := X) ?_ ⟨cv, rfl, hB, hcv⟩
   simp [execOp, go_sem, Act.eval, cbC, s3, s6]
  ·cases ho
   have s7 : S 7 = true := hp ⟨7, .data⟩ (by simp) rfl
   rw [if_pos (show Region.wanted _ _ = true from rfl)]
   refine wp_val (v := .bool false) (w' := X) ?_ ⟨cv, rfl, hB, hcv⟩
   simp [execOp, go_sem, Act.eval, cbC, s7]
  ·cases ho
   have s8 : S 8 = true := hp ⟨8, .guard⟩ (by simp) rfl
   have xg0 : X.cell? ⟨w.heap.size + 1, 0, none⟩ = some (.int .i64 gk) := (hB.cell (p := ⟨_, 0, none⟩) lg).trans ag_0
   have xg1 : X.cell? ⟨w.heap.size + 1, 1, none⟩ = some (.int .i64 gn) := (hB.cell (p := ⟨_, 1, none⟩) lg).trans ag_1
   have xg2 : X.cell? ⟨w.heap.size + 1, 2, none⟩ = some (.string gs) := (hB.cell (p := ⟨_, 2, none⟩) lg).trans ag_2
   have xg3 : X.cell? ⟨w.heap.size + 1, 3, none⟩ = some (.slice AA na ac) := (hB.cell (p := ⟨_, 3, none⟩) lg).trans ag_3
   rw [if_pos (show Region.wanted _ (yielded _ _) = true by simp [Region.wanted, yielded, cbC, s8])]
   refine wp_val (v := .agg #[.int .i64 gk, .int .i64 gn, .string gs, .slice AA na ac]) (w' := X) ?_ ⟨cv, rfl, hB, hcv⟩
   simp [execOp, go_sem, Act.eval, cbC, xg0, xg1, xg2, xg3]
  ·cases ho
   have s8 : S 8 = true := hp ⟨8, .guard⟩ (by simp) rfl
   have xg0 : X.cell? ⟨w.heap.size + 1, 0, none⟩ = some (.int .i64 gk) := (hB.cell (p := ⟨_, 0, none⟩) lg).trans ag_0
   have xg1 : X.cell? ⟨w.heap.size + 1, 1, none⟩ = some (.int .i64 gn) := (hB.cell (p := ⟨_, 1, none⟩) lg).trans ag_1
   have xg2 : X.cell? ⟨w.heap.size + 1, 2, none⟩ = some (.string gs) := (hB.cell (p := ⟨_, 2, none⟩) lg).trans ag_2
   have xg3 : X.cell? ⟨w.heap.size + 1, 3, none⟩ = some (.slice AA na ac) := (hB.cell (p := ⟨_, 3, none⟩) lg).trans ag_3
   rw [if_pos (show Region.wanted _ (yielded _ _) = true by simp [Region.wanted, yielded, cbC, s8])]
   refine wp_val (v := .agg #[.int .i64 gk, .int .i64 gn, .string gs, .slice AA na ac]) (w' := X) ?_ ⟨cv, rfl, hB, hcv⟩
   simp [execOp, go_sem, Act.eval, cbC, xg0, xg1, xg2, xg3]
  ·cases ho
   have s10 : S 10 = true := hp ⟨10, .data⟩ (by simp) rfl
   have s8 : S 8 = true := hp ⟨8, .guard⟩ (by simp) rfl
   rw [if_pos (show Region.wanted _ (yielded _ _) = true by simp [Region.wanted, yielded, cbC, s8])]
   refine wp_cal ?_ (HCN.out X (HBL0.out.trans (hB.mono HBL0.out.size))) (fun v w' hR => ?_)
   ·simp [execOp, go_sem, Act.eval, cbC, s10]
    try rfl
   ·obtain ⟨hcv', hB'⟩ := hR
    exact ⟨v, rfl, hB.trans (hB'.mono hB.size), fun _ => hcv'⟩
  ·cases ho
   have s9 : S 9 = true := hp ⟨9, .data⟩ (by simp) rfl
   have s11 : S 11 = true := hp ⟨11, .data⟩ (by simp) rfl
   have s8 : S 8 = true := hp ⟨8, .guard⟩ (by simp) rfl
   obtain ⟨A1, c1, hcve, hT1⟩ := hcv s11
   subst hcve
   rw [if_pos (show Region.wanted _ (yielded _ _) = true by simp [Region.wanted, yielded, cbC, s8])]
   refine wp_cal ?_ (HSM.out X A1 c1 (HBL0.out.trans (hB.mono HBL0.out.size)) hT1) (fun v w' hR => ?_)
   ·simp [execOp, go_sem, Act.eval, cbC, s9, s11]
    try rfl
   ·obtain ⟨rfl, hB'⟩ := hR
    exact ⟨_, rfl, hB.trans (hB'.mono hB.size), fun h => (by obtain ⟨A', c', e, hT⟩ := hcv h; exact ⟨A', c', e, (hT.keep hB').mono hB'.size⟩)⟩
  ·cases ho
   have s12 : S 12 = true := hp ⟨12, .data⟩ (by simp) rfl
   have s8 : S 8 = true := hp ⟨8, .guard⟩ (by simp) rfl
   rw [if_pos (show Region.wanted _ (yielded _ _) = true by simp [Region.wanted, yielded, cbC, s8])]
   refine wp_val (v := .bool true) (w' := X) ?_ ⟨cv, rfl, hB, hcv⟩
   simp [execOp, go_sem, Act.eval, cbC, s12]
  ·cases ho
   have s8 : S 8 = true := hp ⟨8, .data⟩ (by simp) rfl
   have s13 : S 13 = true := hp ⟨13, .data⟩ (by simp) rfl
   rw [if_pos (show Region.wanted _ _ = true from rfl)]
   refine wp_val (v := .bool true) (w' := X) ?_ ⟨cv, rfl, hB, hcv⟩
   simp [execOp, go_sem, Act.eval, cbC, s8, s13]
 case fin =>
  rintro S a W1 hall ⟨cv, rfl, hB, -⟩
  have s0 := hall 0 (show 0 < 15 by omega)
  have s1 := hall 1 (show 1 < 15 by omega)
  have s2 := hall 2 (show 2 < 15 by omega)
  have s3 := hall 3 (show 3 < 15 by omega)
  have s4 := hall 4 (show 4 < 15 by omega)
  have s5 := hall 5 (show 5 < 15 by omega)
  have s6 := hall 6 (show 6 < 15 by omega)
  have s7 := hall 7 (show 7 < 15 by omega)
  have s8 := hall 8 (show 8 < 15 by omega)
  have s9 := hall 9 (show 9 < 15 by omega)
  have s10 := hall 10 (show 10 < 15 by omega)
  have s11 := hall 11 (show 11 < 15 by omega)
  have s12 := hall 12 (show 12 < 15 by omega)
  have s13 := hall 13 (show 13 < 15 by omega)
  have s14 := hall 14 (show 14 < 15 by omega)
  have HBL1 := Lib.hid (HBL0.out.trans (hB.mono HBL0.out.size))
  have HBK1 := Lib.hid (HBK0.out.keep fun x hx => hB.block x.1 (HBK0.out.bk x hx).lt)
  refine hK0 _ _ ?_
  simp only [cbC, s0, s1, s2, s3, s4, s5, s6, s7, s8, s9, s10, s11, s12, s13, s14, if_true]
  clear hall hB HBL0 HBK0 hK0 HVS HVT HCN HSM ls lg s0 s1 s2 s3 s4 s5 s6 s7 s8 s9 s10 s11 s12 s13 s14 as_0 as_1 as_2 as_3 as_4 as_5 ag_0 ag_1 ag_2 ag_3
  have hk1 : Bks _ [(w.heap.size + 1 + 1 + 1, [.int .i64 0, .int .i64 0, .string ⟨#[]⟩, .slice none 0 0]), (w.heap.size + 1 + 1, [.slice none 0 0, .int .i64 0, .int .i64 0, .bool false, .bool false, .slice none 0 0]), (w.heap.size + 1, [.int .i64 gk, .int .i64 gn, .string gs, .slice AA na ac]), (w.heap.size, [.slice OA on oc, .int .i64 q, .int .i64 u, .bool c, .bool d, .slice CA cn cc])] := HBK1.out.set6 1 rfl (.slice none 0 0) (.int .i64 0) (.int .i64 0) (.bool false) (.bool false) (.slice none 0 0)
  have hk2 : Bks _ [(w.heap.size + 1 + 1 + 1, [.int .i64 0, .int .i64 0, .string ⟨#[]⟩, .slice none 0 0]), (w.heap.size + 1 + 1, [.slice none 0 0, .int .i64 0, .int .i64 0, .bool false, .bool false, .slice none 0 0]), (w.heap.size + 1, [.int .i64 gk, .int .i64 gn, .string gs, .slice AA na ac]), (w.heap.size, [.slice OA on oc, .int .i64 q, .int .i64 u, .bool c, .bool d, .slice CA cn cc])] := hk1.set4 0 rfl (.int .i64 0) (.int .i64 0) (.string ⟨#[]⟩) (.slice none 0 0)
  have hbl : Below w.heap.size w (((((((((((W1.setCell ⟨w.heap.size + 1 + 1, 0, none⟩ (.slice none 0 0)).setCell ⟨w.heap.size + 1 + 1, 1, none⟩ (.int .i64 0)).setCell ⟨w.heap.size + 1 + 1, 2, none⟩ (.int .i64 0)).setCell ⟨w.heap.size + 1 + 1, 3, none⟩ (.bool false)).setCell ⟨w.heap.size + 1 + 1, 4, none⟩ (.bool false)).setCell ⟨w.heap.size + 1 + 1, 5, none⟩ (.slice none 0 0)).setCell ⟨w.heap.size + 1 + 1 + 1, 0, none⟩ (.int .i64 0)).setCell ⟨w.heap.size + 1 + 1 + 1, 1, none⟩ (.int .i64 0)).setCell ⟨w.heap.size + 1 + 1 + 1, 2, none⟩ (.string ⟨#[]⟩)).setCell ⟨w.heap.size + 1 + 1 + 1, 3, none⟩ (.slice none 0 0))) := ((((((((((HBL1.out.setCell (p := ⟨w.heap.size + 1 + 1, _, none⟩) (show w.heap.size ≤ w.heap.size + 1 + 1 by omega) _).setCell (p := ⟨w.heap.size + 1 + 1, _, none⟩) (show w.heap.size ≤ w.heap.size + 1 + 1 by omega) _).setCell (p := ⟨w.heap.size + 1 + 1, _, none⟩) (show w.heap.size ≤ w.heap.size + 1 + 1 by omega) _).setCell (p := ⟨w.heap.size + 1 + 1, _, none⟩) (show w.heap.size ≤ w.heap.size + 1 + 1 by omega) _).setCell (p := ⟨w.heap.size + 1 + 1, _, none⟩) (show w.heap.size ≤ w.heap.size + 1 + 1 by omega) _).setCell (p := ⟨w.heap.size + 1 + 1, _, none⟩) (show w.heap.size ≤ w.heap.size + 1 + 1 by omega) _).setCell (p := ⟨w.heap.size + 1 + 1 + 1, _, none⟩) (show w.heap.size ≤ w.heap.size + 1 + 1 + 1 by omega) _).setCell (p := ⟨w.heap.size + 1 + 1 + 1, _, none⟩) (show w.heap.size ≤ w.heap.size + 1 + 1 + 1 by omega) _).setCell (p := ⟨w.heap.size + 1 + 1 + 1, _, none⟩) (show w.heap.size ≤ w.heap.size + 1 + 1 + 1 by omega) _).setCell (p := ⟨w.heap.size + 1 + 1 + 1, _, none⟩) (show w.heap.size ≤ w.heap.size + 1 + 1 + 1 by omega) _)
  obtain ⟨wz, HWZ⟩ : ∃ wz, Hid (wz = ((((((((((W1.setCell ⟨w.heap.size + 1 + 1, 0, none⟩ (.slice none 0 0)).setCell ⟨w.heap.size + 1 + 1, 1, none⟩ (.int .i64 0)).setCell ⟨w.heap.size + 1 + 1, 2, none⟩ (.int .i64 0)).setCell ⟨w.heap.size + 1 + 1, 3, none⟩ (.bool false)).setCell ⟨w.heap.size + 1 + 1, 4, none⟩ (.bool false)).setCell ⟨w.heap.size + 1 + 1, 5, none⟩ (.slice none 0 0)).setCell ⟨w.heap.size + 1 + 1 + 1, 0, none⟩ (.int .i64 0)).setCell ⟨w.heap.size + 1 + 1 + 1, 1, none⟩ (.int .i64 0)).setCell ⟨w.heap.size + 1 + 1 + 1, 2, none⟩ (.string ⟨#[]⟩)).setCell ⟨w.heap.size + 1 + 1 + 1, 3, none⟩ (.slice none 0 0))) := ⟨_, Lib.hid rfl⟩
  rw [← HWZ.out] at hk2 hbl
  have HKZ := Lib.hid hk2
  have HBZ := Lib.hid hbl
  clear hk1 hk2 hbl
  have ja_0 := HBK1.out.cell 1 0 rfl rfl
  have ja_1 := HBK1.out.cell 1 1 rfl rfl
  have ja_2 := HBK1.out.cell 1 2 rfl rfl
  have ja_3 := HBK1.out.cell 1 3 rfl rfl
  have ja_4 := HBK1.out.cell 1 4 rfl rfl
  have ja_5 := HBK1.out.cell 1 5 rfl rfl
  have jc_0 := HBK1.out.cell 0 0 rfl rfl
  have jc_1 := HBK1.out.cell 0 1 rfl rfl
  have jc_2 := HBK1.out.cell 0 2 rfl rfl
  have jc_3 := HBK1.out.cell 0 3 rfl rfl
  have jaf0 := HBK1.out.fz 1 0 rfl
  have jaf1 := HBK1.out.fz 1 1 rfl
  have jaf2 := HBK1.out.fz 1 2 rfl
  have jaf3 := HBK1.out.fz 1 3 rfl
  have jaf4 := HBK1.out.fz 1 4 rfl
  have jaf5 := HBK1.out.fz 1 5 rfl
  have jcf0 := HBK1.out.fz 0 0 rfl
  have jcf1 := HBK1.out.fz 0 1 rfl
  have jcf2 := HBK1.out.fz 0 2 rfl
  have jcf3 := HBK1.out.fz 0 3 rfl
  have la := HBK1.out.lt 1 rfl
  have lc := HBK1.out.lt 0 rfl
  go_wp2_with fail
  rw [← HWZ.out]
  have ma_0 := HKZ.out.cell 1 0 rfl rfl
  have ma_1 := HKZ.out.cell 1 1 rfl rfl
  have ma_2 := HKZ.out.cell 1 2 rfl rfl
  have ma_3 := HKZ.out.cell 1 3 rfl rfl
  have ma_4 := HKZ.out.cell 1 4 rfl rfl
  have ma_5 := HKZ.out.cell 1 5 rfl rfl
  have mc_0 := HKZ.out.cell 0 0 rfl rfl
  have mc_1 := HKZ.out.cell 0 1 rfl rfl
  have mc_2 := HKZ.out.cell 0 2 rfl rfl
  have mc_3 := HKZ.out.cell 0 3 rfl rfl
  exact bodyPost_ret (v := rvN 1) (by simp [rvN, results, Tryz.results30, go_sem, ma_0, ma_1, ma_2, ma_3, ma_4, ma_5, mc_0, mc_1, mc_2, mc_3]) rfl ⟨rfl, HBZ.out⟩
theorem f_call_arg (OA : Option Addr) (on oc : Nat) (q u : Int) (c d : Bool) (CA : Option Addr) (cn cc : Nat) (gk gn : Int) (gs : ByteArray) (AA : Option Addr) (na ac : Nat) (gl : List Tm) (l : List OpR) (cl : List (Int × Int)) (w : World)
  (hTab : Tab w OA on oc l) (hcl : cn = cl.length) (hcn : cn ≤ maxLen) (hcp : Pairs w CA cl) (hna : na = gl.length) (hA : TmsAt w.heap.size w AA gl) (hbad : ((opsValid l && (flOk ⟨q, u, c, d⟩ && pvalid cl)) && validT (.mk gk gn gs gl) && sameT (.mk gk gn gs gl) (canT (.mk gk gn gs gl))) = false) : Calls Tryz.prog 30 #[.agg #[.slice OA on oc, .int .i64 q, .int .i64 u, .bool c, .bool d, .slice CA cn cc], .agg #[.int .i64 gk, .int .i64 gn, .string gs, .slice AA na ac]] w fun e w' => e = .returned (rvN 1) ∧ Below w.heap.size w w' := by
 cases h1 : (opsValid l && (flOk ⟨q, u, c, d⟩ && pvalid cl)) with
 | false => exact f_call_a OA on oc q u c d CA cn cc gk gn gs AA na ac gl l cl w hTab hcl hcn hcp hna hA h1
 | true =>
  cases h2 : validT (.mk gk gn gs gl) with
  | false => exact f_call_b OA on oc q u c d CA cn cc gk gn gs AA na ac gl l cl w hTab hcl hcn hcp hna hA h1 h2
  | true =>
   cases h3 : sameT (.mk gk gn gs gl) (canT (.mk gk gn gs gl)) with
   | false => exact f_call_c OA on oc q u c d CA cn cc gk gn gs AA na ac gl l cl w hTab hcl hcn hcp hna hA h1 h2 h3
   | true => rw [h1, h2, h3] at hbad; cases hbad
end Go.Proofs.YtfkhcpeahdkafaaGreat
