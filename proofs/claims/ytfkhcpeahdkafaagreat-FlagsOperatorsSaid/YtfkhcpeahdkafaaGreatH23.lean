/- Flags: Call where the goal is canonical and its predicate is there. -/
import Derived.Test.YtfkhcpeahdkafaaGreatH22
namespace Hb
open Go Go.RowKit
def ccT3 (sv gv cv av lv kv pv : Value) (nm : ByteArray) (g : Nat) (S : Nat → Bool) (mb e : Nat) : Act := ⟨#[sv, gv, .pointer (some ⟨g, 0, none⟩), .pointer (some ⟨g + 1, 0, none⟩), .pointer (some ⟨g + 1 + 1, 0, none⟩), .slice none 0 0, .pointer (some ⟨g + 1 + 1 + 1, 0, none⟩), .int .i64 0, if S 11 = true then .pointer (some ⟨e, 0, none⟩) else undef, if S 13 = true then .bool true else undef, undef, sv, .bool true, .bool false, .bool false, gv, .bool true, .bool false, .bool false, .bool false, gv, gv, cv, .bool true, .bool false, .bool false, undef, undef, if S 8 = true then .tuple #[pv, .bool true] else undef, if S 0 = true then .map (some mb) else undef, if S 1 = true then .pointer (some ⟨g + 1, 2, none⟩) else undef, if S 2 = true then .string nm else undef, if S 3 = true then .pointer (some ⟨g + 1, 3, none⟩) else undef, if S 4 = true then av else undef, if S 5 = true then lv else undef, if S 6 = true then kv else undef, if S 7 = true then .tuple #[pv, .bool true] else undef, if S 9 = true then pv else undef, if S 10 = true then .bool true else undef, undef, undef, undef, undef, undef, undef, undef, undef, undef, undef, undef, undef, undef, undef, undef, undef, undef, undef, undef, undef, undef, undef, undef, undef, undef, undef, undef, undef, undef, undef, undef, undef, undef, undef, undef, undef, undef, undef], []⟩
def ccT6 (sv gv cv av lv kv pv ov fv pcv : Value) (nm : ByteArray) (g mb e : Nat) (S : Nat → Bool) (bv bcv rv : Value) (e6 : Nat) : Act := ⟨#[sv, gv, .pointer (some ⟨g, 0, none⟩), .pointer (some ⟨g + 1, 0, none⟩), .pointer (some ⟨g + 1 + 1, 0, none⟩), .slice none 0 0, .pointer (some ⟨g + 1 + 1 + 1, 0, none⟩), .int .i64 0, .pointer (some ⟨e, 0, none⟩), .bool true, if S 9 = true then .pointer (some ⟨e6, 0, none⟩) else undef, sv, .bool true, .bool false, .bool false, gv, .bool true, .bool false, .bool false, .bool false, gv, gv, cv, .bool true, .bool false, .bool false, undef, undef, .tuple #[pv, .bool true], .map (some mb), .pointer (some ⟨g + 1, 2, none⟩), .string nm, .pointer (some ⟨g + 1, 3, none⟩), av, lv, kv, .tuple #[pv, .bool true], pv, .bool true, .bool true, .bool false, .bool false, .pointer (some ⟨g + 1, 0, none⟩), .int .i64 3, .bool false, .bool false, undef, undef, if S 0 = true then .pointer (some ⟨g, 0, none⟩) else undef, if S 1 = true then ov else undef, if S 2 = true then bv else undef, if S 3 = true then .pointer (some ⟨g, 1, none⟩) else undef, if S 4 = true then fv else undef, if S 5 = true then .pointer (some ⟨g, 5, none⟩) else undef, if S 6 = true then pcv else undef, if S 7 = true then bcv else undef, if S 8 = true then rv else undef, undef, undef, undef, undef, undef, undef, undef, undef, undef, undef, undef, undef, undef, undef, undef, undef, undef, undef, undef, undef], []⟩
theorem ccT6_rv {sv gv cv av lv kv pv ov fv pcv : Value} {nm : ByteArray} {g mb e : Nat} {S : Nat → Bool} {bv bcv rv : Value} {e6 : Nat} (rv' : Value) (h : S 8 = false) : ccT6 sv gv cv av lv kv pv ov fv pcv nm g mb e S bv bcv rv e6 = ccT6 sv gv cv av lv kv pv ov fv pcv nm g mb e S bv bcv rv' e6 := by
 unfold ccT6
 simp [h]
structure Turn (w W w8 w' : World) : Prop where
 low : Below w.heap.size w W
 run : Below W.heap.size W w8
 lt : w.heap.size + 1 + 1 + 1 < W.heap.size
 size : w'.heap.size = w8.heap.size
 same : ∀ k, k ≠ w.heap.size + 1 + 1 → k ≠ w.heap.size + 1 + 1 + 1 → w'.heap[k]? = w8.heap[k]?
 bks : Bks w8 [(w.heap.size + 1 + 1 + 1, [.int .i64 0, .int .i64 0, .string ⟨#[]⟩, .slice none 0 0]), (w.heap.size + 1 + 1, [.slice none 0 0, .int .i64 0, .int .i64 0, .bool false, .bool false, .slice none 0 0])]
theorem Turn.tab {w W w8 w' : World} (h : Turn w W w8 w') {A : Option Addr} {n cap : Nat} {l : List OpR} (ht : Tab w8 A n cap l) : Tab w' A n cap l := tab_boxes ht h.bks (fun x hx => by
 simp only [List.mem_cons, List.mem_nil_iff, or_false] at hx
 rcases hx with rfl | rfl
 ·intro i s x; rcases i with _ | _ | _ | _ | i <;> simp
 ·intro i s x; rcases i with _ | _ | _ | _ | _ | _ | i <;> simp) (by rw [h.size]; exact Nat.le_refl _) (fun k hk => h.same k (hk _ (List.mem_of_getElem? (i := 1) rfl)) (hk _ (List.mem_of_getElem? (i := 0) rfl)))
theorem Turn.tms {w W w8 w' : World} (h : Turn w W w8 w') {A : Option Addr} {l : List Tm} (ht : NewT W w8 A l) : NewT w w' A l := TmsK.keep ht (fun b hb => h.same b (by have := h.lt; have := hb.1; omega) (by have := h.lt; have := hb.1; omega)) (fun b hb => ⟨Nat.le_trans h.low.size hb.1, by rw [h.size]; exact hb.2⟩)
theorem Turn.prs {w W w8 w' : World} (h : Turn w W w8 w') {A : Option Addr} {n cap : Nat} {l : List (Int × Int)} (ht : PrI (w.heap.size + 1 + 1 + 1 + 1) w8 A n cap l) : PrI (w.heap.size + 1 + 1 + 1 + 1) w' A n cap l := ht.keep (by rw [h.size]; exact Nat.le_refl _) fun b o e => h.same b (by have := (ht.blk b o e).1; omega) (by have := (ht.blk b o e).1; omega)
end Hb
namespace Go.Proofs.YtfkhcpeahdkafaaGreat
open Go.RowKit Hb Go.Shelf
set_option maxRecDepth 100000
set_option maxHeartbeats 6400000 in
theorem f_call_run (R : World → World → RV → Prop) (OA : Option Addr) (on oc : Nat) (q u : Int) (c d : Bool) (CA : Option Addr) (cn cc : Nat) (gn : Int) (gs : ByteArray) (AA : Option Addr) (na ac : Nat) (gl : List Tm) (l : List OpR) (cl : List (Int × Int)) (w : World)
    (hTab : Tab w OA on oc l) (hon : on ≤ 400) (hov : opsValid l = true) (hfv : flOk ⟨q, u, c, d⟩ = true) (hcv : pvalid cl = true) (hcl : cn = cl.length) (hcp : Pairs w CA cl) (hc0 : cn = 0 → (Value.slice CA cn cc = .slice none 0 0 ∨ ∃ ad, CA = some ad)) (hcn : cn ≤ 400) (hna : na = gl.length) (hna8 : na ≤ 8) (hgs : gs.size ≤ maxLen) (hA : TmsAt w.heap.size w AA gl) (hg : validT (.mk 3 gn gs gl) = true) (hsm : sameT (.mk 3 gn gs gl) (canT (.mk 3 gn gs gl)) = true) (hix : pIx gs na < 6)
    (hrun : ∀ W OB oB CB cB, Below w.heap.size w W → Tab W OB on oB l → PrI (w.heap.size + 1 + 1 + 1 + 1) W CB cn cB cl → w.heap.size + 1 + 1 + 1 < W.heap.size → Calls Tryz.prog (pFn (pIx gs na)) #[.agg #[.slice OB on oB, .int .i64 q, .int .i64 u, .bool c, .bool d, .slice CB cn cB], .slice AA na ac, .agg #[.int .i64 3, .int .i64 gn, .string gs, .slice AA na ac]] W fun e w' => ∃ r : RV, e = .returned r.val ∧ Below W.heap.size W w' ∧ R W w' r) :
    Calls Tryz.prog 30 #[.agg #[.slice OA on oc, .int .i64 q, .int .i64 u, .bool c, .bool d, .slice CA cn cc], .agg #[.int .i64 3, .int .i64 gn, .string gs, .slice AA na ac]] w fun e w' => ∃ (r : RV) (W w8 : World), e = .returned (if r.er = 0 then rvS r.oa r.on r.oc r.q r.u r.c r.d r.ca r.cn r.cc r.ra r.rn r.rc else rvB r.bk r.bn r.bs r.ba r.bz r.bc r.er).val ∧ Below w.heap.size w w' ∧ Turn w W w8 w' ∧ R W w8 r := by
  have HTAB := Lib.hid hTab
  have HON := Lib.hid hon
  have HAA := Lib.hid hA
  have HGV := Lib.hid hg
  have HCL := Lib.hid hcl
  have HCP := Lib.hid hcp
  have HC0 := Lib.hid hc0
  have HCN4 := Lib.hid hcn
  have HNA8 := Lib.hid hna8
  have HRUN := Lib.hid hrun
  obtain ⟨fk, HFK⟩ : ∃ fk, Hid (fk = pFn (pIx gs na)) := ⟨_, Lib.hid rfl⟩
  have HF6 : Hid (fk = 113 ∨ fk = 114 ∨ fk = 115 ∨ fk = 116 ∨ fk = 117 ∨ fk = 118) := Lib.hid (by
    rw [HFK.out]
    rcases (show pIx gs na = 0 ∨ pIx gs na = 1 ∨ pIx gs na = 2 ∨ pIx gs na = 3 ∨ pIx gs na = 4 ∨ pIx gs na = 5 by omega) with e | e | e | e | e | e <;> rw [e] <;> simp [pFn])
  have HPF : Hid (∀ X mb, PredIs X mb → (Instr.lookup 94 (.map (some mb)) (.agg #[.string gs, .int .i64 (na : Int)]) true).run Tryz.prog X = .ok (.tuple #[.agg #[.func (.func fk) #[] #[]], .bool true]) X) := Lib.hid fun X mb h => by
    obtain ⟨f, _, h1, h2⟩ := pred_find X mb gs na hgs ((show ∀ n : Nat, n ≤ 8 → (Lit.int .i64 (n : Int)).wf = true from fun n hn => by rcases (show n = 0 ∨ n = 1 ∨ n = 2 ∨ n = 3 ∨ n = 4 ∨ n = 5 ∨ n = 6 ∨ n = 7 ∨ n = 8 by omega) with rfl | rfl | rfl | rfl | rfl | rfl | rfl | rfl | rfl <;> decide) na hna8) h
    rw [h1 hix, show hasP gs na = true from decide_eq_true hix, ← HFK.out] at h2
    exact h2
  rw [← HFK.out] at HRUN
  have HVS : Hid (∀ X, Below w.heap.size w X → Calls Tryz.prog 23 #[.agg #[.slice OA on oc, .int .i64 q, .int .i64 u, .bool c, .bool d, .slice CA cn cc]] X fun e w' => ∃ v, e = .returned v ∧ (v = .bool true ∧ Below X.heap.size X w')) := Lib.hid fun X hX => (f_validSyntax OA on oc q u c d CA cn cc l cl X (hTab.below hX) hon hcl (by unfold maxLen; omega) (hcp.below hX)).mono fun e w' h => ⟨_, h.1, by rw [hov, hfv, hcv]; rfl, h.2⟩
  have HVT : Hid (∀ X, Below w.heap.size w X → Calls Tryz.prog 53 #[tmV (.mk 3 gn gs gl) AA ac] X fun e w' => ∃ v, e = .returned v ∧ (v = .bool true ∧ Below X.heap.size X w')) := Lib.hid fun X hX => (t_valid (.mk 3 gn gs gl) AA ac X ((hA.keep hX).mono hX.size)).mono fun e w' h => ⟨_, h.1, by rw [hg], h.2⟩
  have HCN : Hid (∀ X, Below w.heap.size w X → Calls Tryz.prog 67 #[tmV (.mk 3 gn gs gl) AA ac] X fun e w' => ∃ v, e = .returned v ∧ ((∃ A' c', v = tmV (canT (.mk 3 gn gs gl)) A' c' ∧ TmsAt w'.heap.size w' A' (canT (.mk 3 gn gs gl)).args) ∧ Below X.heap.size X w')) := Lib.hid fun X hX => (t_canon (.mk 3 gn gs gl) AA ac X ((hA.keep hX).mono hX.size)).mono fun e w' h => by
    obtain ⟨A', c', he, hB, hN⟩ := h
    exact ⟨_, he, ⟨A', c', rfl, hN.at'⟩, hB⟩
  have HSM : Hid (∀ X A' c', Below w.heap.size w X → TmsAt X.heap.size X A' (canT (.mk 3 gn gs gl)).args → Calls Tryz.prog 66 #[tmV (.mk 3 gn gs gl) AA ac, tmV (canT (.mk 3 gn gs gl)) A' c'] X fun e w' => ∃ v, e = .returned v ∧ (v = .bool true ∧ Below X.heap.size X w')) := Lib.hid fun X A' c' hX hT => (t_same (.mk 3 gn gs gl) (canT (.mk 3 gn gs gl)) AA A' ac c' X ((hA.keep hX).mono hX.size) hT).mono fun e w' h => ⟨_, h.1, by rw [hsm], h.2⟩
  have HBL0 : Hid (Below w.heap.size w (((((w.alloc (.cells #[.slice OA on oc, .int .i64 q, .int .i64 u, .bool c, .bool d, .slice CA cn cc] 43)).alloc (.cells #[.int .i64 3, .int .i64 gn, .string gs, .slice AA na ac] 26)).alloc (.cells #[.slice none 0 0, .int .i64 0, .int .i64 0, .bool false, .bool false, .slice none 0 0] 43)).alloc (.cells #[.int .i64 0, .int .i64 0, .string ⟨#[]⟩, .slice none 0 0] 26)))) := Lib.hid (((((Below.refl _ w).alloc (Nat.le_refl _) _).alloc (by simp) _).alloc (by simp; omega) _).alloc (by simp; omega) _)
  have HBK0 : Hid (Bks (((((w.alloc (.cells #[.slice OA on oc, .int .i64 q, .int .i64 u, .bool c, .bool d, .slice CA cn cc] 43)).alloc (.cells #[.int .i64 3, .int .i64 gn, .string gs, .slice AA na ac] 26)).alloc (.cells #[.slice none 0 0, .int .i64 0, .int .i64 0, .bool false, .bool false, .slice none 0 0] 43)).alloc (.cells #[.int .i64 0, .int .i64 0, .string ⟨#[]⟩, .slice none 0 0] 26))) [(w.heap.size + 1 + 1 + 1, [.int .i64 0, .int .i64 0, .string ⟨#[]⟩, .slice none 0 0]), (w.heap.size + 1 + 1, [.slice none 0 0, .int .i64 0, .int .i64 0, .bool false, .bool false, .slice none 0 0]), (w.heap.size + 1, [.int .i64 3, .int .i64 gn, .string gs, .slice AA na ac]), (w.heap.size, [.slice OA on oc, .int .i64 q, .int .i64 u, .bool c, .bool d, .slice CA cn cc])]) := Lib.hid (((((Bks.nil w).new [.slice OA on oc, .int .i64 q, .int .i64 u, .bool c, .bool d, .slice CA cn cc] 43 rfl).new [.int .i64 3, .int .i64 gn, .string gs, .slice AA na ac] 26 (by simp)).new [.slice none 0 0, .int .i64 0, .int .i64 0, .bool false, .bool false, .slice none 0 0] 43 (by simp)).new [.int .i64 0, .int .i64 0, .string ⟨#[]⟩, .slice none 0 0] 26 (by simp))
  have HTV : Hid (∀ A c, tmV (.mk 3 gn gs gl) A c = .agg #[.int .i64 3, .int .i64 gn, .string gs, .slice A na c]) := Lib.hid fun A c => by rw [hna]; rfl
  rw [HTV.out] at HVT HCN HSM
  clear hTab hon hov hfv hcv hcl hcp hc0 hcn hA hg hsm hix hrun hgs hna hna8 HFK HTV
  go_enter Tryz.func30, Tryz.ntmps30
  go_wp2_with fail
  obtain ⟨W0, HW0⟩ : ∃ W0, Hid (W0 = ((((w.alloc (.cells #[.slice OA on oc, .int .i64 q, .int .i64 u, .bool c, .bool d, .slice CA cn cc] 43)).alloc (.cells #[.int .i64 3, .int .i64 gn, .string gs, .slice AA na ac] 26)).alloc (.cells #[.slice none 0 0, .int .i64 0, .int .i64 0, .bool false, .bool false, .slice none 0 0] 43)).alloc (.cells #[.int .i64 0, .int .i64 0, .string ⟨#[]⟩, .slice none 0 0] 26))) := ⟨_, Lib.hid rfl⟩
  rw [← HW0.out] at HBL0 HBK0 ⊢
  clear HW0
  rename_i K0 hK0
  have as_0 := HBK0.out.cell 3 0 rfl rfl
  have as_1 := HBK0.out.cell 3 1 rfl rfl
  have as_2 := HBK0.out.cell 3 2 rfl rfl
  have as_3 := HBK0.out.cell 3 3 rfl rfl
  have as_4 := HBK0.out.cell 3 4 rfl rfl
  have as_5 := HBK0.out.cell 3 5 rfl rfl
  have ag_0 := HBK0.out.cell 2 0 rfl rfl
  have ag_1 := HBK0.out.cell 2 1 rfl rfl
  have ag_2 := HBK0.out.cell 2 2 rfl rfl
  have ag_3 := HBK0.out.cell 2 3 rfl rfl
  have ls : w.heap.size < W0.heap.size := HBK0.out.lt 3 rfl
  have lg : w.heap.size + 1 < W0.heap.size := HBK0.out.lt 2 rfl
  refine wp_region_any (by kernel_rfl) ?_
  refine wpAny_inv (fun S a X => ∃ cv, a = (caT1 (.agg #[.slice OA on oc, .int .i64 q, .int .i64 u, .bool c, .bool d, .slice CA cn cc]) (.agg #[.int .i64 3, .int .i64 gn, .string gs, .slice AA na ac]) cv w.heap.size S) ∧ Below W0.heap.size W0 X ∧ (S 11 = true → ∃ A' c', cv = tmV (canT (.mk 3 gn gs gl)) A' c' ∧ TmsAt X.heap.size X A' (canT (.mk 3 gn gs gl)).args)) (by kernel_rfl) ?step ?fin 15 (fun _ => false) _ _ (by decide) ⟨undef, rfl, (Below.refl _ W0).drew, fun h => (by cases h)⟩
  case step =>
    rintro S j o a X ho hs hp ⟨cv, rfl, hB, hcv⟩
    have hlt : j < 15 := (Array.getElem?_eq_some_iff.1 ho).1
    rcases (show j = 0 ∨ j = 1 ∨ j = 2 ∨ j = 3 ∨ j = 4 ∨ j = 5 ∨ j = 6 ∨ j = 7 ∨ j = 8 ∨ j = 9 ∨ j = 10 ∨ j = 11 ∨ j = 12 ∨ j = 13 ∨ j = 14 by omega) with rfl | rfl | rfl | rfl | rfl | rfl | rfl | rfl | rfl | rfl | rfl | rfl | rfl | rfl | rfl
    · cases ho
      have xs0 : X.cell? ⟨w.heap.size, 0, none⟩ = some (.slice OA on oc) := (hB.cell (p := ⟨_, 0, none⟩) ls).trans as_0
      have xs1 : X.cell? ⟨w.heap.size, 1, none⟩ = some (.int .i64 q) := (hB.cell (p := ⟨_, 1, none⟩) ls).trans as_1
      have xs2 : X.cell? ⟨w.heap.size, 2, none⟩ = some (.int .i64 u) := (hB.cell (p := ⟨_, 2, none⟩) ls).trans as_2
      have xs3 : X.cell? ⟨w.heap.size, 3, none⟩ = some (.bool c) := (hB.cell (p := ⟨_, 3, none⟩) ls).trans as_3
      have xs4 : X.cell? ⟨w.heap.size, 4, none⟩ = some (.bool d) := (hB.cell (p := ⟨_, 4, none⟩) ls).trans as_4
      have xs5 : X.cell? ⟨w.heap.size, 5, none⟩ = some (.slice CA cn cc) := (hB.cell (p := ⟨_, 5, none⟩) ls).trans as_5
      rw [if_pos (show Region.wanted _ _ = true from rfl)]
      refine wp_val (v := .agg #[.slice OA on oc, .int .i64 q, .int .i64 u, .bool c, .bool d, .slice CA cn cc]) (w' := X) ?_ ⟨cv, rfl, hB, hcv⟩
      simp [execOp, go_sem, Act.eval, caT1, xs0, xs1, xs2, xs3, xs4, xs5]
    · cases ho
      have s0 : S 0 = true := hp ⟨0, .data⟩ (by simp) rfl
      rw [if_pos (show Region.wanted _ _ = true from rfl)]
      refine wp_cal ?_ (HVS.out X (HBL0.out.trans (hB.mono HBL0.out.size))) (fun v w' hR => ?_)
      · simp [execOp, go_sem, Act.eval, caT1, s0]
        try rfl
      · obtain ⟨rfl, hB'⟩ := hR
        exact ⟨_, rfl, hB.trans (hB'.mono hB.size), fun h => (by obtain ⟨A', c', e, hT⟩ := hcv h; exact ⟨A', c', e, (hT.keep hB').mono hB'.size⟩)⟩
    · cases ho
      have s1 : S 1 = true := hp ⟨1, .data⟩ (by simp) rfl
      rw [if_pos (show Region.wanted _ _ = true from rfl)]
      refine wp_val (v := .bool false) (w' := X) ?_ ⟨cv, rfl, hB, hcv⟩
      simp [execOp, go_sem, Act.eval, caT1, s1]
    · cases ho
      have s2 : S 2 = true := hp ⟨2, .data⟩ (by simp) rfl
      rw [if_pos (show Region.wanted _ _ = true from rfl)]
      refine wp_val (v := .bool false) (w' := X) ?_ ⟨cv, rfl, hB, hcv⟩
      simp [execOp, go_sem, Act.eval, caT1, s2]
    · cases ho
      have s3 : S 3 = true := hp ⟨3, .guard⟩ (by simp) rfl
      have xg0 : X.cell? ⟨w.heap.size + 1, 0, none⟩ = some (.int .i64 3) := (hB.cell (p := ⟨_, 0, none⟩) lg).trans ag_0
      have xg1 : X.cell? ⟨w.heap.size + 1, 1, none⟩ = some (.int .i64 gn) := (hB.cell (p := ⟨_, 1, none⟩) lg).trans ag_1
      have xg2 : X.cell? ⟨w.heap.size + 1, 2, none⟩ = some (.string gs) := (hB.cell (p := ⟨_, 2, none⟩) lg).trans ag_2
      have xg3 : X.cell? ⟨w.heap.size + 1, 3, none⟩ = some (.slice AA na ac) := (hB.cell (p := ⟨_, 3, none⟩) lg).trans ag_3
      rw [if_pos (show Region.wanted _ (yielded _ _) = true by simp [Region.wanted, yielded, caT1, s3])]
      refine wp_val (v := .agg #[.int .i64 3, .int .i64 gn, .string gs, .slice AA na ac]) (w' := X) ?_ ⟨cv, rfl, hB, hcv⟩
      simp [execOp, go_sem, Act.eval, caT1, xg0, xg1, xg2, xg3]
    · cases ho
      have s4 : S 4 = true := hp ⟨4, .data⟩ (by simp) rfl
      have s3 : S 3 = true := hp ⟨3, .guard⟩ (by simp) rfl
      rw [if_pos (show Region.wanted _ (yielded _ _) = true by simp [Region.wanted, yielded, caT1, s3])]
      refine wp_cal ?_ (HVT.out X (HBL0.out.trans (hB.mono HBL0.out.size))) (fun v w' hR => ?_)
      · simp [execOp, go_sem, Act.eval, caT1, s4]
        try rfl
      · obtain ⟨rfl, hB'⟩ := hR
        exact ⟨_, rfl, hB.trans (hB'.mono hB.size), fun h => (by obtain ⟨A', c', e, hT⟩ := hcv h; exact ⟨A', c', e, (hT.keep hB').mono hB'.size⟩)⟩
    · cases ho
      have s5 : S 5 = true := hp ⟨5, .data⟩ (by simp) rfl
      have s3 : S 3 = true := hp ⟨3, .guard⟩ (by simp) rfl
      rw [if_pos (show Region.wanted _ (yielded _ _) = true by simp [Region.wanted, yielded, caT1, s3])]
      refine wp_val (v := .bool false) (w' := X) ?_ ⟨cv, rfl, hB, hcv⟩
      simp [execOp, go_sem, Act.eval, caT1, s5]
    · cases ho
      have s3 : S 3 = true := hp ⟨3, .data⟩ (by simp) rfl
      have s6 : S 6 = true := hp ⟨6, .data⟩ (by simp) rfl
      rw [if_pos (show Region.wanted _ _ = true from rfl)]
      refine wp_val (v := .bool false) (w' := X) ?_ ⟨cv, rfl, hB, hcv⟩
      simp [execOp, go_sem, Act.eval, caT1, s3, s6]
    · cases ho
      have s7 : S 7 = true := hp ⟨7, .data⟩ (by simp) rfl
      rw [if_pos (show Region.wanted _ _ = true from rfl)]
      refine wp_val (v := .bool false) (w' := X) ?_ ⟨cv, rfl, hB, hcv⟩
      simp [execOp, go_sem, Act.eval, caT1, s7]
    · cases ho
      have s8 : S 8 = true := hp ⟨8, .guard⟩ (by simp) rfl
      have xg0 : X.cell? ⟨w.heap.size + 1, 0, none⟩ = some (.int .i64 3) := (hB.cell (p := ⟨_, 0, none⟩) lg).trans ag_0
      have xg1 : X.cell? ⟨w.heap.size + 1, 1, none⟩ = some (.int .i64 gn) := (hB.cell (p := ⟨_, 1, none⟩) lg).trans ag_1
      have xg2 : X.cell? ⟨w.heap.size + 1, 2, none⟩ = some (.string gs) := (hB.cell (p := ⟨_, 2, none⟩) lg).trans ag_2
      have xg3 : X.cell? ⟨w.heap.size + 1, 3, none⟩ = some (.slice AA na ac) := (hB.cell (p := ⟨_, 3, none⟩) lg).trans ag_3
      rw [if_pos (show Region.wanted _ (yielded _ _) = true by simp [Region.wanted, yielded, caT1, s8])]
      refine wp_val (v := .agg #[.int .i64 3, .int .i64 gn, .string gs, .slice AA na ac]) (w' := X) ?_ ⟨cv, rfl, hB, hcv⟩
      simp [execOp, go_sem, Act.eval, caT1, xg0, xg1, xg2, xg3]
    · cases ho
      have s8 : S 8 = true := hp ⟨8, .guard⟩ (by simp) rfl
      have xg0 : X.cell? ⟨w.heap.size + 1, 0, none⟩ = some (.int .i64 3) := (hB.cell (p := ⟨_, 0, none⟩) lg).trans ag_0
      have xg1 : X.cell? ⟨w.heap.size + 1, 1, none⟩ = some (.int .i64 gn) := (hB.cell (p := ⟨_, 1, none⟩) lg).trans ag_1
      have xg2 : X.cell? ⟨w.heap.size + 1, 2, none⟩ = some (.string gs) := (hB.cell (p := ⟨_, 2, none⟩) lg).trans ag_2
      have xg3 : X.cell? ⟨w.heap.size + 1, 3, none⟩ = some (.slice AA na ac) := (hB.cell (p := ⟨_, 3, none⟩) lg).trans ag_3
      rw [if_pos (show Region.wanted _ (yielded _ _) = true by simp [Region.wanted, yielded, caT1, s8])]
      refine wp_val (v := .agg #[.int .i64 3, .int .i64 gn, .string gs, .slice AA na ac]) (w' := X) ?_ ⟨cv, rfl, hB, hcv⟩
      simp [execOp, go_sem, Act.eval, caT1, xg0, xg1, xg2, xg3]
    · cases ho
      have s10 : S 10 = true := hp ⟨10, .data⟩ (by simp) rfl
      have s8 : S 8 = true := hp ⟨8, .guard⟩ (by simp) rfl
      rw [if_pos (show Region.wanted _ (yielded _ _) = true by simp [Region.wanted, yielded, caT1, s8])]
      refine wp_cal ?_ (HCN.out X (HBL0.out.trans (hB.mono HBL0.out.size))) (fun v w' hR => ?_)
      · simp [execOp, go_sem, Act.eval, caT1, s10]
        try rfl
      · obtain ⟨hcv', hB'⟩ := hR
        exact ⟨v, rfl, hB.trans (hB'.mono hB.size), fun _ => hcv'⟩
    · cases ho
      have s9 : S 9 = true := hp ⟨9, .data⟩ (by simp) rfl
      have s11 : S 11 = true := hp ⟨11, .data⟩ (by simp) rfl
      have s8 : S 8 = true := hp ⟨8, .guard⟩ (by simp) rfl
      obtain ⟨A1, c1, hcve, hT1⟩ := hcv s11
      subst hcve
      rw [if_pos (show Region.wanted _ (yielded _ _) = true by simp [Region.wanted, yielded, caT1, s8])]
      refine wp_cal ?_ (HSM.out X A1 c1 (HBL0.out.trans (hB.mono HBL0.out.size)) hT1) (fun v w' hR => ?_)
      · simp [execOp, go_sem, Act.eval, caT1, s9, s11]
        try rfl
      · obtain ⟨rfl, hB'⟩ := hR
        exact ⟨_, rfl, hB.trans (hB'.mono hB.size), fun h => (by obtain ⟨A', c', e, hT⟩ := hcv h; exact ⟨A', c', e, (hT.keep hB').mono hB'.size⟩)⟩
    · cases ho
      have s12 : S 12 = true := hp ⟨12, .data⟩ (by simp) rfl
      have s8 : S 8 = true := hp ⟨8, .guard⟩ (by simp) rfl
      rw [if_pos (show Region.wanted _ (yielded _ _) = true by simp [Region.wanted, yielded, caT1, s8])]
      refine wp_val (v := .bool false) (w' := X) ?_ ⟨cv, rfl, hB, hcv⟩
      simp [execOp, go_sem, Act.eval, caT1, s12]
    · cases ho
      have s8 : S 8 = true := hp ⟨8, .data⟩ (by simp) rfl
      have s13 : S 13 = true := hp ⟨13, .data⟩ (by simp) rfl
      rw [if_pos (show Region.wanted _ _ = true from rfl)]
      refine wp_val (v := .bool false) (w' := X) ?_ ⟨cv, rfl, hB, hcv⟩
      simp [execOp, go_sem, Act.eval, caT1, s8, s13]
  case fin =>
    rintro S a W1 hall ⟨cv, rfl, hB, -⟩
    have s0 := hall 0 (show 0 < 15 by omega)
    have s1 := hall 1 (show 1 < 15 by omega)
    have s2 := hall 2 (show 2 < 15 by omega)
    have s3 := hall 3 (show 3 < 15 by omega)
    have s4 := hall 4 (show 4 < 15 by omega)
    have s5 := hall 5 (show 5 < 15 by omega)
    have s6 := hall 6 (show 6 < 15 by omega)
    have s7 := hall 7 (show 7 < 15 by omega)
    have s8 := hall 8 (show 8 < 15 by omega)
    have s9 := hall 9 (show 9 < 15 by omega)
    have s10 := hall 10 (show 10 < 15 by omega)
    have s11 := hall 11 (show 11 < 15 by omega)
    have s12 := hall 12 (show 12 < 15 by omega)
    have s13 := hall 13 (show 13 < 15 by omega)
    have s14 := hall 14 (show 14 < 15 by omega)
    have HBL1 := Lib.hid (HBL0.out.trans (hB.mono HBL0.out.size))
    have HBK1 := Lib.hid (HBK0.out.keep fun x hx => hB.block x.1 (HBK0.out.bk x hx).lt)
    refine hK0 _ _ ?_
    simp only [caT1, s0, s1, s2, s3, s4, s5, s6, s7, s8, s9, s10, s11, s12, s13, s14, if_true]
    clear hall hB HBL0 HBK0 hK0 HVS HVT HCN HSM ls lg s0 s1 s2 s3 s4 s5 s6 s7 s8 s9 s10 s11 s12 s13 s14 as_0 as_1 as_2 as_3 as_4 as_5 ag_0 ag_1 ag_2 ag_3
    go_wp2_with fail
    rename_i K3 hK3
    have bg_0 := HBK1.out.cell 2 0 rfl rfl
    have bg_1 := HBK1.out.cell 2 1 rfl rfl
    have bg_2 := HBK1.out.cell 2 2 rfl rfl
    have bg_3 := HBK1.out.cell 2 3 rfl rfl
    have lg : w.heap.size + 1 < W1.heap.size := HBK1.out.lt 2 rfl
    refine wp_region_any (by kernel_rfl) ?_
    refine wpAny_inv (fun S a X => ∃ mb e, a = (ccT3 (.agg #[.slice OA on oc, .int .i64 q, .int .i64 u, .bool c, .bool d, .slice CA cn cc]) (.agg #[.int .i64 3, .int .i64 gn, .string gs, .slice AA na ac]) cv (.slice AA na ac) (.int .i64 (na : Int)) (.agg #[.string gs, .int .i64 (na : Int)]) (.agg #[.func (.func fk) #[] #[]]) gs w.heap.size S mb e) ∧ Below W1.heap.size W1 X ∧ (S 0 = true → W1.heap.size ≤ mb ∧ PredIs X mb) ∧ (S 11 = true → W1.heap.size ≤ e ∧ Bk X e (if S 12 = true then [.func (.func fk) #[] #[]] else [.nilFunc])) ∧ (S 12 = true → S 11 = true)) (by kernel_rfl) ?step ?fin 14 (fun _ => false) _ _ (by decide) ⟨0, 0, rfl, (Below.refl _ W1).drew, fun h => (by cases h), fun h => (by cases h), fun h => (by cases h)⟩
    case step =>
      rintro S j o a X ho hs hp ⟨mb, e, rfl, hB, hm, he, i12⟩
      have hlt : j < 14 := (Array.getElem?_eq_some_iff.1 ho).1
      rcases (show j = 0 ∨ j = 1 ∨ j = 2 ∨ j = 3 ∨ j = 4 ∨ j = 5 ∨ j = 6 ∨ j = 7 ∨ j = 8 ∨ j = 9 ∨ j = 10 ∨ j = 11 ∨ j = 12 ∨ j = 13 by omega) with rfl | rfl | rfl | rfl | rfl | rfl | rfl | rfl | rfl | rfl | rfl | rfl | rfl | rfl
      · cases ho
        have HPR : Calls Tryz.prog 68 #[] X fun e w' => ∃ v, e = .returned v ∧ ((∃ m, v = Value.map (some m) ∧ X.heap.size ≤ m ∧ PredIs w' m) ∧ Below X.heap.size X w') := (f_predicates X).mono fun e w' h => by
          obtain ⟨m, he, h1, h2, h3⟩ := h
          exact ⟨_, he, ⟨m, rfl, h1, h3⟩, h2⟩
        rw [if_pos (show Region.wanted _ _ = true from rfl)]
        refine wp_cal ?_ (HPR) (fun v w' hR => ?_)
        · simp [execOp, go_sem, Act.eval, ccT3]
          try rfl
        · obtain ⟨⟨m, rfl, h1, h3⟩, hB'⟩ := hR
          exact ⟨m, e, rfl, hB.trans (hB'.mono hB.size), fun _ => ⟨Nat.le_trans hB.size h1, h3⟩, fun h => ⟨(he h).1, (he h).2.call hB'⟩, i12⟩
      · cases ho
        rw [if_pos (show Region.wanted _ _ = true from rfl)]
        refine wp_val (v := .pointer (some ⟨w.heap.size + 1, 2, none⟩)) (w' := X) ?_ ⟨mb, e, rfl, hB, hm, he, i12⟩
        simp [execOp, go_sem, Act.eval, ccT3]
      · cases ho
        have s1 : S 1 = true := hp ⟨1, .data⟩ (by simp) rfl
        have xg2 : X.cell? ⟨w.heap.size + 1, 2, none⟩ = some (.string gs) := (hB.cell (p := ⟨_, 2, none⟩) lg).trans bg_2
        rw [if_pos (show Region.wanted _ _ = true from rfl)]
        refine wp_val (v := .string gs) (w' := X) ?_ ⟨mb, e, rfl, hB, hm, he, i12⟩
        simp [execOp, go_sem, Act.eval, ccT3, s1, xg2]
      · cases ho
        rw [if_pos (show Region.wanted _ _ = true from rfl)]
        refine wp_val (v := .pointer (some ⟨w.heap.size + 1, 3, none⟩)) (w' := X) ?_ ⟨mb, e, rfl, hB, hm, he, i12⟩
        simp [execOp, go_sem, Act.eval, ccT3]
      · cases ho
        have s3 : S 3 = true := hp ⟨3, .data⟩ (by simp) rfl
        have xg3 : X.cell? ⟨w.heap.size + 1, 3, none⟩ = some (.slice AA na ac) := (hB.cell (p := ⟨_, 3, none⟩) lg).trans bg_3
        rw [if_pos (show Region.wanted _ _ = true from rfl)]
        refine wp_val (v := .slice AA na ac) (w' := X) ?_ ⟨mb, e, rfl, hB, hm, he, i12⟩
        simp [execOp, go_sem, Act.eval, ccT3, s3, xg3]
      · cases ho
        have s4 : S 4 = true := hp ⟨4, .data⟩ (by simp) rfl
        rw [if_pos (show Region.wanted _ _ = true from rfl)]
        refine wp_val (v := .int .i64 (na : Int)) (w' := X) ?_ ⟨mb, e, rfl, hB, hm, he, i12⟩
        simp [execOp, go_sem, Act.eval, ccT3, s4]
      · cases ho
        have s2 : S 2 = true := hp ⟨2, .data⟩ (by simp) rfl
        have s5 : S 5 = true := hp ⟨5, .data⟩ (by simp) rfl
        rw [if_pos (show Region.wanted _ _ = true from rfl)]
        refine wp_val (v := .agg #[.string gs, .int .i64 (na : Int)]) (w' := X) ?_ ⟨mb, e, rfl, hB, hm, he, i12⟩
        simp [execOp, go_sem, Act.eval, ccT3, s2, s5]
      · cases ho
        have s0 : S 0 = true := hp ⟨0, .data⟩ (by simp) rfl
        have s6 : S 6 = true := hp ⟨6, .data⟩ (by simp) rfl
        rw [if_pos (show Region.wanted _ _ = true from rfl)]
        have hrun := HPF.out X mb (hm s0).2
        refine wp_val (v := .tuple #[.agg #[.func (.func fk) #[] #[]], .bool true]) (w' := X) ?_ ⟨mb, e, rfl, hB, hm, he, i12⟩
        rw [show (execOp (Act.eval (ccT3 (.agg #[.slice OA on oc, .int .i64 q, .int .i64 u, .bool c, .bool d, .slice CA cn cc]) (.agg #[.int .i64 3, .int .i64 gn, .string gs, .slice AA na ac]) cv (.slice AA na ac) (.int .i64 (na : Int)) (.agg #[.string gs, .int .i64 (na : Int)]) (.agg #[.func (.func fk) #[] #[]]) gs w.heap.size S mb e)) _ : Sem Next) = (Instr.lookup 94 (.map (some mb)) (.agg #[.string gs, .int .i64 (na : Int)]) true >>= fun v => pure (Next.value v)) by simp [execOp, Act.eval, ccT3, s0, s6]]
        simp [go_sem, hrun]
      · cases ho
        have s7 : S 7 = true := hp ⟨7, .data⟩ (by simp) rfl
        rw [if_pos (show Region.wanted _ _ = true from rfl)]
        refine wp_val (v := .tuple #[.agg #[.func (.func fk) #[] #[]], .bool true]) (w' := X) ?_ ⟨mb, e, rfl, hB, hm, he, i12⟩
        simp [execOp, go_sem, Act.eval, ccT3, s7]
      · cases ho
        have s8 : S 8 = true := hp ⟨8, .data⟩ (by simp) rfl
        rw [if_pos (show Region.wanted _ _ = true from rfl)]
        refine wp_val (v := .agg #[.func (.func fk) #[] #[]]) (w' := X) ?_ ⟨mb, e, rfl, hB, hm, he, i12⟩
        simp [execOp, go_sem, Act.eval, ccT3, s8]
      · cases ho
        have s8 : S 8 = true := hp ⟨8, .data⟩ (by simp) rfl
        rw [if_pos (show Region.wanted _ _ = true from rfl)]
        refine wp_val (v := .bool true) (w' := X) ?_ ⟨mb, e, rfl, hB, hm, he, i12⟩
        simp [execOp, go_sem, Act.eval, ccT3, s8]
      · cases ho
        rw [if_pos (show Region.wanted _ _ = true from rfl)]
        refine wp_val (v := .pointer (some ⟨X.heap.size, 0, none⟩)) (w' := X.alloc (.cells #[.nilFunc] 92)) ?_ ⟨mb, X.heap.size, rfl, hB.alloc hB.size _, fun h => ⟨(hm h).1, pred_keep (hm h).2 (Below.heap_alloc _ _ _ (pred_map (hm h).2).1)⟩, fun _ => ⟨hB.size, by rw [if_neg (show ¬ updF S 11 12 = true from fun h => absurd (i12 h) (by rw [hs]; simp))]; exact Bk.new X [.nilFunc] 92⟩, fun _ => rfl⟩
        simp [execOp, go_sem]
      · cases ho
        have s11 : S 11 = true := hp ⟨11, .data⟩ (by simp) rfl
        have s9 : S 9 = true := hp ⟨9, .data⟩ (by simp) rfl
        rw [if_pos (show Region.wanted _ _ = true from rfl)]
        have hk := (he s11).2
        rw [if_neg (by rw [hs]; simp)] at hk
        have z0 := hk.c 0 .nilFunc rfl
        have f0 := hk.f 0
        refine wp_skp (w' := X.setCell ⟨e, 0, none⟩ (.func (.func fk) #[] #[])) ?_ ⟨mb, e, rfl, hB.setCell (p := ⟨_, _, none⟩) (he s11).1 _, fun h => ⟨(hm h).1, pred_keep (hm h).2 (heap_setCell_other _ _ _ _ (fun e' => ?ne))⟩, fun _ => ⟨(he s11).1, by rw [if_pos (show updF S 12 12 = true from rfl)]; exact hk.set 0 _⟩, fun _ => s11⟩
        case ne =>
          obtain ⟨es, ck, hmm⟩ := (pred_map (hm h).2).2
          obtain ⟨ty, hke⟩ := hk
          have e2 : mb = e := e'
          rw [e2, hke] at hmm
          cases hmm
        simp [execOp, go_sem, Act.eval, ccT3, s11, s9, z0, f0]
      · cases ho
        have s10 : S 10 = true := hp ⟨10, .data⟩ (by simp) rfl
        rw [if_pos (show Region.wanted _ _ = true from rfl)]
        refine wp_val (v := .bool true) (w' := X) ?_ ⟨mb, e, rfl, hB, hm, he, i12⟩
        simp [execOp, go_sem, Act.eval, ccT3, s10]
    case fin =>
      rintro S a W2 hall ⟨mb, e, rfl, hB, -, he, -⟩
      have s0 := hall 0 (show 0 < 14 by omega)
      have s1 := hall 1 (show 1 < 14 by omega)
      have s2 := hall 2 (show 2 < 14 by omega)
      have s3 := hall 3 (show 3 < 14 by omega)
      have s4 := hall 4 (show 4 < 14 by omega)
      have s5 := hall 5 (show 5 < 14 by omega)
      have s6 := hall 6 (show 6 < 14 by omega)
      have s7 := hall 7 (show 7 < 14 by omega)
      have s8 := hall 8 (show 8 < 14 by omega)
      have s9 := hall 9 (show 9 < 14 by omega)
      have s10 := hall 10 (show 10 < 14 by omega)
      have s11 := hall 11 (show 11 < 14 by omega)
      have s12 := hall 12 (show 12 < 14 by omega)
      have s13 := hall 13 (show 13 < 14 by omega)
      have he0 := (he s11).2
      rw [if_pos s12] at he0
      have HE := Lib.hid he0
      have HBL2 := Lib.hid (HBL1.out.trans (hB.mono HBL1.out.size))
      have HBK2 := Lib.hid (HBK1.out.keep fun x hx => hB.block x.1 (HBK1.out.bk x hx).lt)
      refine hK3 _ _ ?_
      simp only [ccT3, s0, s1, s2, s3, s4, s5, s6, s7, s8, s9, s10, s11, s13, if_true]
      clear hall hB he he0 HBL1 HBK1 hK3 lg s0 s1 s2 s3 s4 s5 s6 s7 s8 s9 s10 s11 s12 s13 bg_0 bg_1 bg_2 bg_3
      have dg_0 := HBK2.out.cell 2 0 rfl rfl
      have dg_1 := HBK2.out.cell 2 1 rfl rfl
      have dg_2 := HBK2.out.cell 2 2 rfl rfl
      have dg_3 := HBK2.out.cell 2 3 rfl rfl
      go_wp2_with fail
      rename_i K6 hK6
      have ks_0 := HBK2.out.cell 3 0 rfl rfl
      have ks_1 := HBK2.out.cell 3 1 rfl rfl
      have ks_2 := HBK2.out.cell 3 2 rfl rfl
      have ks_3 := HBK2.out.cell 3 3 rfl rfl
      have ks_4 := HBK2.out.cell 3 4 rfl rfl
      have ks_5 := HBK2.out.cell 3 5 rfl rfl
      have ls : w.heap.size < W2.heap.size := HBK2.out.lt 3 rfl
      have HLW2 : Hid (w.heap.size + 1 + 1 + 1 < W2.heap.size) := Lib.hid (HBK2.out.lt 0 rfl)
      refine wp_region_any (by kernel_rfl) ?_
      refine wpAny_inv (fun S a X => ∃ OB oB CB cB e6, a = (ccT6 (.agg #[.slice OA on oc, .int .i64 q, .int .i64 u, .bool c, .bool d, .slice CA cn cc]) (.agg #[.int .i64 3, .int .i64 gn, .string gs, .slice AA na ac]) cv (.slice AA na ac) (.int .i64 (na : Int)) (.agg #[.string gs, .int .i64 (na : Int)]) (.agg #[.func (.func fk) #[] #[]]) (.slice OA on oc) (.agg #[.int .i64 q, .int .i64 u, .bool c, .bool d]) (.slice CA cn cc) gs w.heap.size mb e S (.slice OB on oB) (.slice CB cn cB) (.agg #[.slice OB on oB, .int .i64 q, .int .i64 u, .bool c, .bool d, .slice CB cn cB]) e6) ∧ Below W2.heap.size W2 X ∧ (S 2 = true → Tab X OB on oB l) ∧ (S 7 = true → PrI (w.heap.size + 1 + 1 + 1 + 1) X CB cn cB cl) ∧ (S 9 = true → W2.heap.size ≤ e6 ∧ Bk X e6 (if S 10 = true then [.slice OB on oB, .int .i64 q, .int .i64 u, .bool c, .bool d, .slice CB cn cB] else [.slice none 0 0, .int .i64 0, .int .i64 0, .bool false, .bool false, .slice none 0 0])) ∧ (S 10 = true → S 9 = true) ∧ (S 8 = true → S 2 = true ∧ S 7 = true) ∧ (S 10 = true → S 8 = true) ∧ (S 7 = true → S 9 = true → ∀ b o, CB = some ⟨b, o, none⟩ → b ≠ e6)) (by kernel_rfl) ?step ?fin 11 (fun _ => false) _ _ (by decide) ⟨none, 0, none, 0, 0, rfl, (Below.refl _ W2).drew, fun h => (by cases h), fun h => (by cases h), fun h => (by cases h), fun h => (by cases h), fun h => (by cases h), fun h => (by cases h), fun h => (by cases h)⟩
      case step =>
        rintro S j o a X ho hs hp ⟨OB, oB, CB, cB, e6, rfl, hB, hT, hP, h6, i10, j8, j10, nn⟩
        have hlt : j < 11 := (Array.getElem?_eq_some_iff.1 ho).1
        rcases (show j = 0 ∨ j = 1 ∨ j = 2 ∨ j = 3 ∨ j = 4 ∨ j = 5 ∨ j = 6 ∨ j = 7 ∨ j = 8 ∨ j = 9 ∨ j = 10 by omega) with rfl | rfl | rfl | rfl | rfl | rfl | rfl | rfl | rfl | rfl | rfl
        · cases ho
          rw [if_pos (show Region.wanted _ _ = true from rfl)]
          refine wp_val (v := .pointer (some ⟨w.heap.size, 0, none⟩)) (w' := X) ?_ ⟨OB, oB, CB, cB, e6, rfl, hB, hT, hP, h6, i10, j8, j10, nn⟩
          simp [execOp, go_sem, Act.eval, ccT6]
        · cases ho
          have s0 : S 0 = true := hp ⟨0, .data⟩ (by simp) rfl
          have xs0 : X.cell? ⟨w.heap.size, 0, none⟩ = some (.slice OA on oc) := (hB.cell (p := ⟨_, 0, none⟩) ls).trans ks_0
          rw [if_pos (show Region.wanted _ _ = true from rfl)]
          refine wp_val (v := .slice OA on oc) (w' := X) ?_ ⟨OB, oB, CB, cB, e6, rfl, hB, hT, hP, h6, i10, j8, j10, nn⟩
          simp [execOp, go_sem, Act.eval, ccT6, s0, xs0]
        · cases ho
          have s1 : S 1 = true := hp ⟨1, .data⟩ (by simp) rfl
          have h8 : S 8 = false := by
            cases h : S 8
            · rfl
            · exact absurd (j8 h).1 (by rw [hs]; simp)
          have h10 : S 10 = false := by
            cases h : S 10
            · rfl
            · exact absurd (j10 h) (by rw [h8]; simp)
          have ht := HTAB.out.below (HBL2.out.trans (hB.mono HBL2.out.size))
          have HCLO : Calls Tryz.prog 69 #[.slice OA on oc] X fun e w' => ∃ v, e = .returned v ∧ ((∃ OC oC, v = Value.slice OC on oC ∧ Tab w' OC on oC l) ∧ Below X.heap.size X w') := (ops_clone OA on oc l X ht.len HON.out ht.ops ht.nil).mono fun e w' h => by
            obtain ⟨A', cap', he, hb, ho⟩ := h
            exact ⟨_, he, ⟨A', cap', rfl, Tab.own ho⟩, hb⟩
          rw [if_pos (show Region.wanted _ _ = true from rfl)]
          refine wp_cal ?_ (HCLO) (fun v w' hR => ?_)
          · simp [execOp, go_sem, Act.eval, ccT6, s1]
            try rfl
          · obtain ⟨⟨OC, oC, rfl, hT'⟩, hB'⟩ := hR
            refine ⟨OC, oC, CB, cB, e6, ?_, hB.trans (hB'.mono hB.size), fun _ => hT', fun h => (hP h).below hB', fun h => ⟨(h6 h).1, ?_⟩, i10, fun h => absurd (show S 8 = true from h) (by rw [h8]; simp), j10, nn⟩
            · rw [ccT6_rv (.agg #[.slice OC on oC, .int .i64 q, .int .i64 u, .bool c, .bool d, .slice CB cn cB]) h8]; rfl
            · have hk := (h6 h).2.call hB'
              rw [if_neg (by rw [h10]; simp)] at hk
              rw [if_neg (show ¬ updF S 2 10 = true from fun hh => by rw [show updF S 2 10 = S 10 from rfl, h10] at hh; cases hh)]
              exact hk
        · cases ho
          rw [if_pos (show Region.wanted _ _ = true from rfl)]
          refine wp_val (v := .pointer (some ⟨w.heap.size, 1, none⟩)) (w' := X) ?_ ⟨OB, oB, CB, cB, e6, rfl, hB, hT, hP, h6, i10, j8, j10, nn⟩
          simp [execOp, go_sem, Act.eval, ccT6]
        · cases ho
          have s3 : S 3 = true := hp ⟨3, .data⟩ (by simp) rfl
          have xs1 : X.cell? ⟨w.heap.size, 1, none⟩ = some (.int .i64 q) := (hB.cell (p := ⟨_, 1, none⟩) ls).trans ks_1
          have xs2 : X.cell? ⟨w.heap.size, 2, none⟩ = some (.int .i64 u) := (hB.cell (p := ⟨_, 2, none⟩) ls).trans ks_2
          have xs3 : X.cell? ⟨w.heap.size, 3, none⟩ = some (.bool c) := (hB.cell (p := ⟨_, 3, none⟩) ls).trans ks_3
          have xs4 : X.cell? ⟨w.heap.size, 4, none⟩ = some (.bool d) := (hB.cell (p := ⟨_, 4, none⟩) ls).trans ks_4
          rw [if_pos (show Region.wanted _ _ = true from rfl)]
          refine wp_val (v := .agg #[.int .i64 q, .int .i64 u, .bool c, .bool d]) (w' := X) ?_ ⟨OB, oB, CB, cB, e6, rfl, hB, hT, hP, h6, i10, j8, j10, nn⟩
          simp [execOp, go_sem, Act.eval, ccT6, s3, xs1, xs2, xs3, xs4]
        · cases ho
          rw [if_pos (show Region.wanted _ _ = true from rfl)]
          refine wp_val (v := .pointer (some ⟨w.heap.size, 5, none⟩)) (w' := X) ?_ ⟨OB, oB, CB, cB, e6, rfl, hB, hT, hP, h6, i10, j8, j10, nn⟩
          simp [execOp, go_sem, Act.eval, ccT6]
        · cases ho
          have s5 : S 5 = true := hp ⟨5, .data⟩ (by simp) rfl
          have xs5 : X.cell? ⟨w.heap.size, 5, none⟩ = some (.slice CA cn cc) := (hB.cell (p := ⟨_, 5, none⟩) ls).trans ks_5
          rw [if_pos (show Region.wanted _ _ = true from rfl)]
          refine wp_val (v := .slice CA cn cc) (w' := X) ?_ ⟨OB, oB, CB, cB, e6, rfl, hB, hT, hP, h6, i10, j8, j10, nn⟩
          simp [execOp, go_sem, Act.eval, ccT6, s5, xs5]
        · cases ho
          have s6 : S 6 = true := hp ⟨6, .data⟩ (by simp) rfl
          have h8 : S 8 = false := by
            cases h : S 8
            · rfl
            · exact absurd (j8 h).2 (by rw [hs]; simp)
          have h10 : S 10 = false := by
            cases h : S 10
            · rfl
            · exact absurd (j10 h) (by rw [h8]; simp)
          have HCNV : Calls Tryz.prog 70 #[.slice CA cn cc] X fun e w' => ∃ v, e = .returned v ∧ ((∃ CD cD, v = Value.slice CD cn cD ∧ PrI X.heap.size w' CD cn cD cl) ∧ Below X.heap.size X w') := (p_clone CA cn cc cl X HCL.out HCN4.out (HCP.out.below (HBL2.out.trans (hB.mono HBL2.out.size))) HC0.out).mono fun e w' h => by
            obtain ⟨A', cap', he, hb, ho⟩ := h
            exact ⟨_, he, ⟨A', cap', rfl, ho⟩, hb⟩
          rw [if_pos (show Region.wanted _ _ = true from rfl)]
          refine wp_cal ?_ (HCNV) (fun v w' hR => ?_)
          · simp [execOp, go_sem, Act.eval, ccT6, s6]
            try rfl
          · obtain ⟨⟨CD, cD, rfl, hP'⟩, hB'⟩ := hR
            refine ⟨OB, oB, CD, cD, e6, ?_, hB.trans (hB'.mono hB.size), fun h => (hT h).below hB', fun _ => hP'.mono (by have := hB.size; have := HLW2.out; omega), fun h => ⟨(h6 h).1, ?_⟩, i10, fun h => absurd (show S 8 = true from h) (by rw [h8]; simp), j10, fun _ h9 b o eb => ?_⟩
            · rw [ccT6_rv (.agg #[.slice OB on oB, .int .i64 q, .int .i64 u, .bool c, .bool d, .slice CD cn cD]) h8]; rfl
            · have hk := (h6 h).2.call hB'
              rw [if_neg (by rw [h10]; simp)] at hk
              rw [if_neg (show ¬ updF S 7 10 = true from fun hh => by rw [show updF S 7 10 = S 10 from rfl, h10] at hh; cases hh)]
              exact hk
            · have h1 := (h6 h9).2.lt
              have h2 := (hP'.blk b o eb).1
              omega
        · cases ho
          have s2 : S 2 = true := hp ⟨2, .data⟩ (by simp) rfl
          have s4 : S 4 = true := hp ⟨4, .data⟩ (by simp) rfl
          have s7 : S 7 = true := hp ⟨7, .data⟩ (by simp) rfl
          rw [if_pos (show Region.wanted _ _ = true from rfl)]
          refine wp_val (v := .agg #[.slice OB on oB, .int .i64 q, .int .i64 u, .bool c, .bool d, .slice CB cn cB]) (w' := X) ?_ ⟨OB, oB, CB, cB, e6, rfl, hB, hT, hP, h6, i10, fun _ => ⟨s2, s7⟩, fun _ => rfl, nn⟩
          simp [execOp, go_sem, Act.eval, ccT6, s2, s4, s7]
        · cases ho
          rw [if_pos (show Region.wanted _ _ = true from rfl)]
          refine wp_val (v := .pointer (some ⟨X.heap.size, 0, none⟩)) (w' := X.alloc (.cells #[.slice none 0 0, .int .i64 0, .int .i64 0, .bool false, .bool false, .slice none 0 0] 43)) ?_ ⟨OB, oB, CB, cB, X.heap.size, rfl, hB.alloc hB.size _, fun h => (hT h).below ((Below.refl _ _).alloc (Nat.le_refl _) _), fun h => (hP h).below ((Below.refl _ _).alloc (Nat.le_refl _) _), fun _ => ⟨hB.size, by rw [if_neg (show ¬ updF S 9 10 = true from fun h => absurd (i10 h) (by rw [hs]; simp))]; exact Bk.new X [.slice none 0 0, .int .i64 0, .int .i64 0, .bool false, .bool false, .slice none 0 0] 43⟩, fun _ => rfl, j8, j10, fun h7 _ b o eb => Nat.ne_of_lt ((hP h7).blk b o eb).2⟩
          simp [execOp, go_sem]
        · cases ho
          have s9 : S 9 = true := hp ⟨9, .data⟩ (by simp) rfl
          have s8 : S 8 = true := hp ⟨8, .data⟩ (by simp) rfl
          rw [if_pos (show Region.wanted _ _ = true from rfl)]
          have hk := (h6 s9).2
          rw [if_neg (by rw [hs]; simp)] at hk
          have z0 := hk.c 0 (.slice none 0 0) rfl
          have f0 := hk.f 0
          have z1 := hk.c 1 (.int .i64 0) rfl
          have f1 := hk.f 1
          have z2 := hk.c 2 (.int .i64 0) rfl
          have f2 := hk.f 2
          have z3 := hk.c 3 (.bool false) rfl
          have f3 := hk.f 3
          have z4 := hk.c 4 (.bool false) rfl
          have f4 := hk.f 4
          have z5 := hk.c 5 (.slice none 0 0) rfl
          have f5 := hk.f 5
          refine wp_skp (w' := ((((((X.setCell ⟨e6, 0, none⟩ (.slice OB on oB)).setCell ⟨e6, 1, none⟩ (.int .i64 q)).setCell ⟨e6, 2, none⟩ (.int .i64 u)).setCell ⟨e6, 3, none⟩ (.bool c)).setCell ⟨e6, 4, none⟩ (.bool d)).setCell ⟨e6, 5, none⟩ (.slice CB cn cB))) ?_ ⟨OB, oB, CB, cB, e6, rfl, ((((((hB.setCell (p := ⟨_, _, none⟩) (h6 s9).1 _).setCell (p := ⟨_, _, none⟩) (h6 s9).1 _).setCell (p := ⟨_, _, none⟩) (h6 s9).1 _).setCell (p := ⟨_, _, none⟩) (h6 s9).1 _).setCell (p := ⟨_, _, none⟩) (h6 s9).1 _).setCell (p := ⟨_, _, none⟩) (h6 s9).1 _), fun h => tab_boxes (L := [(e6, [.slice none 0 0, .int .i64 0, .int .i64 0, .bool false, .bool false, .slice none 0 0])]) (hT h) ⟨fun x hx => by rw [List.mem_singleton.1 hx]; exact hk, by simp⟩ (fun x hx => by
            rw [List.mem_singleton.1 hx]
            intro i s x
            rcases i with _ | _ | _ | _ | _ | _ | i <;> simp) (by simp) (fun k hk => by
            have hne := hk _ (List.mem_singleton.2 rfl)
            rw [heap_setCell_other _ _ _ _ hne, heap_setCell_other _ _ _ _ hne, heap_setCell_other _ _ _ _ hne, heap_setCell_other _ _ _ _ hne, heap_setCell_other _ _ _ _ hne, heap_setCell_other _ _ _ _ hne]), fun h => (hP h).keep (by simp) (fun b o eb => by
            have hne := nn h s9 b o eb
            rw [heap_setCell_other _ _ _ _ hne, heap_setCell_other _ _ _ _ hne, heap_setCell_other _ _ _ _ hne, heap_setCell_other _ _ _ _ hne, heap_setCell_other _ _ _ _ hne, heap_setCell_other _ _ _ _ hne]), fun _ => ⟨(h6 s9).1, by rw [if_pos (show updF S 10 10 = true from rfl)]; exact ((((((hk.set 0 (.slice OB on oB)).set 1 (.int .i64 q)).set 2 (.int .i64 u)).set 3 (.bool c)).set 4 (.bool d)).set 5 (.slice CB cn cB))⟩, fun _ => s9, j8, fun _ => s8, nn⟩
          simp [execOp, go_sem, Act.eval, ccT6, s9, s8, z0, z1, z2, z3, z4, z5, f0, f1, f2, f3, f4, f5]
      case fin =>
        rintro S a W3 hall ⟨OB, oB, CB, cB, e6, rfl, hB, hT, hP, h6, -, -, -, -⟩
        have s0 := hall 0 (show 0 < 11 by omega)
        have s1 := hall 1 (show 1 < 11 by omega)
        have s2 := hall 2 (show 2 < 11 by omega)
        have s3 := hall 3 (show 3 < 11 by omega)
        have s4 := hall 4 (show 4 < 11 by omega)
        have s5 := hall 5 (show 5 < 11 by omega)
        have s6 := hall 6 (show 6 < 11 by omega)
        have s7 := hall 7 (show 7 < 11 by omega)
        have s8 := hall 8 (show 8 < 11 by omega)
        have s9 := hall 9 (show 9 < 11 by omega)
        have s10 := hall 10 (show 10 < 11 by omega)
        have he0 := (h6 s9).2
        rw [if_pos s10] at he0
        have HE6 := Lib.hid he0
        have HT3 := Lib.hid (hT s2)
        have HP3 := Lib.hid (hP s7)
        have HBL3 := Lib.hid (HBL2.out.trans (hB.mono HBL2.out.size))
        have HBK3 := Lib.hid (HBK2.out.keep fun x hx => hB.block x.1 (HBK2.out.bk x hx).lt)
        have HE3 := Lib.hid (HE.out.keeps (hB.block _ HE.out.lt))
        refine hK6 _ _ ?_
        simp only [ccT6, s0, s1, s2, s3, s4, s5, s6, s7, s8, s9, if_true]
        clear hall hB h6 hT hP he0 HE HBL2 HBK2 hK6 ls s0 s1 s2 s3 s4 s5 s6 s7 s8 s9 s10 ks_0 ks_1 ks_2 ks_3 ks_4 ks_5 dg_0 dg_1 dg_2 dg_3
        have dg_0 := HBK3.out.cell 2 0 rfl rfl
        have dg_1 := HBK3.out.cell 2 1 rfl rfl
        have dg_2 := HBK3.out.cell 2 2 rfl rfl
        have dg_3 := HBK3.out.cell 2 3 rfl rfl
        have xe0 := HE3.out.c 0 (.func (.func fk) #[] #[]) rfl
        have xv0 := HE6.out.c 0 (.slice OB on oB) rfl
        have xv1 := HE6.out.c 1 (.int .i64 q) rfl
        have xv2 := HE6.out.c 2 (.int .i64 u) rfl
        have xv3 := HE6.out.c 3 (.bool c) rfl
        have xv4 := HE6.out.c 4 (.bool d) rfl
        have xv5 := HE6.out.c 5 (.slice CB cn cB) rfl
        have HSO := Lib.hid (HRUN.out W3 OB oB CB cB HBL3.out HT3.out HP3.out (HBK3.out.lt 0 rfl))
        have HCF : Hid (∀ args W, (callFunc fk args).run Tryz.prog W = .ok (.enter fk args) W) := Lib.hid (by
          rcases HF6.out with rfl | rfl | rfl | rfl | rfl | rfl <;> (intro args W; kernel_rfl))
        all_goals
        (clear HF6 HPF HRUN HT3 HP3
         go_wp2_with fail
         rw [HCF.out, Oper.upon_enter]
         refine HSO.out.mono ?_; rintro e' w8 ⟨r, rfl, hB8, hR8⟩
         obtain ⟨oa, on1, oc1, q1, u1, c1, d1, ca1, cn1, cc1, ra, rn, rc, bk, bn, bs, ba, bz, bc, er⟩ := r
         have HL3 : Hid (w.heap.size + 1 + 1 + 1 < W3.heap.size) := Lib.hid (HBK3.out.lt 0 rfl)
         have HBL8 := Lib.hid (HBL3.out.trans (hB8.mono HBL3.out.size))
         have HBK8 := Lib.hid (HBK3.out.call hB8)
         have HR8 := Lib.hid hR8
         have HLW3 := Lib.hid HBL3.out
         have HRB := Lib.hid hB8
         clear hB8 hR8 HSO HBL3 HE3 HE6 HBK3 xe0 xv0 xv1 xv2 xv3 xv4 xv5 dg_0 dg_1 dg_2 dg_3
         unfold RV.val
         dsimp only
         have ja_0 := HBK8.out.cell 1 0 rfl rfl
         have ja_1 := HBK8.out.cell 1 1 rfl rfl
         have ja_2 := HBK8.out.cell 1 2 rfl rfl
         have ja_3 := HBK8.out.cell 1 3 rfl rfl
         have ja_4 := HBK8.out.cell 1 4 rfl rfl
         have ja_5 := HBK8.out.cell 1 5 rfl rfl
         have jc_0 := HBK8.out.cell 0 0 rfl rfl
         have jc_1 := HBK8.out.cell 0 1 rfl rfl
         have jc_2 := HBK8.out.cell 0 2 rfl rfl
         have jc_3 := HBK8.out.cell 0 3 rfl rfl
         have jaf0 := HBK8.out.fz 1 0 rfl
         have jaf1 := HBK8.out.fz 1 1 rfl
         have jaf2 := HBK8.out.fz 1 2 rfl
         have jaf3 := HBK8.out.fz 1 3 rfl
         have jaf4 := HBK8.out.fz 1 4 rfl
         have jaf5 := HBK8.out.fz 1 5 rfl
         have jcf0 := HBK8.out.fz 0 0 rfl
         have jcf1 := HBK8.out.fz 0 1 rfl
         have jcf2 := HBK8.out.fz 0 2 rfl
         have jcf3 := HBK8.out.fz 0 3 rfl
         have la := HBK8.out.lt 1 rfl
         have lc := HBK8.out.lt 0 rfl
         have hk1 : Bks _ [(w.heap.size + 1 + 1 + 1, [.int .i64 0, .int .i64 0, .string ⟨#[]⟩, .slice none 0 0]), (w.heap.size + 1 + 1, [.slice oa on1 oc1, .int .i64 q1, .int .i64 u1, .bool c1, .bool d1, .slice ca1 cn1 cc1]), (w.heap.size + 1, [.int .i64 3, .int .i64 gn, .string gs, .slice AA na ac]), (w.heap.size, [.slice OA on oc, .int .i64 q, .int .i64 u, .bool c, .bool d, .slice CA cn cc])] := HBK8.out.set6 1 rfl (.slice oa on1 oc1) (.int .i64 q1) (.int .i64 u1) (.bool c1) (.bool d1) (.slice ca1 cn1 cc1)
         have hk2 : Bks _ [(w.heap.size + 1 + 1 + 1, [.int .i64 bk, .int .i64 bn, .string bs, .slice ba bz bc]), (w.heap.size + 1 + 1, [.slice oa on1 oc1, .int .i64 q1, .int .i64 u1, .bool c1, .bool d1, .slice ca1 cn1 cc1]), (w.heap.size + 1, [.int .i64 3, .int .i64 gn, .string gs, .slice AA na ac]), (w.heap.size, [.slice OA on oc, .int .i64 q, .int .i64 u, .bool c, .bool d, .slice CA cn cc])] := hk1.set4 0 rfl (.int .i64 bk) (.int .i64 bn) (.string bs) (.slice ba bz bc)
         have hbl : Below w.heap.size w (((((((((((w8.setCell ⟨w.heap.size + 1 + 1, 0, none⟩ (.slice oa on1 oc1)).setCell ⟨w.heap.size + 1 + 1, 1, none⟩ (.int .i64 q1)).setCell ⟨w.heap.size + 1 + 1, 2, none⟩ (.int .i64 u1)).setCell ⟨w.heap.size + 1 + 1, 3, none⟩ (.bool c1)).setCell ⟨w.heap.size + 1 + 1, 4, none⟩ (.bool d1)).setCell ⟨w.heap.size + 1 + 1, 5, none⟩ (.slice ca1 cn1 cc1)).setCell ⟨w.heap.size + 1 + 1 + 1, 0, none⟩ (.int .i64 bk)).setCell ⟨w.heap.size + 1 + 1 + 1, 1, none⟩ (.int .i64 bn)).setCell ⟨w.heap.size + 1 + 1 + 1, 2, none⟩ (.string bs)).setCell ⟨w.heap.size + 1 + 1 + 1, 3, none⟩ (.slice ba bz bc))) := ((((((((((HBL8.out.setCell (p := ⟨w.heap.size + 1 + 1, _, none⟩) (show w.heap.size ≤ w.heap.size + 1 + 1 by omega) _).setCell (p := ⟨w.heap.size + 1 + 1, _, none⟩) (show w.heap.size ≤ w.heap.size + 1 + 1 by omega) _).setCell (p := ⟨w.heap.size + 1 + 1, _, none⟩) (show w.heap.size ≤ w.heap.size + 1 + 1 by omega) _).setCell (p := ⟨w.heap.size + 1 + 1, _, none⟩) (show w.heap.size ≤ w.heap.size + 1 + 1 by omega) _).setCell (p := ⟨w.heap.size + 1 + 1, _, none⟩) (show w.heap.size ≤ w.heap.size + 1 + 1 by omega) _).setCell (p := ⟨w.heap.size + 1 + 1, _, none⟩) (show w.heap.size ≤ w.heap.size + 1 + 1 by omega) _).setCell (p := ⟨w.heap.size + 1 + 1 + 1, _, none⟩) (show w.heap.size ≤ w.heap.size + 1 + 1 + 1 by omega) _).setCell (p := ⟨w.heap.size + 1 + 1 + 1, _, none⟩) (show w.heap.size ≤ w.heap.size + 1 + 1 + 1 by omega) _).setCell (p := ⟨w.heap.size + 1 + 1 + 1, _, none⟩) (show w.heap.size ≤ w.heap.size + 1 + 1 + 1 by omega) _).setCell (p := ⟨w.heap.size + 1 + 1 + 1, _, none⟩) (show w.heap.size ≤ w.heap.size + 1 + 1 + 1 by omega) _)
         have hkk : ∀ k, k ≠ w.heap.size + 1 + 1 → k ≠ w.heap.size + 1 + 1 + 1 → (((((((((((w8.setCell ⟨w.heap.size + 1 + 1, 0, none⟩ (.slice oa on1 oc1)).setCell ⟨w.heap.size + 1 + 1, 1, none⟩ (.int .i64 q1)).setCell ⟨w.heap.size + 1 + 1, 2, none⟩ (.int .i64 u1)).setCell ⟨w.heap.size + 1 + 1, 3, none⟩ (.bool c1)).setCell ⟨w.heap.size + 1 + 1, 4, none⟩ (.bool d1)).setCell ⟨w.heap.size + 1 + 1, 5, none⟩ (.slice ca1 cn1 cc1)).setCell ⟨w.heap.size + 1 + 1 + 1, 0, none⟩ (.int .i64 bk)).setCell ⟨w.heap.size + 1 + 1 + 1, 1, none⟩ (.int .i64 bn)).setCell ⟨w.heap.size + 1 + 1 + 1, 2, none⟩ (.string bs)).setCell ⟨w.heap.size + 1 + 1 + 1, 3, none⟩ (.slice ba bz bc))).heap[k]? = w8.heap[k]? := fun k k2 k3 => by
           rw [heap_setCell_other _ _ _ _ k3, heap_setCell_other _ _ _ _ k3, heap_setCell_other _ _ _ _ k3, heap_setCell_other _ _ _ _ k3, heap_setCell_other _ _ _ _ k2, heap_setCell_other _ _ _ _ k2, heap_setCell_other _ _ _ _ k2, heap_setCell_other _ _ _ _ k2, heap_setCell_other _ _ _ _ k2, heap_setCell_other _ _ _ _ k2]
         obtain ⟨wy, HWY⟩ : ∃ wy, Hid (wy = ((((((((((w8.setCell ⟨w.heap.size + 1 + 1, 0, none⟩ (.slice oa on1 oc1)).setCell ⟨w.heap.size + 1 + 1, 1, none⟩ (.int .i64 q1)).setCell ⟨w.heap.size + 1 + 1, 2, none⟩ (.int .i64 u1)).setCell ⟨w.heap.size + 1 + 1, 3, none⟩ (.bool c1)).setCell ⟨w.heap.size + 1 + 1, 4, none⟩ (.bool d1)).setCell ⟨w.heap.size + 1 + 1, 5, none⟩ (.slice ca1 cn1 cc1)).setCell ⟨w.heap.size + 1 + 1 + 1, 0, none⟩ (.int .i64 bk)).setCell ⟨w.heap.size + 1 + 1 + 1, 1, none⟩ (.int .i64 bn)).setCell ⟨w.heap.size + 1 + 1 + 1, 2, none⟩ (.string bs)).setCell ⟨w.heap.size + 1 + 1 + 1, 3, none⟩ (.slice ba bz bc))) := ⟨_, Lib.hid rfl⟩
         have hsz : wy.heap.size = w8.heap.size := by rw [HWY.out]; simp
         rw [← HWY.out] at hk2 hbl hkk
         have HBKY := Lib.hid hk2
         have HBLY := Lib.hid hbl
         have HKK := Lib.hid hkk
         have HSZ := Lib.hid hsz
         clear hk1 hk2 hbl hkk hsz
         by_cases her : er = 0
         · subst her
           have hk3 : Bks _ [(w.heap.size + 1 + 1 + 1, [.int .i64 bk, .int .i64 bn, .string bs, .slice ba bz bc]), (w.heap.size + 1 + 1, [.slice oa on1 oc1, .int .i64 q1, .int .i64 u1, .bool c1, .bool d1, .slice ca1 cn1 cc1]), (w.heap.size + 1, [.int .i64 3, .int .i64 gn, .string gs, .slice AA na ac]), (w.heap.size, [.slice OA on oc, .int .i64 q, .int .i64 u, .bool c, .bool d, .slice CA cn cc])] := HBKY.out.set6 1 rfl (.slice oa on1 oc1) (.int .i64 q1) (.int .i64 u1) (.bool c1) (.bool d1) (.slice ca1 cn1 cc1)
           have hk4 : Bks _ [(w.heap.size + 1 + 1 + 1, [.int .i64 0, .int .i64 0, .string ⟨#[]⟩, .slice none 0 0]), (w.heap.size + 1 + 1, [.slice oa on1 oc1, .int .i64 q1, .int .i64 u1, .bool c1, .bool d1, .slice ca1 cn1 cc1]), (w.heap.size + 1, [.int .i64 3, .int .i64 gn, .string gs, .slice AA na ac]), (w.heap.size, [.slice OA on oc, .int .i64 q, .int .i64 u, .bool c, .bool d, .slice CA cn cc])] := hk3.set4 0 rfl (.int .i64 0) (.int .i64 0) (.string ⟨#[]⟩) (.slice none 0 0)
           have hbz : Below w.heap.size w (((((((((((wy.setCell ⟨w.heap.size + 1 + 1, 0, none⟩ (.slice oa on1 oc1)).setCell ⟨w.heap.size + 1 + 1, 1, none⟩ (.int .i64 q1)).setCell ⟨w.heap.size + 1 + 1, 2, none⟩ (.int .i64 u1)).setCell ⟨w.heap.size + 1 + 1, 3, none⟩ (.bool c1)).setCell ⟨w.heap.size + 1 + 1, 4, none⟩ (.bool d1)).setCell ⟨w.heap.size + 1 + 1, 5, none⟩ (.slice ca1 cn1 cc1)).setCell ⟨w.heap.size + 1 + 1 + 1, 0, none⟩ (.int .i64 0)).setCell ⟨w.heap.size + 1 + 1 + 1, 1, none⟩ (.int .i64 0)).setCell ⟨w.heap.size + 1 + 1 + 1, 2, none⟩ (.string ⟨#[]⟩)).setCell ⟨w.heap.size + 1 + 1 + 1, 3, none⟩ (.slice none 0 0))) := ((((((((((HBLY.out.setCell (p := ⟨w.heap.size + 1 + 1, _, none⟩) (show w.heap.size ≤ w.heap.size + 1 + 1 by omega) _).setCell (p := ⟨w.heap.size + 1 + 1, _, none⟩) (show w.heap.size ≤ w.heap.size + 1 + 1 by omega) _).setCell (p := ⟨w.heap.size + 1 + 1, _, none⟩) (show w.heap.size ≤ w.heap.size + 1 + 1 by omega) _).setCell (p := ⟨w.heap.size + 1 + 1, _, none⟩) (show w.heap.size ≤ w.heap.size + 1 + 1 by omega) _).setCell (p := ⟨w.heap.size + 1 + 1, _, none⟩) (show w.heap.size ≤ w.heap.size + 1 + 1 by omega) _).setCell (p := ⟨w.heap.size + 1 + 1, _, none⟩) (show w.heap.size ≤ w.heap.size + 1 + 1 by omega) _).setCell (p := ⟨w.heap.size + 1 + 1 + 1, _, none⟩) (show w.heap.size ≤ w.heap.size + 1 + 1 + 1 by omega) _).setCell (p := ⟨w.heap.size + 1 + 1 + 1, _, none⟩) (show w.heap.size ≤ w.heap.size + 1 + 1 + 1 by omega) _).setCell (p := ⟨w.heap.size + 1 + 1 + 1, _, none⟩) (show w.heap.size ≤ w.heap.size + 1 + 1 + 1 by omega) _).setCell (p := ⟨w.heap.size + 1 + 1 + 1, _, none⟩) (show w.heap.size ≤ w.heap.size + 1 + 1 + 1 by omega) _)
           have hkz : ∀ k, k ≠ w.heap.size + 1 + 1 → k ≠ w.heap.size + 1 + 1 + 1 → (((((((((((wy.setCell ⟨w.heap.size + 1 + 1, 0, none⟩ (.slice oa on1 oc1)).setCell ⟨w.heap.size + 1 + 1, 1, none⟩ (.int .i64 q1)).setCell ⟨w.heap.size + 1 + 1, 2, none⟩ (.int .i64 u1)).setCell ⟨w.heap.size + 1 + 1, 3, none⟩ (.bool c1)).setCell ⟨w.heap.size + 1 + 1, 4, none⟩ (.bool d1)).setCell ⟨w.heap.size + 1 + 1, 5, none⟩ (.slice ca1 cn1 cc1)).setCell ⟨w.heap.size + 1 + 1 + 1, 0, none⟩ (.int .i64 0)).setCell ⟨w.heap.size + 1 + 1 + 1, 1, none⟩ (.int .i64 0)).setCell ⟨w.heap.size + 1 + 1 + 1, 2, none⟩ (.string ⟨#[]⟩)).setCell ⟨w.heap.size + 1 + 1 + 1, 3, none⟩ (.slice none 0 0))).heap[k]? = w8.heap[k]? := fun k k2 k3 => by
             rw [heap_setCell_other _ _ _ _ k3, heap_setCell_other _ _ _ _ k3, heap_setCell_other _ _ _ _ k3, heap_setCell_other _ _ _ _ k3, heap_setCell_other _ _ _ _ k2, heap_setCell_other _ _ _ _ k2, heap_setCell_other _ _ _ _ k2, heap_setCell_other _ _ _ _ k2, heap_setCell_other _ _ _ _ k2, heap_setCell_other _ _ _ _ k2]; exact HKK.out k k2 k3
           have hsz : (((((((((((wy.setCell ⟨w.heap.size + 1 + 1, 0, none⟩ (.slice oa on1 oc1)).setCell ⟨w.heap.size + 1 + 1, 1, none⟩ (.int .i64 q1)).setCell ⟨w.heap.size + 1 + 1, 2, none⟩ (.int .i64 u1)).setCell ⟨w.heap.size + 1 + 1, 3, none⟩ (.bool c1)).setCell ⟨w.heap.size + 1 + 1, 4, none⟩ (.bool d1)).setCell ⟨w.heap.size + 1 + 1, 5, none⟩ (.slice ca1 cn1 cc1)).setCell ⟨w.heap.size + 1 + 1 + 1, 0, none⟩ (.int .i64 0)).setCell ⟨w.heap.size + 1 + 1 + 1, 1, none⟩ (.int .i64 0)).setCell ⟨w.heap.size + 1 + 1 + 1, 2, none⟩ (.string ⟨#[]⟩)).setCell ⟨w.heap.size + 1 + 1 + 1, 3, none⟩ (.slice none 0 0))).heap.size = w8.heap.size := by simp [HSZ.out]
           obtain ⟨wz, HWZ⟩ : ∃ wz, Hid (wz = ((((((((((wy.setCell ⟨w.heap.size + 1 + 1, 0, none⟩ (.slice oa on1 oc1)).setCell ⟨w.heap.size + 1 + 1, 1, none⟩ (.int .i64 q1)).setCell ⟨w.heap.size + 1 + 1, 2, none⟩ (.int .i64 u1)).setCell ⟨w.heap.size + 1 + 1, 3, none⟩ (.bool c1)).setCell ⟨w.heap.size + 1 + 1, 4, none⟩ (.bool d1)).setCell ⟨w.heap.size + 1 + 1, 5, none⟩ (.slice ca1 cn1 cc1)).setCell ⟨w.heap.size + 1 + 1 + 1, 0, none⟩ (.int .i64 0)).setCell ⟨w.heap.size + 1 + 1 + 1, 1, none⟩ (.int .i64 0)).setCell ⟨w.heap.size + 1 + 1 + 1, 2, none⟩ (.string ⟨#[]⟩)).setCell ⟨w.heap.size + 1 + 1 + 1, 3, none⟩ (.slice none 0 0))) := ⟨_, Lib.hid rfl⟩
           rw [← HWZ.out] at hk4 hbz hkz hsz
           have HBKZ := Lib.hid hk4
           have HTN : Hid (Turn w W3 w8 wz) := Lib.hid ⟨HLW3.out, HRB.out, HL3.out, hsz, hkz, HBK8.out.tk 2⟩
           have HBZ := Lib.hid hbz
           clear hk3 hk4 hbz hkz hsz
           have ya_0 := HBKY.out.cell 1 0 rfl rfl
           have ya_1 := HBKY.out.cell 1 1 rfl rfl
           have ya_2 := HBKY.out.cell 1 2 rfl rfl
           have ya_3 := HBKY.out.cell 1 3 rfl rfl
           have ya_4 := HBKY.out.cell 1 4 rfl rfl
           have ya_5 := HBKY.out.cell 1 5 rfl rfl
           have yc_0 := HBKY.out.cell 0 0 rfl rfl
           have yc_1 := HBKY.out.cell 0 1 rfl rfl
           have yc_2 := HBKY.out.cell 0 2 rfl rfl
           have yc_3 := HBKY.out.cell 0 3 rfl rfl
           have yaf0 := HBKY.out.fz 1 0 rfl
           have yaf1 := HBKY.out.fz 1 1 rfl
           have yaf2 := HBKY.out.fz 1 2 rfl
           have yaf3 := HBKY.out.fz 1 3 rfl
           have yaf4 := HBKY.out.fz 1 4 rfl
           have yaf5 := HBKY.out.fz 1 5 rfl
           have ycf0 := HBKY.out.fz 0 0 rfl
           have ycf1 := HBKY.out.fz 0 1 rfl
           have ycf2 := HBKY.out.fz 0 2 rfl
           have ycf3 := HBKY.out.fz 0 3 rfl
           have lya := HBKY.out.lt 1 rfl
           have lyc := HBKY.out.lt 0 rfl
           go_wp2_with fail
           rw [← HWY.out]
           go_wp2_with fail
           rw [← HWZ.out]
           have ma_0 := HBKZ.out.cell 1 0 rfl rfl
           have ma_1 := HBKZ.out.cell 1 1 rfl rfl
           have ma_2 := HBKZ.out.cell 1 2 rfl rfl
           have ma_3 := HBKZ.out.cell 1 3 rfl rfl
           have ma_4 := HBKZ.out.cell 1 4 rfl rfl
           have ma_5 := HBKZ.out.cell 1 5 rfl rfl
           have mc_0 := HBKZ.out.cell 0 0 rfl rfl
           have mc_1 := HBKZ.out.cell 0 1 rfl rfl
           have mc_2 := HBKZ.out.cell 0 2 rfl rfl
           have mc_3 := HBKZ.out.cell 0 3 rfl rfl
           exact bodyPost_ret (v := .tuple #[.agg #[.slice oa on1 oc1, .int .i64 q1, .int .i64 u1, .bool c1, .bool d1, .slice ca1 cn1 cc1], .slice ra rn rc, .agg #[.int .i64 0, .int .i64 0, .string ⟨#[]⟩, .slice none 0 0], .int .i64 0]) (by simp [results, Tryz.results30, go_sem, ma_0, ma_1, ma_2, ma_3, ma_4, ma_5, mc_0, mc_1, mc_2, mc_3]) rfl ⟨⟨oa, on1, oc1, q1, u1, c1, d1, ca1, cn1, cc1, ra, rn, rc, bk, bn, bs, ba, bz, bc, 0⟩, W3, w8, rfl, HBZ.out, HTN.out, HR8.out⟩
         · have hk3 : Bks _ [(w.heap.size + 1 + 1 + 1, [.int .i64 bk, .int .i64 bn, .string bs, .slice ba bz bc]), (w.heap.size + 1 + 1, [.slice none 0 0, .int .i64 0, .int .i64 0, .bool false, .bool false, .slice none 0 0]), (w.heap.size + 1, [.int .i64 3, .int .i64 gn, .string gs, .slice AA na ac]), (w.heap.size, [.slice OA on oc, .int .i64 q, .int .i64 u, .bool c, .bool d, .slice CA cn cc])] := HBKY.out.set6 1 rfl (.slice none 0 0) (.int .i64 0) (.int .i64 0) (.bool false) (.bool false) (.slice none 0 0)
           have hk4 : Bks _ [(w.heap.size + 1 + 1 + 1, [.int .i64 bk, .int .i64 bn, .string bs, .slice ba bz bc]), (w.heap.size + 1 + 1, [.slice none 0 0, .int .i64 0, .int .i64 0, .bool false, .bool false, .slice none 0 0]), (w.heap.size + 1, [.int .i64 3, .int .i64 gn, .string gs, .slice AA na ac]), (w.heap.size, [.slice OA on oc, .int .i64 q, .int .i64 u, .bool c, .bool d, .slice CA cn cc])] := hk3.set4 0 rfl (.int .i64 bk) (.int .i64 bn) (.string bs) (.slice ba bz bc)
           have hbz : Below w.heap.size w (((((((((((wy.setCell ⟨w.heap.size + 1 + 1, 0, none⟩ (.slice none 0 0)).setCell ⟨w.heap.size + 1 + 1, 1, none⟩ (.int .i64 0)).setCell ⟨w.heap.size + 1 + 1, 2, none⟩ (.int .i64 0)).setCell ⟨w.heap.size + 1 + 1, 3, none⟩ (.bool false)).setCell ⟨w.heap.size + 1 + 1, 4, none⟩ (.bool false)).setCell ⟨w.heap.size + 1 + 1, 5, none⟩ (.slice none 0 0)).setCell ⟨w.heap.size + 1 + 1 + 1, 0, none⟩ (.int .i64 bk)).setCell ⟨w.heap.size + 1 + 1 + 1, 1, none⟩ (.int .i64 bn)).setCell ⟨w.heap.size + 1 + 1 + 1, 2, none⟩ (.string bs)).setCell ⟨w.heap.size + 1 + 1 + 1, 3, none⟩ (.slice ba bz bc))) := ((((((((((HBLY.out.setCell (p := ⟨w.heap.size + 1 + 1, _, none⟩) (show w.heap.size ≤ w.heap.size + 1 + 1 by omega) _).setCell (p := ⟨w.heap.size + 1 + 1, _, none⟩) (show w.heap.size ≤ w.heap.size + 1 + 1 by omega) _).setCell (p := ⟨w.heap.size + 1 + 1, _, none⟩) (show w.heap.size ≤ w.heap.size + 1 + 1 by omega) _).setCell (p := ⟨w.heap.size + 1 + 1, _, none⟩) (show w.heap.size ≤ w.heap.size + 1 + 1 by omega) _).setCell (p := ⟨w.heap.size + 1 + 1, _, none⟩) (show w.heap.size ≤ w.heap.size + 1 + 1 by omega) _).setCell (p := ⟨w.heap.size + 1 + 1, _, none⟩) (show w.heap.size ≤ w.heap.size + 1 + 1 by omega) _).setCell (p := ⟨w.heap.size + 1 + 1 + 1, _, none⟩) (show w.heap.size ≤ w.heap.size + 1 + 1 + 1 by omega) _).setCell (p := ⟨w.heap.size + 1 + 1 + 1, _, none⟩) (show w.heap.size ≤ w.heap.size + 1 + 1 + 1 by omega) _).setCell (p := ⟨w.heap.size + 1 + 1 + 1, _, none⟩) (show w.heap.size ≤ w.heap.size + 1 + 1 + 1 by omega) _).setCell (p := ⟨w.heap.size + 1 + 1 + 1, _, none⟩) (show w.heap.size ≤ w.heap.size + 1 + 1 + 1 by omega) _)
           have hkz : ∀ k, k ≠ w.heap.size + 1 + 1 → k ≠ w.heap.size + 1 + 1 + 1 → (((((((((((wy.setCell ⟨w.heap.size + 1 + 1, 0, none⟩ (.slice none 0 0)).setCell ⟨w.heap.size + 1 + 1, 1, none⟩ (.int .i64 0)).setCell ⟨w.heap.size + 1 + 1, 2, none⟩ (.int .i64 0)).setCell ⟨w.heap.size + 1 + 1, 3, none⟩ (.bool false)).setCell ⟨w.heap.size + 1 + 1, 4, none⟩ (.bool false)).setCell ⟨w.heap.size + 1 + 1, 5, none⟩ (.slice none 0 0)).setCell ⟨w.heap.size + 1 + 1 + 1, 0, none⟩ (.int .i64 bk)).setCell ⟨w.heap.size + 1 + 1 + 1, 1, none⟩ (.int .i64 bn)).setCell ⟨w.heap.size + 1 + 1 + 1, 2, none⟩ (.string bs)).setCell ⟨w.heap.size + 1 + 1 + 1, 3, none⟩ (.slice ba bz bc))).heap[k]? = w8.heap[k]? := fun k k2 k3 => by
             rw [heap_setCell_other _ _ _ _ k3, heap_setCell_other _ _ _ _ k3, heap_setCell_other _ _ _ _ k3, heap_setCell_other _ _ _ _ k3, heap_setCell_other _ _ _ _ k2, heap_setCell_other _ _ _ _ k2, heap_setCell_other _ _ _ _ k2, heap_setCell_other _ _ _ _ k2, heap_setCell_other _ _ _ _ k2, heap_setCell_other _ _ _ _ k2]; exact HKK.out k k2 k3
           have hsz : (((((((((((wy.setCell ⟨w.heap.size + 1 + 1, 0, none⟩ (.slice none 0 0)).setCell ⟨w.heap.size + 1 + 1, 1, none⟩ (.int .i64 0)).setCell ⟨w.heap.size + 1 + 1, 2, none⟩ (.int .i64 0)).setCell ⟨w.heap.size + 1 + 1, 3, none⟩ (.bool false)).setCell ⟨w.heap.size + 1 + 1, 4, none⟩ (.bool false)).setCell ⟨w.heap.size + 1 + 1, 5, none⟩ (.slice none 0 0)).setCell ⟨w.heap.size + 1 + 1 + 1, 0, none⟩ (.int .i64 bk)).setCell ⟨w.heap.size + 1 + 1 + 1, 1, none⟩ (.int .i64 bn)).setCell ⟨w.heap.size + 1 + 1 + 1, 2, none⟩ (.string bs)).setCell ⟨w.heap.size + 1 + 1 + 1, 3, none⟩ (.slice ba bz bc))).heap.size = w8.heap.size := by simp [HSZ.out]
           obtain ⟨wz, HWZ⟩ : ∃ wz, Hid (wz = (((((((((((wy.setCell ⟨w.heap.size + 1 + 1, 0, none⟩ (.slice none 0 0)).setCell ⟨w.heap.size + 1 + 1, 1, none⟩ (.int .i64 0)).setCell ⟨w.heap.size + 1 + 1, 2, none⟩ (.int .i64 0)).setCell ⟨w.heap.size + 1 + 1, 3, none⟩ (.bool false)).setCell ⟨w.heap.size + 1 + 1, 4, none⟩ (.bool false)).setCell ⟨w.heap.size + 1 + 1, 5, none⟩ (.slice none 0 0)).setCell ⟨w.heap.size + 1 + 1 + 1, 0, none⟩ (.int .i64 bk)).setCell ⟨w.heap.size + 1 + 1 + 1, 1, none⟩ (.int .i64 bn)).setCell ⟨w.heap.size + 1 + 1 + 1, 2, none⟩ (.string bs)).setCell ⟨w.heap.size + 1 + 1 + 1, 3, none⟩ (.slice ba bz bc))).drew) := ⟨_, Lib.hid rfl⟩
           have hdh : ∀ X : World, X.drew.heap = X.heap := fun _ => rfl
           have HBKZ : Hid (Bks wz [(w.heap.size + 1 + 1 + 1, [.int .i64 bk, .int .i64 bn, .string bs, .slice ba bz bc]), (w.heap.size + 1 + 1, [.slice none 0 0, .int .i64 0, .int .i64 0, .bool false, .bool false, .slice none 0 0]), (w.heap.size + 1, [.int .i64 3, .int .i64 gn, .string gs, .slice AA na ac]), (w.heap.size, [.slice OA on oc, .int .i64 q, .int .i64 u, .bool c, .bool d, .slice CA cn cc])]) := Lib.hid (by rw [HWZ.out]; exact hk4.dr)
           have HTN : Hid (Turn w W3 w8 wz) := Lib.hid ⟨HLW3.out, HRB.out, HL3.out, by rw [HWZ.out, hdh]; exact hsz, fun k k2 k3 => by rw [HWZ.out, hdh]; exact hkz k k2 k3, HBK8.out.tk 2⟩
           have HBZ : Hid (Below w.heap.size w wz) := Lib.hid (by rw [HWZ.out]; exact hbz.drew)
           clear hk3 hk4 hbz hkz hsz hdh
           have ya_0 := HBKY.out.cell 1 0 rfl rfl
           have ya_1 := HBKY.out.cell 1 1 rfl rfl
           have ya_2 := HBKY.out.cell 1 2 rfl rfl
           have ya_3 := HBKY.out.cell 1 3 rfl rfl
           have ya_4 := HBKY.out.cell 1 4 rfl rfl
           have ya_5 := HBKY.out.cell 1 5 rfl rfl
           have yc_0 := HBKY.out.cell 0 0 rfl rfl
           have yc_1 := HBKY.out.cell 0 1 rfl rfl
           have yc_2 := HBKY.out.cell 0 2 rfl rfl
           have yc_3 := HBKY.out.cell 0 3 rfl rfl
           have yaf0 := HBKY.out.fz 1 0 rfl
           have yaf1 := HBKY.out.fz 1 1 rfl
           have yaf2 := HBKY.out.fz 1 2 rfl
           have yaf3 := HBKY.out.fz 1 3 rfl
           have yaf4 := HBKY.out.fz 1 4 rfl
           have yaf5 := HBKY.out.fz 1 5 rfl
           have ycf0 := HBKY.out.fz 0 0 rfl
           have ycf1 := HBKY.out.fz 0 1 rfl
           have ycf2 := HBKY.out.fz 0 2 rfl
           have ycf3 := HBKY.out.fz 0 3 rfl
           have lya := HBKY.out.lt 1 rfl
           have lyc := HBKY.out.lt 0 rfl
           go_wp2_with fail
           rw [← HWY.out]
           go_wp2_with go_region
           rw [← HWZ.out]
           have ma_0 := HBKZ.out.cell 1 0 rfl rfl
           have ma_1 := HBKZ.out.cell 1 1 rfl rfl
           have ma_2 := HBKZ.out.cell 1 2 rfl rfl
           have ma_3 := HBKZ.out.cell 1 3 rfl rfl
           have ma_4 := HBKZ.out.cell 1 4 rfl rfl
           have ma_5 := HBKZ.out.cell 1 5 rfl rfl
           have mc_0 := HBKZ.out.cell 0 0 rfl rfl
           have mc_1 := HBKZ.out.cell 0 1 rfl rfl
           have mc_2 := HBKZ.out.cell 0 2 rfl rfl
           have mc_3 := HBKZ.out.cell 0 3 rfl rfl
           exact bodyPost_ret (v := .tuple #[.agg #[.slice none 0 0, .int .i64 0, .int .i64 0, .bool false, .bool false, .slice none 0 0], .slice none 0 0, .agg #[.int .i64 bk, .int .i64 bn, .string bs, .slice ba bz bc], .int .i64 er]) (by simp [results, Tryz.results30, go_sem, ma_0, ma_1, ma_2, ma_3, ma_4, ma_5, mc_0, mc_1, mc_2, mc_3]) rfl ⟨⟨oa, on1, oc1, q1, u1, c1, d1, ca1, cn1, cc1, ra, rn, rc, bk, bn, bs, ba, bz, bc, er⟩, W3, w8, by dsimp only; rw [if_neg her]; rfl, HBZ.out, HTN.out, HR8.out⟩)
end Go.Proofs.YtfkhcpeahdkafaaGreat
