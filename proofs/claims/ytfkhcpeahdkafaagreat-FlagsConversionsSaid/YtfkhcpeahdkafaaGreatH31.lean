/- Flags: what the predicates answer, in plain words; char_conversion. -/
import Derived.Test.YtfkhcpeahdkafaaGreatH30
import Derived.Test.YtfkhcpeahdkafaaGreatH23
import Derived.Test.YtfkhcpeahdkafaaGreatH20
namespace Hb
open Go Go.RowKit
structure SyP where
 ops : List OpR
 fl : FlR
 cv : List (Int × Int)
inductive CR where
 | ok (s : SyP) (l : List Tm)
 | ball (b : Tm)
 | err (n : Int)
def RIs (B : Nat) (w w' : World) (r : RV) : CR → Prop
 | .ok s l => r.er = 0 ∧ Tab w' r.oa r.on r.oc s.ops ∧ (⟨r.q, r.u, r.c, r.d⟩ : FlR) = s.fl ∧ PrI B w' r.ca r.cn r.cc s.cv ∧ r.rn = l.length ∧ NewT w w' r.ra l
 | .ball b => r.er = 8 ∧ b.kind = r.bk ∧ b.num = r.bn ∧ b.name = r.bs ∧ b.args.length = r.bz ∧ NewT w w' r.ba b.args
 | .err n => r.er = n ∧ n ≠ 0 ∧ n ≠ 8 ∧ r.bk = 0 ∧ r.bn = 0 ∧ r.bs = ⟨#[]⟩ ∧ r.bz = 0
def typeT (k : ByteArray) (c : Tm) : Tm := aboutT ⟨#[116, 121, 112, 101, 95, 101, 114, 114, 111, 114]⟩ [k] c
def chOf (s : ByteArray) : Int := bAt s.data.toList 0
theorem chOf_one (x : UInt8) : chOf ⟨#[x]⟩ = x.toNat := rfl
theorem ba_one {s : ByteArray} (h : s.size = 1) : ∃ x : UInt8, s = ⟨#[x]⟩ := by
 obtain ⟨a⟩ := s
 have h1 : a.size = 1 := h
 obtain ⟨l⟩ := a
 match l, h1 with
 | [x], _ => exact ⟨x, rfl⟩
theorem isCharT_one {t : Tm} (h : isCharT t = true) : t.kind = 2 ∧ ∃ x : UInt8, t.name = ⟨#[x]⟩ := by
 unfold isCharT at h
 rw [Bool.and_eq_true, beq_iff_eq] at h
 refine ⟨?_, ba_one h.2⟩
 have h1 := h.1
 unfold isAtomT at h1
 simpa using h1
def setConvC (s : SyP) (p t g : Tm) : CR :=
 if anyVar [p, t] = true then .ball instT
 else if isCharT p = false then .ball (typeT ⟨#[99, 104, 97, 114, 97, 99, 116, 101, 114]⟩ p)
 else if isCharT t = false then .ball (typeT ⟨#[99, 104, 97, 114, 97, 99, 116, 101, 114]⟩ t)
 else .ok ⟨s.ops, s.fl, cset s.cv (chOf p.name) (chOf t.name)⟩ [g]
def siT (sv av gv cv : Value) (b off g : Nat) (x y : UInt8) (S : Nat → Bool) (rv u7 u9 u11 u26 u27 u28 u29 u30 u31 u32 u33 u34 u35 u36 u37 u38 : Value) : Act := ⟨#[sv, av, gv, .pointer (some ⟨g, 0, none⟩), undef, .pointer (some ⟨g + 1, 0, none⟩), .pointer (some ⟨g + 1 + 1, 0, none⟩), u7, .pointer (some ⟨g + 1 + 1 + 1, 0, none⟩), u9, undef, u11, if S 18 = true then rv else undef, if S 19 = true then .int .i64 0 else undef, av, .bool false, undef, undef, undef, undef, undef, undef, av, .int .i64 2, .int .i64 ((2 : Nat) : Int), .bool false, u26, u27, u28, u29, u30, u31, u32, u33, u34, u35, u36, u37, u38, if S 15 = true then .tuple #[rv, .int .i64 0] else undef, if S 0 = true then .pointer (some ⟨g, 5, none⟩) else undef, if S 1 = true then cv else undef, if S 2 = true then av else undef, if S 3 = true then .pointer (some ⟨b, off, none⟩) else undef, if S 4 = true then .pointer (some ⟨b, off + 2, none⟩) else undef, if S 5 = true then .string ⟨#[x]⟩ else undef, if S 6 = true then .int .u8 (x.toNat : Int) else undef, if S 7 = true then .int .i64 (x.toNat : Int) else undef, if S 8 = true then av else undef, if S 9 = true then .pointer (some ⟨b, off + 4, none⟩) else undef, if S 10 = true then .pointer (some ⟨b, off + 4 + 2, none⟩) else undef, if S 11 = true then .string ⟨#[y]⟩ else undef, if S 12 = true then .int .u8 (y.toNat : Int) else undef, if S 13 = true then .int .i64 (y.toNat : Int) else undef, if S 14 = true then .tuple #[rv, .int .i64 0] else undef, if S 16 = true then rv else undef, if S 17 = true then .int .i64 0 else undef, undef, undef, undef, undef, undef, undef, undef, undef, undef, undef, undef, undef, undef, undef], []⟩
theorem siT_rv {sv av gv cv : Value} {b off g : Nat} {x y : UInt8} {S : Nat → Bool} {rv u7 u9 u11 u26 u27 u28 u29 u30 u31 u32 u33 u34 u35 u36 u37 u38 : Value} (rv' : Value) (h14 : S 14 = false) (h : S 15 = false ∧ S 16 = false ∧ S 17 = false ∧ S 18 = false ∧ S 19 = false) : siT sv av gv cv b off g x y S rv u7 u9 u11 u26 u27 u28 u29 u30 u31 u32 u33 u34 u35 u36 u37 u38 = siT sv av gv cv b off g x y S rv' u7 u9 u11 u26 u27 u28 u29 u30 u31 u32 u33 u34 u35 u36 u37 u38 := by
 unfold siT
 simp [h14, h.1, h.2.1, h.2.2.1, h.2.2.2.1, h.2.2.2.2]
end Hb
namespace Go.Proofs.YtfkhcpeahdkafaaGreat
open Go.RowKit Hb
set_option maxRecDepth 100000
set_option maxHeartbeats 6400000 in
theorem f_setConv_n (BB : Nat) (OA : Option Addr) (on oc : Nat) (q u : Int) (c d : Bool) (CA : Option Addr) (cn cc : Nat) (gk gn : Int) (gs : ByteArray) (AA : Option Addr) (ac : Nat) (p t : Tm) (l : List OpR) (cl : List (Int × Int)) (w : World)
  (hBB : BB ≤ w.heap.size) (hTab : Tab w OA on oc l) (hC : PrI BB w CA cn cc cl) (hcv : pvalid cl = true) (hA : TmsAt w.heap.size w AA [p, t]) (hg : validT (.mk gk gn gs [p, t]) = true) (huv : anyVar [p, t] = false) :
  Calls Tryz.prog 115 #[.agg #[.slice OA on oc, .int .i64 q, .int .i64 u, .bool c, .bool d, .slice CA cn cc], .slice AA 2 ac, .agg #[.int .i64 gk, .int .i64 gn, .string gs, .slice AA 2 ac]] w fun e w' => ∃ r : RV, e = .returned r.val ∧ Below w.heap.size w w' ∧ RIs BB w w' r (setConvC ⟨l, ⟨q, u, c, d⟩, cl⟩ p t (.mk gk gn gs [p, t])) := by
 obtain ⟨R, HR⟩ : ∃ R, Hid (R = setConvC ⟨l, ⟨q, u, c, d⟩, cl⟩ p t (.mk gk gn gs [p, t])) := ⟨_, Lib.hid rfl⟩
 obtain ⟨bp, HBP⟩ : ∃ b, Hid (b = isCharT p) := ⟨_, Lib.hid rfl⟩
 obtain ⟨bt, HBT⟩ : ∃ b, Hid (b = isCharT t) := ⟨_, Lib.hid rfl⟩
 obtain ⟨ib, HIB⟩ : ∃ ib, Hid (ib = typeT ⟨#[99, 104, 97, 114, 97, 99, 116, 101, 114]⟩ p) := ⟨_, Lib.hid rfl⟩
 obtain ⟨jb, HJB⟩ : ∃ ib, Hid (ib = typeT ⟨#[99, 104, 97, 114, 97, 99, 116, 101, 114]⟩ t) := ⟨_, Lib.hid rfl⟩
 have HR1 : Hid (bp = false → R = .ball ib) := Lib.hid fun h => by
  rw [HR.out, HIB.out]; unfold setConvC
  rw [if_neg (by rw [huv]; decide), if_pos (by rw [← HBP.out, h])]
 have HR2 : Hid (bp = true → bt = false → R = .ball jb) := Lib.hid fun h h2 => by
  rw [HR.out, HJB.out]; unfold setConvC
  rw [if_neg (by rw [huv]; decide), if_neg (by rw [← HBP.out, h]; decide), if_pos (by rw [← HBT.out, h2])]
 have HR3 : Hid (bp = true → bt = true → R = .ok ⟨l, ⟨q, u, c, d⟩, cset cl (chOf p.name) (chOf t.name)⟩ [.mk gk gn gs [p, t]]) := Lib.hid fun h h2 => by
  rw [HR.out]; unfold setConvC
  rw [if_neg (by rw [huv]; decide), if_neg (by rw [← HBP.out, h]; decide), if_neg (by rw [← HBT.out, h2]; decide)]
 have HX : Hid (bp = true → ∃ x : UInt8, p.name = ⟨#[x]⟩) := Lib.hid fun h => (isCharT_one (HBP.out ▸ h)).2
 have HY : Hid (bt = true → ∃ x : UInt8, t.name = ⟨#[x]⟩) := Lib.hid fun h => (isCharT_one (HBT.out ▸ h)).2
 rw [← HR.out]
 have HTAB := Lib.hid hTab
 have HC := Lib.hid hC
 have HCV := Lib.hid hcv
 have HGV := Lib.hid hg
 have HAA := Lib.hid hA
 have HUB : Hid (∀ W, Below w.heap.size w W → Calls Tryz.prog 152 #[.slice AA 2 ac] W fun e w' => e = .returned (.bool false) ∧ Below W.heap.size W w') := Lib.hid fun W hW => by
  have := f_unbound [p, t] AA ac W ((hA.keep hW).mono hW.size)
  rwa [huv] at this
 obtain ⟨b, off, PA, pc, e1, hb, p0, p1, p2, p3, hPA⟩ := hA.get 0 (show 0 < 2 by omega)
 obtain ⟨_, _, TA, tc, e2, _, t0, t1, t2, t3, hTA⟩ := hA.get 1 (show 1 < 2 by omega)
 subst e1
 cases e2
 simp only [List.getElem_cons_zero, List.getElem_cons_succ, Nat.zero_mul, Nat.add_zero, Nat.one_mul] at p0 p1 p2 p3 t0 t1 t2 t3 hPA hTA
 have HPA := Lib.hid hPA
 have HTA := Lib.hid hTA
 have HIP : Hid (∀ W, Calls Tryz.prog 161 #[.agg #[.int .i64 p.kind, .int .i64 p.num, .string p.name, .slice PA p.args.length pc]] W fun e w' => e = .returned (.bool bp) ∧ Below W.heap.size W w') := Lib.hid fun W => by rw [HBP.out]; exact f_isChar p PA pc W
 have HTYP : Hid (∀ W, Below w.heap.size w W → Calls Tryz.prog 157 #[.string ⟨#[99, 104, 97, 114, 97, 99, 116, 101, 114]⟩, .agg #[.int .i64 p.kind, .int .i64 p.num, .string p.name, .slice PA p.args.length pc]] W fun e w' => ∃ A' c', e = .returned (tmV ib A' c') ∧ Below W.heap.size W w' ∧ NewT W w' A' ib.args) := Lib.hid fun W hW => by
  rw [HIB.out]
  exact b_type ⟨#[99, 104, 97, 114, 97, 99, 116, 101, 114]⟩ p PA pc W (by decide) ((HPA.out.keep hW).mono hW.size)
 have HIT : Hid (∀ W, Calls Tryz.prog 161 #[.agg #[.int .i64 t.kind, .int .i64 t.num, .string t.name, .slice TA t.args.length tc]] W fun e w' => e = .returned (.bool bt) ∧ Below W.heap.size W w') := Lib.hid fun W => by rw [HBT.out]; exact f_isChar t TA tc W
 have HTYT : Hid (∀ W, Below w.heap.size w W → Calls Tryz.prog 157 #[.string ⟨#[99, 104, 97, 114, 97, 99, 116, 101, 114]⟩, .agg #[.int .i64 t.kind, .int .i64 t.num, .string t.name, .slice TA t.args.length tc]] W fun e w' => ∃ A' c', e = .returned (tmV jb A' c') ∧ Below W.heap.size W w' ∧ NewT W w' A' jb.args) := Lib.hid fun W hW => by
  rw [HJB.out]
  exact b_type ⟨#[99, 104, 97, 114, 97, 99, 116, 101, 114]⟩ t TA tc W (by decide) ((HTA.out.keep hW).mono hW.size)
 have HMP : Hid (∀ W, Below w.heap.size w W → (W.cell? ⟨b, off, none⟩ = some (.int .i64 p.kind) ∧ W.cell? ⟨b, off + 1, none⟩ = some (.int .i64 p.num) ∧ W.cell? ⟨b, off + 2, none⟩ = some (.string p.name) ∧ W.cell? ⟨b, off + 3, none⟩ = some (.slice PA p.args.length pc)) ∧ (W.cell? ⟨b, off + 4, none⟩ = some (.int .i64 t.kind) ∧ W.cell? ⟨b, off + 4 + 1, none⟩ = some (.int .i64 t.num) ∧ W.cell? ⟨b, off + 4 + 2, none⟩ = some (.string t.name) ∧ W.cell? ⟨b, off + 4 + 3, none⟩ = some (.slice TA t.args.length tc))) := Lib.hid fun W hW => ⟨⟨(hW.cell (p := ⟨b, _, none⟩) hb).trans p0, (hW.cell (p := ⟨b, _, none⟩) hb).trans p1, (hW.cell (p := ⟨b, _, none⟩) hb).trans p2, (hW.cell (p := ⟨b, _, none⟩) hb).trans p3⟩, (hW.cell (p := ⟨b, _, none⟩) hb).trans t0, (hW.cell (p := ⟨b, _, none⟩) hb).trans t1, (hW.cell (p := ⟨b, _, none⟩) hb).trans t2, (hW.cell (p := ⟨b, _, none⟩) hb).trans t3⟩
 have HBL0 : Hid (Below w.heap.size w (((((w.alloc (.cells #[.slice OA on oc, .int .i64 q, .int .i64 u, .bool c, .bool d, .slice CA cn cc] 43)).alloc (.cells #[.int .i64 gk, .int .i64 gn, .string gs, .slice (some ⟨b, off, none⟩) 2 ac] 26)).alloc (.cells #[.slice none 0 0, .int .i64 0, .int .i64 0, .bool false, .bool false, .slice none 0 0] 43)).alloc (.cells #[.int .i64 0, .int .i64 0, .string ⟨#[]⟩, .slice none 0 0] 26)))) := Lib.hid (((((Below.refl _ w).alloc (Nat.le_refl _) _).alloc (by simp) _).alloc (by simp; omega) _).alloc (by simp; omega) _)
 have HBK0 : Hid (Bks (((((w.alloc (.cells #[.slice OA on oc, .int .i64 q, .int .i64 u, .bool c, .bool d, .slice CA cn cc] 43)).alloc (.cells #[.int .i64 gk, .int .i64 gn, .string gs, .slice (some ⟨b, off, none⟩) 2 ac] 26)).alloc (.cells #[.slice none 0 0, .int .i64 0, .int .i64 0, .bool false, .bool false, .slice none 0 0] 43)).alloc (.cells #[.int .i64 0, .int .i64 0, .string ⟨#[]⟩, .slice none 0 0] 26))) [(w.heap.size + 1 + 1 + 1, [.int .i64 0, .int .i64 0, .string ⟨#[]⟩, .slice none 0 0]), (w.heap.size + 1 + 1, [.slice none 0 0, .int .i64 0, .int .i64 0, .bool false, .bool false, .slice none 0 0]), (w.heap.size + 1, [.int .i64 gk, .int .i64 gn, .string gs, .slice (some ⟨b, off, none⟩) 2 ac]), (w.heap.size, [.slice OA on oc, .int .i64 q, .int .i64 u, .bool c, .bool d, .slice CA cn cc])]) := Lib.hid (((((Bks.nil w).new [.slice OA on oc, .int .i64 q, .int .i64 u, .bool c, .bool d, .slice CA cn cc] 43 rfl).new [.int .i64 gk, .int .i64 gn, .string gs, .slice (some ⟨b, off, none⟩) 2 ac] 26 (by simp)).new [.slice none 0 0, .int .i64 0, .int .i64 0, .bool false, .bool false, .slice none 0 0] 43 (by simp)).new [.int .i64 0, .int .i64 0, .string ⟨#[]⟩, .slice none 0 0] 26 (by simp))
 clear hA hPA hTA p0 p1 p2 p3 t0 t1 t2 t3 hTab hC hcv hg huv HR HIB HJB HPA HTA HBP HBT
 go_enter Tryz.func115, Tryz.ntmps115
 go_wp2_with fail
 refine (HUB.out _ HBL0.out).mono ?_; rintro e w1 ⟨rfl, hB1⟩
 have HBL1 := Lib.hid (HBL0.out.trans (hB1.mono HBL0.out.size))
 have HBK1 := Lib.hid (HBK0.out.call hB1)
 clear hB1 HBL0 HBK0 HUB
 go_wp2_with fail
 go_loopw [24] (fun i wr => ∃ k : Nat, k ≤ 2 ∧ i = .int .i64 k ∧ Hid (Below w.heap.size w wr) ∧ Hid (Bks wr [(w.heap.size + 1 + 1 + 1, [.int .i64 0, .int .i64 0, .string ⟨#[]⟩, .slice none 0 0]), (w.heap.size + 1 + 1, [.slice none 0 0, .int .i64 0, .int .i64 0, .bool false, .bool false, .slice none 0 0]), (w.heap.size + 1, [.int .i64 gk, .int .i64 gn, .string gs, .slice (some ⟨b, off, none⟩) 2 ac]), (w.heap.size, [.slice OA on oc, .int .i64 q, .int .i64 u, .bool c, .bool d, .slice CA cn cc])]) ∧ (1 ≤ k → bp = true) ∧ (2 ≤ k → bt = true)) (fun i _ => 2 - (intOf i).toNat)
 case atStart => exact ⟨0, by decide, rfl, HBL1, HBK1, fun h => (by omega), fun h => (by omega)⟩
 case round =>
  obtain ⟨k, hk, rfl, HBL, HBK, hk1, hk2⟩ := hrel
  have hcs := HMP.out wr HBL.out
  rcases (show k = 0 ∨ k = 1 ∨ k = 2 by omega) with rfl | rfl | rfl
  ·obtain ⟨⟨c0, c1, c2, c3⟩, -⟩ := hcs
   have hbw : b < wr.heap.size := Nat.lt_of_lt_of_le hb HBL.out.size
   have hBA : Below wr.heap.size wr (wr.alloc (.cells #[.int .i64 p.kind, .int .i64 p.num, .string p.name, .slice PA p.args.length pc] 26)) := (Below.refl _ _).alloc (Nat.le_refl _) _
   have HBX : Hid (Bks (wr.alloc (.cells #[.int .i64 p.kind, .int .i64 p.num, .string p.name, .slice PA p.args.length pc] 26)) [(wr.heap.size, [.int .i64 p.kind, .int .i64 p.num, .string p.name, .slice PA p.args.length pc]), (w.heap.size + 1 + 1 + 1, [.int .i64 0, .int .i64 0, .string ⟨#[]⟩, .slice none 0 0]), (w.heap.size + 1 + 1, [.slice none 0 0, .int .i64 0, .int .i64 0, .bool false, .bool false, .slice none 0 0]), (w.heap.size + 1, [.int .i64 gk, .int .i64 gn, .string gs, .slice (some ⟨b, off, none⟩) 2 ac]), (w.heap.size, [.slice OA on oc, .int .i64 q, .int .i64 u, .bool c, .bool d, .slice CA cn cc])]) := Lib.hid (HBK.out.new [.int .i64 p.kind, .int .i64 p.num, .string p.name, .slice PA p.args.length pc] 26 rfl)
   go_wp2_with fail
   refine (HIP.out _).mono ?_; rintro e w1 ⟨rfl, hB1⟩
   have hB01 : Below wr.heap.size wr w1 := hBA.trans (hB1.mono (by simp))
   have HBL1 := Lib.hid (HBL.out.trans (hB01.mono HBL.out.size))
   have HBK1 := Lib.hid (HBK.out.call hB01)
   have HBX1 := Lib.hid (HBX.out.call hB1)
   clear hB1 hB01 hBA HBL HBK HBX c0 c1 c2 c3
   cases bp
   ·clear HIP HIT HX HY HMP HTAB HC HCV HGV HAA
    have x4_0 := HBX1.out.cell 0 0 rfl rfl
    have x4_1 := HBX1.out.cell 0 1 rfl rfl
    have x4_2 := HBX1.out.cell 0 2 rfl rfl
    have x4_3 := HBX1.out.cell 0 3 rfl rfl
    go_wp2_with fail
    refine (HTYP.out _ HBL1.out).mono ?_; rintro e w4 ⟨IA, ic, rfl, hB4, hN4⟩
    have HBL4 := Lib.hid (HBL1.out.trans (hB4.mono HBL1.out.size))
    have HBK4 := Lib.hid (HBK1.out.call hB4)
    have HL3 : Hid (w.heap.size + 1 + 1 + 1 < w1.heap.size) := Lib.hid (HBK1.out.lt 0 rfl)
    have HRS := Lib.hid (f_raise ib IA ic w4)
    have HN4 := Lib.hid hN4
    unfold rvB RV.val tmV at HRS
    dsimp only at HRS
    clear hB4 hN4 HTYP HTYT
    unfold tmV
    go_wp2_with fail
    refine HRS.out.mono ?_; rintro e w5 ⟨rfl, hB5⟩
    have HBL5 := Lib.hid (HBL4.out.trans (hB5.mono HBL4.out.size))
    have HBK5 := Lib.hid (HBK4.out.call hB5)
    have HN5 : Hid (TmsK (fun k => w1.heap.size ≤ k ∧ k < w5.heap.size) w5 IA ib.args) := Lib.hid (HN4.out.keep (fun b hb => hB5.block b hb.2) (fun b hb => ⟨hb.1, Nat.lt_of_lt_of_le hb.2 hB5.size⟩))
    clear hB5 HBL4 HBK4 HN4 HRS
    have e2_0 := HBK5.out.cell 1 0 rfl rfl
    have e2_1 := HBK5.out.cell 1 1 rfl rfl
    have e2_2 := HBK5.out.cell 1 2 rfl rfl
    have e2_3 := HBK5.out.cell 1 3 rfl rfl
    have e2_4 := HBK5.out.cell 1 4 rfl rfl
    have e2_5 := HBK5.out.cell 1 5 rfl rfl
    have e3_0 := HBK5.out.cell 0 0 rfl rfl
    have e3_1 := HBK5.out.cell 0 1 rfl rfl
    have e3_2 := HBK5.out.cell 0 2 rfl rfl
    have e3_3 := HBK5.out.cell 0 3 rfl rfl
    have e2f0 := HBK5.out.fz 1 0 rfl
    have e2f1 := HBK5.out.fz 1 1 rfl
    have e2f2 := HBK5.out.fz 1 2 rfl
    have e2f3 := HBK5.out.fz 1 3 rfl
    have e2f4 := HBK5.out.fz 1 4 rfl
    have e2f5 := HBK5.out.fz 1 5 rfl
    have e3f0 := HBK5.out.fz 0 0 rfl
    have e3f1 := HBK5.out.fz 0 1 rfl
    have e3f2 := HBK5.out.fz 0 2 rfl
    have e3f3 := HBK5.out.fz 0 3 rfl
    have e2l : w.heap.size + 1 + 1 < w5.heap.size := HBK5.out.lt 1 rfl
    have e3l : w.heap.size + 1 + 1 + 1 < w5.heap.size := HBK5.out.lt 0 rfl
    have HBKZ : Hid (Bks (((((((((((w5.setCell ⟨w.heap.size + 1 + 1, 0, none⟩ (.slice none 0 0)).setCell ⟨w.heap.size + 1 + 1, 1, none⟩ (.int .i64 0)).setCell ⟨w.heap.size + 1 + 1, 2, none⟩ (.int .i64 0)).setCell ⟨w.heap.size + 1 + 1, 3, none⟩ (.bool false)).setCell ⟨w.heap.size + 1 + 1, 4, none⟩ (.bool false)).setCell ⟨w.heap.size + 1 + 1, 5, none⟩ (.slice none 0 0)).setCell ⟨w.heap.size + 1 + 1 + 1, 0, none⟩ (.int .i64 ib.kind)).setCell ⟨w.heap.size + 1 + 1 + 1, 1, none⟩ (.int .i64 ib.num)).setCell ⟨w.heap.size + 1 + 1 + 1, 2, none⟩ (.string ib.name)).setCell ⟨w.heap.size + 1 + 1 + 1, 3, none⟩ (.slice IA ib.args.length ic))) [(w.heap.size + 1 + 1 + 1, [.int .i64 ib.kind, .int .i64 ib.num, .string ib.name, .slice IA ib.args.length ic]), (w.heap.size + 1 + 1, [.slice none 0 0, .int .i64 0, .int .i64 0, .bool false, .bool false, .slice none 0 0]), (w.heap.size + 1, [.int .i64 gk, .int .i64 gn, .string gs, .slice (some ⟨b, off, none⟩) 2 ac]), (w.heap.size, [.slice OA on oc, .int .i64 q, .int .i64 u, .bool c, .bool d, .slice CA cn cc])]) := Lib.hid ((HBK5.out.set6 1 rfl (.slice none 0 0) (.int .i64 0) (.int .i64 0) (.bool false) (.bool false) (.slice none 0 0)).set4 0 rfl (.int .i64 ib.kind) (.int .i64 ib.num) (.string ib.name) (.slice IA ib.args.length ic))
    have HBLZ : Hid (Below w.heap.size w (((((((((((w5.setCell ⟨w.heap.size + 1 + 1, 0, none⟩ (.slice none 0 0)).setCell ⟨w.heap.size + 1 + 1, 1, none⟩ (.int .i64 0)).setCell ⟨w.heap.size + 1 + 1, 2, none⟩ (.int .i64 0)).setCell ⟨w.heap.size + 1 + 1, 3, none⟩ (.bool false)).setCell ⟨w.heap.size + 1 + 1, 4, none⟩ (.bool false)).setCell ⟨w.heap.size + 1 + 1, 5, none⟩ (.slice none 0 0)).setCell ⟨w.heap.size + 1 + 1 + 1, 0, none⟩ (.int .i64 ib.kind)).setCell ⟨w.heap.size + 1 + 1 + 1, 1, none⟩ (.int .i64 ib.num)).setCell ⟨w.heap.size + 1 + 1 + 1, 2, none⟩ (.string ib.name)).setCell ⟨w.heap.size + 1 + 1 + 1, 3, none⟩ (.slice IA ib.args.length ic)))) := Lib.hid ((((((((((HBL5.out.setCell (p := ⟨w.heap.size + 1 + 1, _, none⟩) (show w.heap.size ≤ w.heap.size + 1 + 1 by omega) _).setCell (p := ⟨w.heap.size + 1 + 1, _, none⟩) (show w.heap.size ≤ w.heap.size + 1 + 1 by omega) _).setCell (p := ⟨w.heap.size + 1 + 1, _, none⟩) (show w.heap.size ≤ w.heap.size + 1 + 1 by omega) _).setCell (p := ⟨w.heap.size + 1 + 1, _, none⟩) (show w.heap.size ≤ w.heap.size + 1 + 1 by omega) _).setCell (p := ⟨w.heap.size + 1 + 1, _, none⟩) (show w.heap.size ≤ w.heap.size + 1 + 1 by omega) _).setCell (p := ⟨w.heap.size + 1 + 1, _, none⟩) (show w.heap.size ≤ w.heap.size + 1 + 1 by omega) _).setCell (p := ⟨w.heap.size + 1 + 1 + 1, _, none⟩) (show w.heap.size ≤ w.heap.size + 1 + 1 + 1 by omega) _).setCell (p := ⟨w.heap.size + 1 + 1 + 1, _, none⟩) (show w.heap.size ≤ w.heap.size + 1 + 1 + 1 by omega) _).setCell (p := ⟨w.heap.size + 1 + 1 + 1, _, none⟩) (show w.heap.size ≤ w.heap.size + 1 + 1 + 1 by omega) _).setCell (p := ⟨w.heap.size + 1 + 1 + 1, _, none⟩) (show w.heap.size ≤ w.heap.size + 1 + 1 + 1 by omega) _)
    have hkk : ∀ k, k ≠ w.heap.size + 1 + 1 → k ≠ w.heap.size + 1 + 1 + 1 → (((((((((((w5.setCell ⟨w.heap.size + 1 + 1, 0, none⟩ (.slice none 0 0)).setCell ⟨w.heap.size + 1 + 1, 1, none⟩ (.int .i64 0)).setCell ⟨w.heap.size + 1 + 1, 2, none⟩ (.int .i64 0)).setCell ⟨w.heap.size + 1 + 1, 3, none⟩ (.bool false)).setCell ⟨w.heap.size + 1 + 1, 4, none⟩ (.bool false)).setCell ⟨w.heap.size + 1 + 1, 5, none⟩ (.slice none 0 0)).setCell ⟨w.heap.size + 1 + 1 + 1, 0, none⟩ (.int .i64 ib.kind)).setCell ⟨w.heap.size + 1 + 1 + 1, 1, none⟩ (.int .i64 ib.num)).setCell ⟨w.heap.size + 1 + 1 + 1, 2, none⟩ (.string ib.name)).setCell ⟨w.heap.size + 1 + 1 + 1, 3, none⟩ (.slice IA ib.args.length ic))).heap[k]? = w5.heap[k]? := fun k h2 h3 => by
     rw [heap_setCell_other _ _ _ _ h3, heap_setCell_other _ _ _ _ h3, heap_setCell_other _ _ _ _ h3, heap_setCell_other _ _ _ _ h3, heap_setCell_other _ _ _ _ h2, heap_setCell_other _ _ _ _ h2, heap_setCell_other _ _ _ _ h2, heap_setCell_other _ _ _ _ h2, heap_setCell_other _ _ _ _ h2, heap_setCell_other _ _ _ _ h2]
    have hNZ : NewT w (((((((((((w5.setCell ⟨w.heap.size + 1 + 1, 0, none⟩ (.slice none 0 0)).setCell ⟨w.heap.size + 1 + 1, 1, none⟩ (.int .i64 0)).setCell ⟨w.heap.size + 1 + 1, 2, none⟩ (.int .i64 0)).setCell ⟨w.heap.size + 1 + 1, 3, none⟩ (.bool false)).setCell ⟨w.heap.size + 1 + 1, 4, none⟩ (.bool false)).setCell ⟨w.heap.size + 1 + 1, 5, none⟩ (.slice none 0 0)).setCell ⟨w.heap.size + 1 + 1 + 1, 0, none⟩ (.int .i64 ib.kind)).setCell ⟨w.heap.size + 1 + 1 + 1, 1, none⟩ (.int .i64 ib.num)).setCell ⟨w.heap.size + 1 + 1 + 1, 2, none⟩ (.string ib.name)).setCell ⟨w.heap.size + 1 + 1 + 1, 3, none⟩ (.slice IA ib.args.length ic))) IA ib.args := HN5.out.keep (fun b hb => hkk b (by have := HL3.out; omega) (by have := HL3.out; omega)) (fun b hb => ⟨by have := HL3.out; omega, by simpa using hb.2⟩)
    obtain ⟨wz, HWZ⟩ : ∃ wz, Hid (wz = ((((((((((w5.setCell ⟨w.heap.size + 1 + 1, 0, none⟩ (.slice none 0 0)).setCell ⟨w.heap.size + 1 + 1, 1, none⟩ (.int .i64 0)).setCell ⟨w.heap.size + 1 + 1, 2, none⟩ (.int .i64 0)).setCell ⟨w.heap.size + 1 + 1, 3, none⟩ (.bool false)).setCell ⟨w.heap.size + 1 + 1, 4, none⟩ (.bool false)).setCell ⟨w.heap.size + 1 + 1, 5, none⟩ (.slice none 0 0)).setCell ⟨w.heap.size + 1 + 1 + 1, 0, none⟩ (.int .i64 ib.kind)).setCell ⟨w.heap.size + 1 + 1 + 1, 1, none⟩ (.int .i64 ib.num)).setCell ⟨w.heap.size + 1 + 1 + 1, 2, none⟩ (.string ib.name)).setCell ⟨w.heap.size + 1 + 1 + 1, 3, none⟩ (.slice IA ib.args.length ic))) := ⟨_, Lib.hid rfl⟩
    rw [← HWZ.out] at HBKZ HBLZ hNZ
    have HNZ := Lib.hid hNZ
    clear hNZ hkk
    go_wp2_with fail
    rw [← HWZ.out]
    have m2_0 := HBKZ.out.cell 1 0 rfl rfl
    have m2_1 := HBKZ.out.cell 1 1 rfl rfl
    have m2_2 := HBKZ.out.cell 1 2 rfl rfl
    have m2_3 := HBKZ.out.cell 1 3 rfl rfl
    have m2_4 := HBKZ.out.cell 1 4 rfl rfl
    have m2_5 := HBKZ.out.cell 1 5 rfl rfl
    have m3_0 := HBKZ.out.cell 0 0 rfl rfl
    have m3_1 := HBKZ.out.cell 0 1 rfl rfl
    have m3_2 := HBKZ.out.cell 0 2 rfl rfl
    have m3_3 := HBKZ.out.cell 0 3 rfl rfl
    exact bodyPost_ret (v := .tuple #[.agg #[.slice none 0 0, .int .i64 0, .int .i64 0, .bool false, .bool false, .slice none 0 0], .slice none 0 0, .agg #[.int .i64 ib.kind, .int .i64 ib.num, .string ib.name, .slice IA ib.args.length ic], .int .i64 8]) (by simp [results, Tryz.results115, go_sem, m2_0, m2_1, m2_2, m2_3, m2_4, m2_5, m3_0, m3_1, m3_2, m3_3]) rfl ⟨rvB ib.kind ib.num ib.name IA ib.args.length ic 8, rfl, HBLZ.out, by rw [HR1.out (by first | rfl | trivial)]; exact ⟨rfl, rfl, rfl, rfl, rfl, HNZ.out⟩⟩
   ·go_wp2_with fail
    go_roundw
    case rel => exact ⟨1, by omega, by go_num, HBL1, HBK1, fun _ => (by first | rfl | trivial), fun h => (by omega)⟩
    case measure => simp [intOf]
  ·obtain ⟨-, ⟨c0, c1, c2, c3⟩⟩ := hcs
   have hbw : b < wr.heap.size := Nat.lt_of_lt_of_le hb HBL.out.size
   have hBA : Below wr.heap.size wr (wr.alloc (.cells #[.int .i64 t.kind, .int .i64 t.num, .string t.name, .slice TA t.args.length tc] 26)) := (Below.refl _ _).alloc (Nat.le_refl _) _
   have HBX : Hid (Bks (wr.alloc (.cells #[.int .i64 t.kind, .int .i64 t.num, .string t.name, .slice TA t.args.length tc] 26)) [(wr.heap.size, [.int .i64 t.kind, .int .i64 t.num, .string t.name, .slice TA t.args.length tc]), (w.heap.size + 1 + 1 + 1, [.int .i64 0, .int .i64 0, .string ⟨#[]⟩, .slice none 0 0]), (w.heap.size + 1 + 1, [.slice none 0 0, .int .i64 0, .int .i64 0, .bool false, .bool false, .slice none 0 0]), (w.heap.size + 1, [.int .i64 gk, .int .i64 gn, .string gs, .slice (some ⟨b, off, none⟩) 2 ac]), (w.heap.size, [.slice OA on oc, .int .i64 q, .int .i64 u, .bool c, .bool d, .slice CA cn cc])]) := Lib.hid (HBK.out.new [.int .i64 t.kind, .int .i64 t.num, .string t.name, .slice TA t.args.length tc] 26 rfl)
   go_wp2_with fail
   refine (HIT.out _).mono ?_; rintro e w1 ⟨rfl, hB1⟩
   have hB01 : Below wr.heap.size wr w1 := hBA.trans (hB1.mono (by simp))
   have HBL1 := Lib.hid (HBL.out.trans (hB01.mono HBL.out.size))
   have HBK1 := Lib.hid (HBK.out.call hB01)
   have HBX1 := Lib.hid (HBX.out.call hB1)
   clear hB1 hB01 hBA HBL HBK HBX c0 c1 c2 c3
   cases bt
   ·clear HIP HIT HX HY HMP HTAB HC HCV HGV HAA
    have x4_0 := HBX1.out.cell 0 0 rfl rfl
    have x4_1 := HBX1.out.cell 0 1 rfl rfl
    have x4_2 := HBX1.out.cell 0 2 rfl rfl
    have x4_3 := HBX1.out.cell 0 3 rfl rfl
    go_wp2_with fail
    refine (HTYT.out _ HBL1.out).mono ?_; rintro e w4 ⟨IA, ic, rfl, hB4, hN4⟩
    have HBL4 := Lib.hid (HBL1.out.trans (hB4.mono HBL1.out.size))
    have HBK4 := Lib.hid (HBK1.out.call hB4)
    have HL3 : Hid (w.heap.size + 1 + 1 + 1 < w1.heap.size) := Lib.hid (HBK1.out.lt 0 rfl)
    have HRS := Lib.hid (f_raise jb IA ic w4)
    have HN4 := Lib.hid hN4
    unfold rvB RV.val tmV at HRS
    dsimp only at HRS
    clear hB4 hN4 HTYP HTYT
    unfold tmV
    go_wp2_with fail
    refine HRS.out.mono ?_; rintro e w5 ⟨rfl, hB5⟩
    have HBL5 := Lib.hid (HBL4.out.trans (hB5.mono HBL4.out.size))
    have HBK5 := Lib.hid (HBK4.out.call hB5)
    have HN5 : Hid (TmsK (fun k => w1.heap.size ≤ k ∧ k < w5.heap.size) w5 IA jb.args) := Lib.hid (HN4.out.keep (fun b hb => hB5.block b hb.2) (fun b hb => ⟨hb.1, Nat.lt_of_lt_of_le hb.2 hB5.size⟩))
    clear hB5 HBL4 HBK4 HN4 HRS
    have e2_0 := HBK5.out.cell 1 0 rfl rfl
    have e2_1 := HBK5.out.cell 1 1 rfl rfl
    have e2_2 := HBK5.out.cell 1 2 rfl rfl
    have e2_3 := HBK5.out.cell 1 3 rfl rfl
    have e2_4 := HBK5.out.cell 1 4 rfl rfl
    have e2_5 := HBK5.out.cell 1 5 rfl rfl
    have e3_0 := HBK5.out.cell 0 0 rfl rfl
    have e3_1 := HBK5.out.cell 0 1 rfl rfl
    have e3_2 := HBK5.out.cell 0 2 rfl rfl
    have e3_3 := HBK5.out.cell 0 3 rfl rfl
    have e2f0 := HBK5.out.fz 1 0 rfl
    have e2f1 := HBK5.out.fz 1 1 rfl
    have e2f2 := HBK5.out.fz 1 2 rfl
    have e2f3 := HBK5.out.fz 1 3 rfl
    have e2f4 := HBK5.out.fz 1 4 rfl
    have e2f5 := HBK5.out.fz 1 5 rfl
    have e3f0 := HBK5.out.fz 0 0 rfl
    have e3f1 := HBK5.out.fz 0 1 rfl
    have e3f2 := HBK5.out.fz 0 2 rfl
    have e3f3 := HBK5.out.fz 0 3 rfl
    have e2l : w.heap.size + 1 + 1 < w5.heap.size := HBK5.out.lt 1 rfl
    have e3l : w.heap.size + 1 + 1 + 1 < w5.heap.size := HBK5.out.lt 0 rfl
    have HBKZ : Hid (Bks (((((((((((w5.setCell ⟨w.heap.size + 1 + 1, 0, none⟩ (.slice none 0 0)).setCell ⟨w.heap.size + 1 + 1, 1, none⟩ (.int .i64 0)).setCell ⟨w.heap.size + 1 + 1, 2, none⟩ (.int .i64 0)).setCell ⟨w.heap.size + 1 + 1, 3, none⟩ (.bool false)).setCell ⟨w.heap.size + 1 + 1, 4, none⟩ (.bool false)).setCell ⟨w.heap.size + 1 + 1, 5, none⟩ (.slice none 0 0)).setCell ⟨w.heap.size + 1 + 1 + 1, 0, none⟩ (.int .i64 jb.kind)).setCell ⟨w.heap.size + 1 + 1 + 1, 1, none⟩ (.int .i64 jb.num)).setCell ⟨w.heap.size + 1 + 1 + 1, 2, none⟩ (.string jb.name)).setCell ⟨w.heap.size + 1 + 1 + 1, 3, none⟩ (.slice IA jb.args.length ic))) [(w.heap.size + 1 + 1 + 1, [.int .i64 jb.kind, .int .i64 jb.num, .string jb.name, .slice IA jb.args.length ic]), (w.heap.size + 1 + 1, [.slice none 0 0, .int .i64 0, .int .i64 0, .bool false, .bool false, .slice none 0 0]), (w.heap.size + 1, [.int .i64 gk, .int .i64 gn, .string gs, .slice (some ⟨b, off, none⟩) 2 ac]), (w.heap.size, [.slice OA on oc, .int .i64 q, .int .i64 u, .bool c, .bool d, .slice CA cn cc])]) := Lib.hid ((HBK5.out.set6 1 rfl (.slice none 0 0) (.int .i64 0) (.int .i64 0) (.bool false) (.bool false) (.slice none 0 0)).set4 0 rfl (.int .i64 jb.kind) (.int .i64 jb.num) (.string jb.name) (.slice IA jb.args.length ic))
    have HBLZ : Hid (Below w.heap.size w (((((((((((w5.setCell ⟨w.heap.size + 1 + 1, 0, none⟩ (.slice none 0 0)).setCell ⟨w.heap.size + 1 + 1, 1, none⟩ (.int .i64 0)).setCell ⟨w.heap.size + 1 + 1, 2, none⟩ (.int .i64 0)).setCell ⟨w.heap.size + 1 + 1, 3, none⟩ (.bool false)).setCell ⟨w.heap.size + 1 + 1, 4, none⟩ (.bool false)).setCell ⟨w.heap.size + 1 + 1, 5, none⟩ (.slice none 0 0)).setCell ⟨w.heap.size + 1 + 1 + 1, 0, none⟩ (.int .i64 jb.kind)).setCell ⟨w.heap.size + 1 + 1 + 1, 1, none⟩ (.int .i64 jb.num)).setCell ⟨w.heap.size + 1 + 1 + 1, 2, none⟩ (.string jb.name)).setCell ⟨w.heap.size + 1 + 1 + 1, 3, none⟩ (.slice IA jb.args.length ic)))) := Lib.hid ((((((((((HBL5.out.setCell (p := ⟨w.heap.size + 1 + 1, _, none⟩) (show w.heap.size ≤ w.heap.size + 1 + 1 by omega) _).setCell (p := ⟨w.heap.size + 1 + 1, _, none⟩) (show w.heap.size ≤ w.heap.size + 1 + 1 by omega) _).setCell (p := ⟨w.heap.size + 1 + 1, _, none⟩) (show w.heap.size ≤ w.heap.size + 1 + 1 by omega) _).setCell (p := ⟨w.heap.size + 1 + 1, _, none⟩) (show w.heap.size ≤ w.heap.size + 1 + 1 by omega) _).setCell (p := ⟨w.heap.size + 1 + 1, _, none⟩) (show w.heap.size ≤ w.heap.size + 1 + 1 by omega) _).setCell (p := ⟨w.heap.size + 1 + 1, _, none⟩) (show w.heap.size ≤ w.heap.size + 1 + 1 by omega) _).setCell (p := ⟨w.heap.size + 1 + 1 + 1, _, none⟩) (show w.heap.size ≤ w.heap.size + 1 + 1 + 1 by omega) _).setCell (p := ⟨w.heap.size + 1 + 1 + 1, _, none⟩) (show w.heap.size ≤ w.heap.size + 1 + 1 + 1 by omega) _).setCell (p := ⟨w.heap.size + 1 + 1 + 1, _, none⟩) (show w.heap.size ≤ w.heap.size + 1 + 1 + 1 by omega) _).setCell (p := ⟨w.heap.size + 1 + 1 + 1, _, none⟩) (show w.heap.size ≤ w.heap.size + 1 + 1 + 1 by omega) _)
    have hkk : ∀ k, k ≠ w.heap.size + 1 + 1 → k ≠ w.heap.size + 1 + 1 + 1 → (((((((((((w5.setCell ⟨w.heap.size + 1 + 1, 0, none⟩ (.slice none 0 0)).setCell ⟨w.heap.size + 1 + 1, 1, none⟩ (.int .i64 0)).setCell ⟨w.heap.size + 1 + 1, 2, none⟩ (.int .i64 0)).setCell ⟨w.heap.size + 1 + 1, 3, none⟩ (.bool false)).setCell ⟨w.heap.size + 1 + 1, 4, none⟩ (.bool false)).setCell ⟨w.heap.size + 1 + 1, 5, none⟩ (.slice none 0 0)).setCell ⟨w.heap.size + 1 + 1 + 1, 0, none⟩ (.int .i64 jb.kind)).setCell ⟨w.heap.size + 1 + 1 + 1, 1, none⟩ (.int .i64 jb.num)).setCell ⟨w.heap.size + 1 + 1 + 1, 2, none⟩ (.string jb.name)).setCell ⟨w.heap.size + 1 + 1 + 1, 3, none⟩ (.slice IA jb.args.length ic))).heap[k]? = w5.heap[k]? := fun k h2 h3 => by
     rw [heap_setCell_other _ _ _ _ h3, heap_setCell_other _ _ _ _ h3, heap_setCell_other _ _ _ _ h3, heap_setCell_other _ _ _ _ h3, heap_setCell_other _ _ _ _ h2, heap_setCell_other _ _ _ _ h2, heap_setCell_other _ _ _ _ h2, heap_setCell_other _ _ _ _ h2, heap_setCell_other _ _ _ _ h2, heap_setCell_other _ _ _ _ h2]
    have hNZ : NewT w (((((((((((w5.setCell ⟨w.heap.size + 1 + 1, 0, none⟩ (.slice none 0 0)).setCell ⟨w.heap.size + 1 + 1, 1, none⟩ (.int .i64 0)).setCell ⟨w.heap.size + 1 + 1, 2, none⟩ (.int .i64 0)).setCell ⟨w.heap.size + 1 + 1, 3, none⟩ (.bool false)).setCell ⟨w.heap.size + 1 + 1, 4, none⟩ (.bool false)).setCell ⟨w.heap.size + 1 + 1, 5, none⟩ (.slice none 0 0)).setCell ⟨w.heap.size + 1 + 1 + 1, 0, none⟩ (.int .i64 jb.kind)).setCell ⟨w.heap.size + 1 + 1 + 1, 1, none⟩ (.int .i64 jb.num)).setCell ⟨w.heap.size + 1 + 1 + 1, 2, none⟩ (.string jb.name)).setCell ⟨w.heap.size + 1 + 1 + 1, 3, none⟩ (.slice IA jb.args.length ic))) IA jb.args := HN5.out.keep (fun b hb => hkk b (by have := HL3.out; omega) (by have := HL3.out; omega)) (fun b hb => ⟨by have := HL3.out; omega, by simpa using hb.2⟩)
    obtain ⟨wz, HWZ⟩ : ∃ wz, Hid (wz = ((((((((((w5.setCell ⟨w.heap.size + 1 + 1, 0, none⟩ (.slice none 0 0)).setCell ⟨w.heap.size + 1 + 1, 1, none⟩ (.int .i64 0)).setCell ⟨w.heap.size + 1 + 1, 2, none⟩ (.int .i64 0)).setCell ⟨w.heap.size + 1 + 1, 3, none⟩ (.bool false)).setCell ⟨w.heap.size + 1 + 1, 4, none⟩ (.bool false)).setCell ⟨w.heap.size + 1 + 1, 5, none⟩ (.slice none 0 0)).setCell ⟨w.heap.size + 1 + 1 + 1, 0, none⟩ (.int .i64 jb.kind)).setCell ⟨w.heap.size + 1 + 1 + 1, 1, none⟩ (.int .i64 jb.num)).setCell ⟨w.heap.size + 1 + 1 + 1, 2, none⟩ (.string jb.name)).setCell ⟨w.heap.size + 1 + 1 + 1, 3, none⟩ (.slice IA jb.args.length ic))) := ⟨_, Lib.hid rfl⟩
    rw [← HWZ.out] at HBKZ HBLZ hNZ
    have HNZ := Lib.hid hNZ
    clear hNZ hkk
    go_wp2_with fail
    rw [← HWZ.out]
    have m2_0 := HBKZ.out.cell 1 0 rfl rfl
    have m2_1 := HBKZ.out.cell 1 1 rfl rfl
    have m2_2 := HBKZ.out.cell 1 2 rfl rfl
    have m2_3 := HBKZ.out.cell 1 3 rfl rfl
    have m2_4 := HBKZ.out.cell 1 4 rfl rfl
    have m2_5 := HBKZ.out.cell 1 5 rfl rfl
    have m3_0 := HBKZ.out.cell 0 0 rfl rfl
    have m3_1 := HBKZ.out.cell 0 1 rfl rfl
    have m3_2 := HBKZ.out.cell 0 2 rfl rfl
    have m3_3 := HBKZ.out.cell 0 3 rfl rfl
    exact bodyPost_ret (v := .tuple #[.agg #[.slice none 0 0, .int .i64 0, .int .i64 0, .bool false, .bool false, .slice none 0 0], .slice none 0 0, .agg #[.int .i64 jb.kind, .int .i64 jb.num, .string jb.name, .slice IA jb.args.length ic], .int .i64 8]) (by simp [results, Tryz.results115, go_sem, m2_0, m2_1, m2_2, m2_3, m2_4, m2_5, m3_0, m3_1, m3_2, m3_3]) rfl ⟨rvB jb.kind jb.num jb.name IA jb.args.length ic 8, rfl, HBLZ.out, by rw [HR2.out (hk1 (by omega)) (by first | rfl | trivial)]; exact ⟨rfl, rfl, rfl, rfl, rfl, HNZ.out⟩⟩
   ·go_wp2_with fail
    go_roundw
    case rel => exact ⟨2, by omega, by go_num, HBL1, HBK1, fun _ => hk1 (by omega), fun _ => (by first | rfl | trivial)⟩
    case measure => simp [intOf]
  ·have hbp := hk1 (by omega)
   have hbt := hk2 (by omega)
   obtain ⟨x, hx⟩ := HX.out hbp
   obtain ⟨y, hy⟩ := HY.out hbt
   have HRR := Lib.hid (HR3.out hbp hbt)
   rw [hx, hy, chOf_one, chOf_one] at HRR
   rw [hx, hy] at hcs
   clear HX HY HR1 HR2 HR3 HTYP HTYT HIP HIT hbp hbt hk1 hk2 hk hx hy HMP
   obtain ⟨⟨c0, c1, c2, c3⟩, d0, d1, d2, d3⟩ := hcs
   have hbw : b < wr.heap.size := Nat.lt_of_lt_of_le hb HBL.out.size
   have s0_0 := HBK.out.cell 3 0 rfl rfl
   have s0_1 := HBK.out.cell 3 1 rfl rfl
   have s0_2 := HBK.out.cell 3 2 rfl rfl
   have s0_3 := HBK.out.cell 3 3 rfl rfl
   have s0_4 := HBK.out.cell 3 4 rfl rfl
   have s0_5 := HBK.out.cell 3 5 rfl rfl
   have s0l : w.heap.size < wr.heap.size := HBK.out.lt 3 rfl
   go_wp2_with fail
   rename_i K9 hK9
   have HSET : Hid (∀ X, Below w.heap.size w X → Calls Tryz.prog 162 #[.slice CA cn cc, .int .i64 (x.toNat : Int), .int .i64 (y.toNat : Int)] X fun e w' => ∃ v, e = .returned v ∧ ((∃ NA nn nc, v = .tuple #[.slice NA nn nc, .int .i64 0] ∧ PrI X.heap.size w' NA nn nc (cset cl x.toNat y.toNat)) ∧ Below X.heap.size X w')) := Lib.hid fun X hX => by
    have hl := cv_len ((cvOk_iff cl).1 HCV.out)
    have hc := HC.out.below hX
    exact (chars_set CA cn cc cl x.toNat y.toNat X hc.len (by rw [hc.len]; omega) hc.fit hc.prs hc.adr HCV.out (by omega) (by have := x.toNat_lt; omega) (by omega) (by have := y.toNat_lt; omega)).mono fun e w' h => by
     obtain ⟨A', n', c', he, hb, hp⟩ := h
     exact ⟨_, he, ⟨A', n', c', rfl, hp⟩, hb⟩
   refine wp_region_any (by kernel_rfl) ?_
   refine wpAny_inv (fun S a X => ∃ NA nn nc, a = siT (.agg #[.slice OA on oc, .int .i64 q, .int .i64 u, .bool c, .bool d, .slice CA cn cc]) (.slice (some ⟨b, off, none⟩) 2 ac) (.agg #[.int .i64 gk, .int .i64 gn, .string gs, .slice (some ⟨b, off, none⟩) 2 ac]) (.slice CA cn cc) b off w.heap.size x y S (.slice NA nn nc) u7 u9 u11 u26 u27 u28 u29 u30 u31 u32 u33 u34 u35 u36 u37 u38 ∧ Below wr.heap.size wr X ∧ (S 14 = true → PrI wr.heap.size X NA nn nc (cset cl x.toNat y.toNat)) ∧ (S 14 = false → S 15 = false ∧ S 16 = false ∧ S 17 = false ∧ S 18 = false ∧ S 19 = false)) (by kernel_rfl) ?step ?fin 20 (fun _ => false) _ _ (by decide) ⟨none, 0, 0, rfl, (Below.refl _ wr).drew, fun h => (by cases h), fun _ => ⟨rfl, rfl, rfl, rfl, rfl⟩⟩
   case step =>
    rintro S j o a X ho hs hp ⟨NA, nn, nc, rfl, hB, hP, hd⟩
    have hlt : j < 20 := (Array.getElem?_eq_some_iff.1 ho).1
    rcases (show j = 0 ∨ j = 1 ∨ j = 2 ∨ j = 3 ∨ j = 4 ∨ j = 5 ∨ j = 6 ∨ j = 7 ∨ j = 8 ∨ j = 9 ∨ j = 10 ∨ j = 11 ∨ j = 12 ∨ j = 13 ∨ j = 14 ∨ j = 15 ∨ j = 16 ∨ j = 17 ∨ j = 18 ∨ j = 19 by omega) with rfl | rfl | rfl | rfl | rfl | rfl | rfl | rfl | rfl | rfl | rfl | rfl | rfl | rfl | rfl | rfl | rfl | rfl | rfl | rfl
    ·cases ho
     rw [if_pos (show Region.wanted _ _ = true from rfl)]
     refine wp_val (v := .pointer (some ⟨w.heap.size, 5, none⟩)) (w' := X) ?_ ⟨NA, nn, nc, rfl, hB, hP, hd⟩
     simp [execOp, go_sem, Act.eval, siT]
    ·cases ho
     have s0 : S 0 = true := hp ⟨0, .data⟩ (by simp) rfl
     have z : X.cell? ⟨w.heap.size, 5, none⟩ = some (.slice CA cn cc) := (hB.cell (p := ⟨_, 5, none⟩) s0l).trans s0_5
     rw [if_pos (show Region.wanted _ _ = true from rfl)]
     refine wp_val (v := .slice CA cn cc) (w' := X) ?_ ⟨NA, nn, nc, rfl, hB, hP, hd⟩
     simp [execOp, go_sem, Act.eval, siT, s0, z]
    ·cases ho
     rw [if_pos (show Region.wanted _ _ = true from rfl)]
     refine wp_val (v := .slice (some ⟨b, off, none⟩) 2 ac) (w' := X) ?_ ⟨NA, nn, nc, rfl, hB, hP, hd⟩
     simp [execOp, go_sem, Act.eval, siT]
    ·cases ho
     have s2 : S 2 = true := hp ⟨2, .data⟩ (by simp) rfl
     rw [if_pos (show Region.wanted _ _ = true from rfl)]
     refine wp_val (v := .pointer (some ⟨b, off, none⟩)) (w' := X) ?_ ⟨NA, nn, nc, rfl, hB, hP, hd⟩
     simp [execOp, go_sem, Act.eval, siT, s2]
    ·cases ho
     have s3 : S 3 = true := hp ⟨3, .data⟩ (by simp) rfl
     rw [if_pos (show Region.wanted _ _ = true from rfl)]
     refine wp_val (v := .pointer (some ⟨b, off + 2, none⟩)) (w' := X) ?_ ⟨NA, nn, nc, rfl, hB, hP, hd⟩
     simp [execOp, go_sem, Act.eval, siT, s3]
    ·cases ho
     have s4 : S 4 = true := hp ⟨4, .data⟩ (by simp) rfl
     have z : X.cell? ⟨b, off + 2, none⟩ = some (.string ⟨#[x]⟩) := (hB.cell (p := ⟨b, _, none⟩) hbw).trans c2
     rw [if_pos (show Region.wanted _ _ = true from rfl)]
     refine wp_val (v := .string ⟨#[x]⟩) (w' := X) ?_ ⟨NA, nn, nc, rfl, hB, hP, hd⟩
     simp [execOp, go_sem, Act.eval, siT, s4, z]
    ·cases ho
     have s5 : S 5 = true := hp ⟨5, .data⟩ (by simp) rfl
     rw [if_pos (show Region.wanted _ _ = true from rfl)]
     refine wp_val (v := .int .u8 (x.toNat : Int)) (w' := X) ?_ ⟨NA, nn, nc, rfl, hB, hP, hd⟩
     simp [execOp, go_sem, Act.eval, siT, s5]
     rfl
    ·cases ho
     have s6 : S 6 = true := hp ⟨6, .data⟩ (by simp) rfl
     have z1 := IntWalk.i64_in (x.toNat : Int) (by have := x.toNat_lt; omega)
     rw [if_pos (show Region.wanted _ _ = true from rfl)]
     refine wp_val (v := .int .i64 (x.toNat : Int)) (w' := X) ?_ ⟨NA, nn, nc, rfl, hB, hP, hd⟩
     simp [execOp, go_sem, Act.eval, siT, s6, z1]
    ·cases ho
     rw [if_pos (show Region.wanted _ _ = true from rfl)]
     refine wp_val (v := .slice (some ⟨b, off, none⟩) 2 ac) (w' := X) ?_ ⟨NA, nn, nc, rfl, hB, hP, hd⟩
     simp [execOp, go_sem, Act.eval, siT]
    ·cases ho
     have s8 : S 8 = true := hp ⟨8, .data⟩ (by simp) rfl
     rw [if_pos (show Region.wanted _ _ = true from rfl)]
     refine wp_val (v := .pointer (some ⟨b, off + 4, none⟩)) (w' := X) ?_ ⟨NA, nn, nc, rfl, hB, hP, hd⟩
     simp [execOp, go_sem, Act.eval, siT, s8]
    ·cases ho
     have s9 : S 9 = true := hp ⟨9, .data⟩ (by simp) rfl
     rw [if_pos (show Region.wanted _ _ = true from rfl)]
     refine wp_val (v := .pointer (some ⟨b, off + 4 + 2, none⟩)) (w' := X) ?_ ⟨NA, nn, nc, rfl, hB, hP, hd⟩
     simp [execOp, go_sem, Act.eval, siT, s9]
    ·cases ho
     have s10 : S 10 = true := hp ⟨10, .data⟩ (by simp) rfl
     have z : X.cell? ⟨b, off + 4 + 2, none⟩ = some (.string ⟨#[y]⟩) := (hB.cell (p := ⟨b, _, none⟩) hbw).trans d2
     rw [if_pos (show Region.wanted _ _ = true from rfl)]
     refine wp_val (v := .string ⟨#[y]⟩) (w' := X) ?_ ⟨NA, nn, nc, rfl, hB, hP, hd⟩
     simp [execOp, go_sem, Act.eval, siT, s10, z]
    ·cases ho
     have s11 : S 11 = true := hp ⟨11, .data⟩ (by simp) rfl
     rw [if_pos (show Region.wanted _ _ = true from rfl)]
     refine wp_val (v := .int .u8 (y.toNat : Int)) (w' := X) ?_ ⟨NA, nn, nc, rfl, hB, hP, hd⟩
     simp [execOp, go_sem, Act.eval, siT, s11]
     rfl
    ·cases ho
     have s12 : S 12 = true := hp ⟨12, .data⟩ (by simp) rfl
     have z1 := IntWalk.i64_in (y.toNat : Int) (by have := y.toNat_lt; omega)
     rw [if_pos (show Region.wanted _ _ = true from rfl)]
     refine wp_val (v := .int .i64 (y.toNat : Int)) (w' := X) ?_ ⟨NA, nn, nc, rfl, hB, hP, hd⟩
     simp [execOp, go_sem, Act.eval, siT, s12, z1]
    ·cases ho
     have s1 : S 1 = true := hp ⟨1, .data⟩ (by simp) rfl
     have s7 : S 7 = true := hp ⟨7, .data⟩ (by simp) rfl
     have s13 : S 13 = true := hp ⟨13, .data⟩ (by simp) rfl
     rw [if_pos (show Region.wanted _ _ = true from rfl)]
     refine wp_cal ?_ (HSET.out X (HBL.out.trans (hB.mono HBL.out.size))) (fun v w' hR => ?_)
     ·simp [execOp, go_sem, Act.eval, siT, s1, s7, s13]
      try rfl
     ·obtain ⟨⟨NA', nn', nc', rfl, hP'⟩, hB'⟩ := hR
      refine ⟨NA', nn', nc', ?_, hB.trans (hB'.mono hB.size), fun _ => hP'.mono hB.size, fun h => nomatch (show true = false from h)⟩
      rw [siT_rv (.slice NA' nn' nc') hs (hd hs)]
      rfl
    ·cases ho
     have s14 : S 14 = true := hp ⟨14, .data⟩ (by simp) rfl
     rw [if_pos (show Region.wanted _ _ = true from rfl)]
     refine wp_val (v := .tuple #[.slice NA nn nc, .int .i64 0]) (w' := X) ?_ ⟨NA, nn, nc, rfl, hB, hP, fun h => absurd (show S 14 = false from h) (by rw [s14]; decide)⟩
     simp [execOp, go_sem, Act.eval, siT, s14]
    ·cases ho
     have s15 : S 15 = true := hp ⟨15, .data⟩ (by simp) rfl
     have s14 : S 14 = true := by
      cases h : S 14
      ·have := (hd h).1
       rw [s15] at this; cases this
      ·rfl
     rw [if_pos (show Region.wanted _ _ = true from rfl)]
     refine wp_val (v := .slice NA nn nc) (w' := X) ?_ ⟨NA, nn, nc, rfl, hB, hP, fun h => absurd (show S 14 = false from h) (by rw [s14]; decide)⟩
     simp [execOp, go_sem, Act.eval, siT, s15]
    ·cases ho
     have s15 : S 15 = true := hp ⟨15, .data⟩ (by simp) rfl
     have s14 : S 14 = true := by
      cases h : S 14
      ·have := (hd h).1
       rw [s15] at this; cases this
      ·rfl
     rw [if_pos (show Region.wanted _ _ = true from rfl)]
     refine wp_val (v := .int .i64 0) (w' := X) ?_ ⟨NA, nn, nc, rfl, hB, hP, fun h => absurd (show S 14 = false from h) (by rw [s14]; decide)⟩
     simp [execOp, go_sem, Act.eval, siT, s15]
    ·cases ho
     have s16 : S 16 = true := hp ⟨16, .data⟩ (by simp) rfl
     have s14 : S 14 = true := by
      cases h : S 14
      ·have := (hd h).2.1
       rw [s16] at this; cases this
      ·rfl
     rw [if_pos (show Region.wanted _ _ = true from rfl)]
     refine wp_val (v := .slice NA nn nc) (w' := X) ?_ ⟨NA, nn, nc, rfl, hB, hP, fun h => absurd (show S 14 = false from h) (by rw [s14]; decide)⟩
     simp [execOp, go_sem, Act.eval, siT, s16]
    ·cases ho
     have s17 : S 17 = true := hp ⟨17, .data⟩ (by simp) rfl
     have s14 : S 14 = true := by
      cases h : S 14
      ·have := (hd h).2.2.1
       rw [s17] at this; cases this
      ·rfl
     rw [if_pos (show Region.wanted _ _ = true from rfl)]
     refine wp_val (v := .int .i64 0) (w' := X) ?_ ⟨NA, nn, nc, rfl, hB, hP, fun h => absurd (show S 14 = false from h) (by rw [s14]; decide)⟩
     simp [execOp, go_sem, Act.eval, siT, s17]
   case fin =>
    rintro S a W9 hall ⟨NA, nn, nc, rfl, hB, hP, -⟩
    have s0 := hall 0 (show 0 < 20 by omega)
    have s1 := hall 1 (show 1 < 20 by omega)
    have s2 := hall 2 (show 2 < 20 by omega)
    have s3 := hall 3 (show 3 < 20 by omega)
    have s4 := hall 4 (show 4 < 20 by omega)
    have s5 := hall 5 (show 5 < 20 by omega)
    have s6 := hall 6 (show 6 < 20 by omega)
    have s7 := hall 7 (show 7 < 20 by omega)
    have s8 := hall 8 (show 8 < 20 by omega)
    have s9 := hall 9 (show 9 < 20 by omega)
    have s10 := hall 10 (show 10 < 20 by omega)
    have s11 := hall 11 (show 11 < 20 by omega)
    have s12 := hall 12 (show 12 < 20 by omega)
    have s13 := hall 13 (show 13 < 20 by omega)
    have s14 := hall 14 (show 14 < 20 by omega)
    have s15 := hall 15 (show 15 < 20 by omega)
    have s16 := hall 16 (show 16 < 20 by omega)
    have s17 := hall 17 (show 17 < 20 by omega)
    have s18 := hall 18 (show 18 < 20 by omega)
    have s19 := hall 19 (show 19 < 20 by omega)
    have HP9 := Lib.hid (hP s14)
    have HBL9 := Lib.hid (HBL.out.trans (hB.mono HBL.out.size))
    have HBK9 := Lib.hid (HBK.out.keep fun x hx => hB.block x.1 (HBK.out.bk x hx).lt)
    have HLW : Hid (w.heap.size + 1 + 1 + 1 < wr.heap.size) := Lib.hid (HBK.out.lt 0 rfl)
    have HSW : Hid (wr.heap.size ≤ W9.heap.size) := Lib.hid hB.size
    refine hK9 _ _ ?_
    simp only [siT, s0, s1, s2, s3, s4, s5, s6, s7, s8, s9, s10, s11, s12, s13, s14, s15, s16, s17, s18, s19, if_true]
    clear hall hB hP HBL HBK hK9 HSET s0 s1 s2 s3 s4 s5 s6 s7 s8 s9 s10 s11 s12 s13 s14 s15 s16 s17 s18 s19 s0l s0_0 s0_1 s0_2 s0_3 s0_4 s0_5
    have f0_0 := HBK9.out.cell 3 0 rfl rfl
    have f0_1 := HBK9.out.cell 3 1 rfl rfl
    have f0_2 := HBK9.out.cell 3 2 rfl rfl
    have f0_3 := HBK9.out.cell 3 3 rfl rfl
    have f0_4 := HBK9.out.cell 3 4 rfl rfl
    have f0_5 := HBK9.out.cell 3 5 rfl rfl
    have f1_0 := HBK9.out.cell 2 0 rfl rfl
    have f1_1 := HBK9.out.cell 2 1 rfl rfl
    have f1_2 := HBK9.out.cell 2 2 rfl rfl
    have f1_3 := HBK9.out.cell 2 3 rfl rfl
    have f0f0 := HBK9.out.fz 3 0 rfl
    have f0f1 := HBK9.out.fz 3 1 rfl
    have f0f2 := HBK9.out.fz 3 2 rfl
    have f0f3 := HBK9.out.fz 3 3 rfl
    have f0f4 := HBK9.out.fz 3 4 rfl
    have f0f5 := HBK9.out.fz 3 5 rfl
    have f0l : w.heap.size < W9.heap.size := HBK9.out.lt 3 rfl
    have f1l : w.heap.size + 1 < W9.heap.size := HBK9.out.lt 2 rfl
    have hb9 : Below w.heap.size w (W9.setCell ⟨w.heap.size, 5, none⟩ (.slice NA nn nc)) := HBL9.out.setCell (p := ⟨w.heap.size, _, none⟩) (Nat.le_refl _) _
    have hk9 : Bks (W9.setCell ⟨w.heap.size, 5, none⟩ (.slice NA nn nc)) [(w.heap.size + 1 + 1 + 1, [.int .i64 0, .int .i64 0, .string ⟨#[]⟩, .slice none 0 0]), (w.heap.size + 1 + 1, [.slice none 0 0, .int .i64 0, .int .i64 0, .bool false, .bool false, .slice none 0 0]), (w.heap.size + 1, [.int .i64 gk, .int .i64 gn, .string gs, .slice (some ⟨b, off, none⟩) 2 ac]), (w.heap.size, [.slice OA on oc, .int .i64 q, .int .i64 u, .bool c, .bool d, .slice NA nn nc])] := HBK9.out.set 3 5 rfl (.slice NA nn nc)
    have hp9 : PrI wr.heap.size (W9.setCell ⟨w.heap.size, 5, none⟩ (.slice NA nn nc)) NA nn nc (cset cl x.toNat y.toNat) := HP9.out.keep (by simp) (fun b o e => heap_setCell_other _ _ _ _ (by have := (HP9.out.blk b o e).1; have := HLW.out; show b ≠ w.heap.size; omega))
    have HDN : Hid (Calls Tryz.prog 151 #[.agg #[.slice OA on oc, .int .i64 q, .int .i64 u, .bool c, .bool d, .slice NA nn nc], .agg #[.int .i64 gk, .int .i64 gn, .string gs, .slice (some ⟨b, off, none⟩) 2 ac]] (W9.setCell ⟨w.heap.size, 5, none⟩ (.slice NA nn nc)) fun e w' => ∃ b, e = .returned (.tuple #[.agg #[.slice OA on oc, .int .i64 q, .int .i64 u, .bool c, .bool d, .slice NA nn nc], .slice (some ⟨b, 0, none⟩) 1 1, .agg #[.int .i64 0, .int .i64 0, .string ⟨#[]⟩, .slice none 0 0], .int .i64 0]) ∧ Below (W9.setCell ⟨w.heap.size, 5, none⟩ (.slice NA nn nc)).heap.size (W9.setCell ⟨w.heap.size, 5, none⟩ (.slice NA nn nc)) w' ∧ TmsK (fun b => (W9.setCell ⟨w.heap.size, 5, none⟩ (.slice NA nn nc)).heap.size ≤ b ∧ b < w'.heap.size) w' (some ⟨b, 0, none⟩) [.mk gk gn gs [p, t]]) := Lib.hid (by
     have := f_done OA on oc q u c d NA nn nc (.mk gk gn gs [p, t]) (some ⟨b, off, none⟩) ac (W9.setCell ⟨w.heap.size, 5, none⟩ (.slice NA nn nc)) ((HAA.out.keep hb9).mono hb9.size) HGV.out
     rw [cloneT_yes HGV.out] at this
     exact this)
    have hz9 : (W9.setCell ⟨w.heap.size, 5, none⟩ (.slice NA nn nc)).heap.size = W9.heap.size := by simp
    rw [hz9] at HDN
    go_wp2_with fail
    refine HDN.out.mono ?_; rintro e w11 ⟨ab, rfl, hB11, hA11⟩
    have HBL11 := Lib.hid (hb9.trans (hB11.mono (by have := hb9.size; omega)))
    have HBK11 := Lib.hid (hk9.call (by rw [hz9]; exact hB11))
    have HP11 := Lib.hid (hp9.below (by rw [hz9]; exact hB11))
    have HA11 := Lib.hid hA11
    clear hB11 hA11 hb9 hk9 hp9 HDN hz9 f0_0 f0_1 f0_2 f0_3 f0_4 f0_5 f1_0 f1_1 f1_2 f1_3 f0f0 f0f1 f0f2 f0f3 f0f4 f0f5 f0l f1l
    have e2_0 := HBK11.out.cell 1 0 rfl rfl
    have e2_1 := HBK11.out.cell 1 1 rfl rfl
    have e2_2 := HBK11.out.cell 1 2 rfl rfl
    have e2_3 := HBK11.out.cell 1 3 rfl rfl
    have e2_4 := HBK11.out.cell 1 4 rfl rfl
    have e2_5 := HBK11.out.cell 1 5 rfl rfl
    have e3_0 := HBK11.out.cell 0 0 rfl rfl
    have e3_1 := HBK11.out.cell 0 1 rfl rfl
    have e3_2 := HBK11.out.cell 0 2 rfl rfl
    have e3_3 := HBK11.out.cell 0 3 rfl rfl
    have e2f0 := HBK11.out.fz 1 0 rfl
    have e2f1 := HBK11.out.fz 1 1 rfl
    have e2f2 := HBK11.out.fz 1 2 rfl
    have e2f3 := HBK11.out.fz 1 3 rfl
    have e2f4 := HBK11.out.fz 1 4 rfl
    have e2f5 := HBK11.out.fz 1 5 rfl
    have e3f0 := HBK11.out.fz 0 0 rfl
    have e3f1 := HBK11.out.fz 0 1 rfl
    have e3f2 := HBK11.out.fz 0 2 rfl
    have e3f3 := HBK11.out.fz 0 3 rfl
    have e2l : w.heap.size + 1 + 1 < w11.heap.size := HBK11.out.lt 1 rfl
    have e3l : w.heap.size + 1 + 1 + 1 < w11.heap.size := HBK11.out.lt 0 rfl
    have HBKZ : Hid (Bks (((((((((((w11.setCell ⟨w.heap.size + 1 + 1, 0, none⟩ (.slice OA on oc)).setCell ⟨w.heap.size + 1 + 1, 1, none⟩ (.int .i64 q)).setCell ⟨w.heap.size + 1 + 1, 2, none⟩ (.int .i64 u)).setCell ⟨w.heap.size + 1 + 1, 3, none⟩ (.bool c)).setCell ⟨w.heap.size + 1 + 1, 4, none⟩ (.bool d)).setCell ⟨w.heap.size + 1 + 1, 5, none⟩ (.slice NA nn nc)).setCell ⟨w.heap.size + 1 + 1 + 1, 0, none⟩ (.int .i64 0)).setCell ⟨w.heap.size + 1 + 1 + 1, 1, none⟩ (.int .i64 0)).setCell ⟨w.heap.size + 1 + 1 + 1, 2, none⟩ (.string ⟨#[]⟩)).setCell ⟨w.heap.size + 1 + 1 + 1, 3, none⟩ (.slice none 0 0))) [(w.heap.size + 1 + 1 + 1, [.int .i64 0, .int .i64 0, .string ⟨#[]⟩, .slice none 0 0]), (w.heap.size + 1 + 1, [.slice OA on oc, .int .i64 q, .int .i64 u, .bool c, .bool d, .slice NA nn nc]), (w.heap.size + 1, [.int .i64 gk, .int .i64 gn, .string gs, .slice (some ⟨b, off, none⟩) 2 ac]), (w.heap.size, [.slice OA on oc, .int .i64 q, .int .i64 u, .bool c, .bool d, .slice NA nn nc])]) := Lib.hid ((HBK11.out.set6 1 rfl (.slice OA on oc) (.int .i64 q) (.int .i64 u) (.bool c) (.bool d) (.slice NA nn nc)).set4 0 rfl (.int .i64 0) (.int .i64 0) (.string ⟨#[]⟩) (.slice none 0 0))
    have hbz : Below w.heap.size w (((((((((((w11.setCell ⟨w.heap.size + 1 + 1, 0, none⟩ (.slice OA on oc)).setCell ⟨w.heap.size + 1 + 1, 1, none⟩ (.int .i64 q)).setCell ⟨w.heap.size + 1 + 1, 2, none⟩ (.int .i64 u)).setCell ⟨w.heap.size + 1 + 1, 3, none⟩ (.bool c)).setCell ⟨w.heap.size + 1 + 1, 4, none⟩ (.bool d)).setCell ⟨w.heap.size + 1 + 1, 5, none⟩ (.slice NA nn nc)).setCell ⟨w.heap.size + 1 + 1 + 1, 0, none⟩ (.int .i64 0)).setCell ⟨w.heap.size + 1 + 1 + 1, 1, none⟩ (.int .i64 0)).setCell ⟨w.heap.size + 1 + 1 + 1, 2, none⟩ (.string ⟨#[]⟩)).setCell ⟨w.heap.size + 1 + 1 + 1, 3, none⟩ (.slice none 0 0))) := ((((((((((HBL11.out.setCell (p := ⟨w.heap.size + 1 + 1, _, none⟩) (show w.heap.size ≤ w.heap.size + 1 + 1 by omega) _).setCell (p := ⟨w.heap.size + 1 + 1, _, none⟩) (show w.heap.size ≤ w.heap.size + 1 + 1 by omega) _).setCell (p := ⟨w.heap.size + 1 + 1, _, none⟩) (show w.heap.size ≤ w.heap.size + 1 + 1 by omega) _).setCell (p := ⟨w.heap.size + 1 + 1, _, none⟩) (show w.heap.size ≤ w.heap.size + 1 + 1 by omega) _).setCell (p := ⟨w.heap.size + 1 + 1, _, none⟩) (show w.heap.size ≤ w.heap.size + 1 + 1 by omega) _).setCell (p := ⟨w.heap.size + 1 + 1, _, none⟩) (show w.heap.size ≤ w.heap.size + 1 + 1 by omega) _).setCell (p := ⟨w.heap.size + 1 + 1 + 1, _, none⟩) (show w.heap.size ≤ w.heap.size + 1 + 1 + 1 by omega) _).setCell (p := ⟨w.heap.size + 1 + 1 + 1, _, none⟩) (show w.heap.size ≤ w.heap.size + 1 + 1 + 1 by omega) _).setCell (p := ⟨w.heap.size + 1 + 1 + 1, _, none⟩) (show w.heap.size ≤ w.heap.size + 1 + 1 + 1 by omega) _).setCell (p := ⟨w.heap.size + 1 + 1 + 1, _, none⟩) (show w.heap.size ≤ w.heap.size + 1 + 1 + 1 by omega) _)
    have hkk : ∀ k, k ≠ w.heap.size + 1 + 1 → k ≠ w.heap.size + 1 + 1 + 1 → (((((((((((w11.setCell ⟨w.heap.size + 1 + 1, 0, none⟩ (.slice OA on oc)).setCell ⟨w.heap.size + 1 + 1, 1, none⟩ (.int .i64 q)).setCell ⟨w.heap.size + 1 + 1, 2, none⟩ (.int .i64 u)).setCell ⟨w.heap.size + 1 + 1, 3, none⟩ (.bool c)).setCell ⟨w.heap.size + 1 + 1, 4, none⟩ (.bool d)).setCell ⟨w.heap.size + 1 + 1, 5, none⟩ (.slice NA nn nc)).setCell ⟨w.heap.size + 1 + 1 + 1, 0, none⟩ (.int .i64 0)).setCell ⟨w.heap.size + 1 + 1 + 1, 1, none⟩ (.int .i64 0)).setCell ⟨w.heap.size + 1 + 1 + 1, 2, none⟩ (.string ⟨#[]⟩)).setCell ⟨w.heap.size + 1 + 1 + 1, 3, none⟩ (.slice none 0 0))).heap[k]? = w11.heap[k]? := fun k h2 h3 => by
     rw [heap_setCell_other _ _ _ _ h3, heap_setCell_other _ _ _ _ h3, heap_setCell_other _ _ _ _ h3, heap_setCell_other _ _ _ _ h3, heap_setCell_other _ _ _ _ h2, heap_setCell_other _ _ _ _ h2, heap_setCell_other _ _ _ _ h2, heap_setCell_other _ _ _ _ h2, heap_setCell_other _ _ _ _ h2, heap_setCell_other _ _ _ _ h2]
    have hNZ : NewT w (((((((((((w11.setCell ⟨w.heap.size + 1 + 1, 0, none⟩ (.slice OA on oc)).setCell ⟨w.heap.size + 1 + 1, 1, none⟩ (.int .i64 q)).setCell ⟨w.heap.size + 1 + 1, 2, none⟩ (.int .i64 u)).setCell ⟨w.heap.size + 1 + 1, 3, none⟩ (.bool c)).setCell ⟨w.heap.size + 1 + 1, 4, none⟩ (.bool d)).setCell ⟨w.heap.size + 1 + 1, 5, none⟩ (.slice NA nn nc)).setCell ⟨w.heap.size + 1 + 1 + 1, 0, none⟩ (.int .i64 0)).setCell ⟨w.heap.size + 1 + 1 + 1, 1, none⟩ (.int .i64 0)).setCell ⟨w.heap.size + 1 + 1 + 1, 2, none⟩ (.string ⟨#[]⟩)).setCell ⟨w.heap.size + 1 + 1 + 1, 3, none⟩ (.slice none 0 0))) (some ⟨ab, 0, none⟩) [.mk gk gn gs [p, t]] := HA11.out.keep (fun b hb => hkk b (by have := HLW.out; have := HSW.out; have := hb.1; omega) (by have := HLW.out; have := HSW.out; have := hb.1; omega)) (fun b hb => ⟨by have := HLW.out; have := HSW.out; have := hb.1; omega, by simpa using hb.2⟩)
    have hPZ : PrI wr.heap.size (((((((((((w11.setCell ⟨w.heap.size + 1 + 1, 0, none⟩ (.slice OA on oc)).setCell ⟨w.heap.size + 1 + 1, 1, none⟩ (.int .i64 q)).setCell ⟨w.heap.size + 1 + 1, 2, none⟩ (.int .i64 u)).setCell ⟨w.heap.size + 1 + 1, 3, none⟩ (.bool c)).setCell ⟨w.heap.size + 1 + 1, 4, none⟩ (.bool d)).setCell ⟨w.heap.size + 1 + 1, 5, none⟩ (.slice NA nn nc)).setCell ⟨w.heap.size + 1 + 1 + 1, 0, none⟩ (.int .i64 0)).setCell ⟨w.heap.size + 1 + 1 + 1, 1, none⟩ (.int .i64 0)).setCell ⟨w.heap.size + 1 + 1 + 1, 2, none⟩ (.string ⟨#[]⟩)).setCell ⟨w.heap.size + 1 + 1 + 1, 3, none⟩ (.slice none 0 0))) NA nn nc (cset cl x.toNat y.toNat) := HP11.out.keep (by simp) (fun b o e => hkk b (by have := (HP11.out.blk b o e).1; have := HLW.out; omega) (by have := (HP11.out.blk b o e).1; have := HLW.out; omega))
    have hTZ : Tab (((((((((((w11.setCell ⟨w.heap.size + 1 + 1, 0, none⟩ (.slice OA on oc)).setCell ⟨w.heap.size + 1 + 1, 1, none⟩ (.int .i64 q)).setCell ⟨w.heap.size + 1 + 1, 2, none⟩ (.int .i64 u)).setCell ⟨w.heap.size + 1 + 1, 3, none⟩ (.bool c)).setCell ⟨w.heap.size + 1 + 1, 4, none⟩ (.bool d)).setCell ⟨w.heap.size + 1 + 1, 5, none⟩ (.slice NA nn nc)).setCell ⟨w.heap.size + 1 + 1 + 1, 0, none⟩ (.int .i64 0)).setCell ⟨w.heap.size + 1 + 1 + 1, 1, none⟩ (.int .i64 0)).setCell ⟨w.heap.size + 1 + 1 + 1, 2, none⟩ (.string ⟨#[]⟩)).setCell ⟨w.heap.size + 1 + 1 + 1, 3, none⟩ (.slice none 0 0))) OA on oc l := HTAB.out.below hbz
    obtain ⟨wz, HWZ⟩ : ∃ wz, Hid (wz = ((((((((((w11.setCell ⟨w.heap.size + 1 + 1, 0, none⟩ (.slice OA on oc)).setCell ⟨w.heap.size + 1 + 1, 1, none⟩ (.int .i64 q)).setCell ⟨w.heap.size + 1 + 1, 2, none⟩ (.int .i64 u)).setCell ⟨w.heap.size + 1 + 1, 3, none⟩ (.bool c)).setCell ⟨w.heap.size + 1 + 1, 4, none⟩ (.bool d)).setCell ⟨w.heap.size + 1 + 1, 5, none⟩ (.slice NA nn nc)).setCell ⟨w.heap.size + 1 + 1 + 1, 0, none⟩ (.int .i64 0)).setCell ⟨w.heap.size + 1 + 1 + 1, 1, none⟩ (.int .i64 0)).setCell ⟨w.heap.size + 1 + 1 + 1, 2, none⟩ (.string ⟨#[]⟩)).setCell ⟨w.heap.size + 1 + 1 + 1, 3, none⟩ (.slice none 0 0))) := ⟨_, Lib.hid rfl⟩
    rw [← HWZ.out] at HBKZ hbz hNZ hPZ hTZ
    have HRI : Hid (RIs BB w wz (rvS OA on oc q u c d NA nn nc (some ⟨ab, 0, none⟩) 1 1) R) := Lib.hid (by
     rw [HRR.out]
     exact ⟨rfl, hTZ, rfl, hPZ.mono (by have := HLW.out; omega), rfl, hNZ⟩)
    have HBZ := Lib.hid hbz
    clear hNZ hPZ hTZ hbz hkk
    go_wp2_with fail
    rw [← HWZ.out]
    have m2_0 := HBKZ.out.cell 1 0 rfl rfl
    have m2_1 := HBKZ.out.cell 1 1 rfl rfl
    have m2_2 := HBKZ.out.cell 1 2 rfl rfl
    have m2_3 := HBKZ.out.cell 1 3 rfl rfl
    have m2_4 := HBKZ.out.cell 1 4 rfl rfl
    have m2_5 := HBKZ.out.cell 1 5 rfl rfl
    have m3_0 := HBKZ.out.cell 0 0 rfl rfl
    have m3_1 := HBKZ.out.cell 0 1 rfl rfl
    have m3_2 := HBKZ.out.cell 0 2 rfl rfl
    have m3_3 := HBKZ.out.cell 0 3 rfl rfl
    exact bodyPost_ret (v := .tuple #[.agg #[.slice OA on oc, .int .i64 q, .int .i64 u, .bool c, .bool d, .slice NA nn nc], .slice (some ⟨ab, 0, none⟩) 1 1, .agg #[.int .i64 0, .int .i64 0, .string ⟨#[]⟩, .slice none 0 0], .int .i64 0]) (by simp [results, Tryz.results115, go_sem, m2_0, m2_1, m2_2, m2_3, m2_4, m2_5, m3_0, m3_1, m3_2, m3_3]) rfl ⟨rvS OA on oc q u c d NA nn nc (some ⟨ab, 0, none⟩) 1 1, rfl, HBZ.out, HRI.out⟩
end Go.Proofs.YtfkhcpeahdkafaaGreat
