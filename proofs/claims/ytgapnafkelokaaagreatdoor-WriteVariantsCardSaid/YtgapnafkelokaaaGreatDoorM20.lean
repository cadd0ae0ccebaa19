/- The reference's writer: structure. -/
import Derived.Test.YtgapnafkelokaaaGreatDoorM19
namespace Hb
open Go Go.RowKit
/-- The boxes of structure. -/
structure Rs3 (w0 w : World) (o : WO) (TA : Option Addr) (TN TC : Nat) (p : OpR) (t : Tm) (A : Option Addr) (cap : Nat) : Prop where
  bel : Below w0.heap.size w0 w
  wb : RwBox w w0.heap.size o TA TN TC
  tb : TBx w (w0.heap.size + 1) t A cap
  ob : BoxG w (w0.heap.size + 1 + 1) p
theorem Rs3.call {w0 w w' : World} {o : WO} {TA : Option Addr} {TN TC : Nat} {p : OpR} {t : Tm} {A : Option Addr} {cap : Nat} (h : Rs3 w0 w o TA TN TC p t A cap) (hB : Below w.heap.size w w') : Rs3 w0 w' o TA TN TC p t A cap :=
  ⟨h.bel.trans (hB.mono h.bel.size), h.wb.call hB, h.tb.call hB, h.ob.call hB⟩
theorem Rs3.start (w : World) (o : WO) (TA : Option Addr) (TN TC : Nat) (p : OpR) (t : Tm) (A : Option Addr) (cap LN : Nat) (e1 e2 e3 : TypeId) (hL : LN = t.args.length) :
    Rs3 w (((w.alloc (.cells #[.slice TA TN TC, .bool o.q, .bool o.ig, .bool o.nu] e1)).alloc (.cells #[.int .i64 t.kind, .int .i64 t.num, .string t.name, .slice A LN cap] e3)).alloc (.cells #[.string p.name, .int .i64 p.typ, .int .i64 p.prec] e2)) o TA TN TC p t A cap := by
  have h2 := Rf2.start w o TA TN TC t A cap LN e1 e3 hL
  have h3 := BoxG.start ((w.alloc (.cells #[.slice TA TN TC, .bool o.q, .bool o.ig, .bool o.nu] e1)).alloc (.cells #[.int .i64 t.kind, .int .i64 t.num, .string t.name, .slice A LN cap] e3)) p e2
  rw [show ((w.alloc (.cells #[.slice TA TN TC, .bool o.q, .bool o.ig, .bool o.nu] e1)).alloc (.cells #[.int .i64 t.kind, .int .i64 t.num, .string t.name, .slice A LN cap] e3)).heap.size = w.heap.size + 1 + 1 by simp] at h3
  have k := (Below.refl _ ((w.alloc (.cells #[.slice TA TN TC, .bool o.q, .bool o.ig, .bool o.nu] e1)).alloc (.cells #[.int .i64 t.kind, .int .i64 t.num, .string t.name, .slice A LN cap] e3))).alloc (Nat.le_refl _) (.cells #[.string p.name, .int .i64 p.typ, .int .i64 p.prec] e2)
  have h := h2.call k
  exact ⟨h.bel, h.wb, h.tb, h3⟩
theorem own_cellsW {e b g n c : Nat} {w : World} {l : List ByteArray} (h : OwnS e b w (.slice (some ⟨g, 0, none⟩) n c) l) : ∀ j u, (l.map Value.string)[j]? = some u → w.cell? ((⟨g, 0, none⟩ : Addr).add j) = some u := by
  unfold OwnS at h
  exact h.cells (g := g) rfl
theorem own_sliceN {e b : Nat} {w : World} {v : Value} {l : List ByteArray} (h : OwnS e b w v l) (hl : 0 < l.length) : ∃ g c, v = .slice (some ⟨g, 0, none⟩) l.length c := by
  obtain ⟨g, c, hv, _⟩ := own_pos h (by omega)
  exact ⟨g, c, hv⟩
theorem OwnS.join {e b : Nat} {w : World} {v : Value} {n : Nat} {xs ys : List ByteArray} (hn : n = xs.length + ys.length) (h : w.ownsRow b e 1 v n (xs.map Value.string ++ ys.map Value.string)) : OwnS e b w v (xs ++ ys) := by
  unfold OwnS
  rw [List.length_append, List.map_append, ← hn]; exact h
theorem left_pos {o : WO} {T : List OpR} {t : Tm} (hk : K4 t) (op : OpR) : 0 < (leftW o T (str o T) t op).length := by
  unfold leftW
  split
  · exact brk_posW _ (str_pos o T t)
  · exact pcs_pos o T hk _ _
end Hb
namespace Go.Proofs.YtgapnafkelokaaaGreatDoor
open Go.RowKit Hb
set_option maxRecDepth 100000
set_option maxHeartbeats 6400000 in
theorem r_pre {o : WO} {TA : Option Addr} {TN TC : Nat} {w0 : World} {t : Tm} {op : OpR} {R1 : List ByteArray} (hnm : op.name.size ≤ 1000000) (hlen : t.args.length = 1) (hR : ∀ A' cap' W, Below w0.heap.size w0 W → TmsAt w0.heap.size w0 A' (t.arg 0).args → Calls Tryz.prog 137 #[rwV o TA TN TC, opV op, tmV (t.arg 0) A' cap'] W fun e w' => ∃ v', e = .returned v' ∧ Below W.heap.size W w' ∧ OwnS 9 W.heap.size w' v' R1) (hr1 : 0 < R1.length) (hr2 : R1.length ≤ 40000) (A : Option Addr) (cap : Nat) (w : World) (hB : Below w0.heap.size w0 w) (hT : TmsAt w0.heap.size w0 A t.args) :
    Calls Tryz.prog 92 #[rwV o TA TN TC, tmV t A cap, opV op, .int .i64 1] w fun e w' => ∃ v', e = .returned v' ∧ Below w.heap.size w w' ∧ OwnS 9 w.heap.size w' v' (nmW o op.name :: R1) := by
  obtain ⟨i, hi, hz0, hz1, hz2⟩ := info_parts infoStr
  have HI := Lib.hid hi
  have HZ0 := Lib.hid hz0
  have HZ1 := Lib.hid hz1
  have HZ2 := Lib.hid hz2
  clear hi hz0 hz1 hz2
  have HL : Hid (1 = t.args.length) := Lib.hid hlen.symm
  have HX := Lib.hid (Rs3.start w o TA TN TC op t A cap 1 70 80 24 HL.out)
  have HBX := HX.out.bel
  have HB0 := Lib.hid (fun W (h : Below w.heap.size w W) => hB.trans (h.mono hB.size))
  have HNM := Lib.hid (fun W => r_name o TA TN TC op.name W hnm)
  obtain ⟨b, off, Ax, cx, rfl, hb, e0, e1, e2, e3, hs0⟩ := hT.get 0 (by omega)
  rw [Nat.zero_mul, Nat.add_zero] at e0 e1 e2 e3
  have HA0 := Lib.hid (Tm.arg_get t 0 (by omega))
  rw [← HA0.out] at hs0 e0 e1 e2 e3
  have hbw := hB
  have HE : Hid (∀ W, Below w.heap.size w W → W.cell? ⟨b, off, none⟩ = some (.int .i64 (t.arg 0).kind) ∧ W.cell? ⟨b, off + 1, none⟩ = some (.int .i64 (t.arg 0).num) ∧ W.cell? ⟨b, off + 2, none⟩ = some (.string (t.arg 0).name) ∧ W.cell? ⟨b, off + 3, none⟩ = some (.slice Ax (t.arg 0).args.length cx)) := Lib.hid (fun W h => by
    have hc : ∀ k, W.cell? ⟨b, k, none⟩ = w0.cell? ⟨b, k, none⟩ := fun k => (HB0.out W h).cell (p := ⟨b, k, none⟩) hb
    exact ⟨(hc _).trans e0, (hc _).trans e1, (hc _).trans e2, (hc _).trans e3⟩)
  have HR := Lib.hid (fun W (h : Below w.heap.size w W) => hR Ax cx W (HB0.out W h) hs0)
  clear hB hT hR e0 e1 e2 e3 hs0 HB0 hlen HA0
  unfold tmV rwV opV at *
  rw [← HL.out]
  generalize t.arg 0 = x at *
  go_enter Tryz.func92, Tryz.ntmps92
  go_upto_region 3 with fail
  generalize HWR : ((w.alloc (.cells #[.slice TA TN TC, .bool o.q, .bool o.ig, .bool o.nu] 70)).alloc (.cells #[.int .i64 t.kind, .int .i64 t.num, .string t.name, .slice (some ⟨b, off, none⟩) 1 cap] 24)).alloc (.cells #[.string op.name, .int .i64 op.typ, .int .i64 op.prec] 80) = wR at *
  clear HWR
  have hbR := HX.out.bel
  have HKP : Hid (∀ X, Below wR.heap.size wR X → X.cell? ⟨w.heap.size, 0, none⟩ = some (.slice TA TN TC) ∧ X.cell? ⟨w.heap.size, 1, none⟩ = some (.bool o.q) ∧ X.cell? ⟨w.heap.size, 2, none⟩ = some (.bool o.ig) ∧ X.cell? ⟨w.heap.size, 3, none⟩ = some (.bool o.nu) ∧ X.cell? ⟨w.heap.size + 1, 3, none⟩ = some (.slice (some ⟨b, off, none⟩) 1 cap) ∧ X.cell? ⟨w.heap.size + 1 + 1, 0, none⟩ = some (.string op.name) ∧ X.cell? ⟨w.heap.size + 1 + 1, 1, none⟩ = some (.int .i64 op.typ) ∧ X.cell? ⟨w.heap.size + 1 + 1, 2, none⟩ = some (.int .i64 op.prec) ∧ X.cell? ⟨b, off, none⟩ = some (.int .i64 x.kind) ∧ X.cell? ⟨b, off + 1, none⟩ = some (.int .i64 x.num) ∧ X.cell? ⟨b, off + 2, none⟩ = some (.string x.name) ∧ X.cell? ⟨b, off + 3, none⟩ = some (.slice Ax x.args.length cx) ∧ Below wR.heap.size wR X) := Lib.hid (fun X h => by
    have hw : ∀ g k, g < wR.heap.size → X.cell? ⟨g, k, none⟩ = wR.cell? ⟨g, k, none⟩ := fun g k h1 => h.cell (p := ⟨g, k, none⟩) h1
    have hwb := HX.out.wb
    have htb := HX.out.tb
    have hob := HX.out.ob
    obtain ⟨e0, e1, e2, e3⟩ := HE.out X (hbR.trans (h.mono hbR.size))
    have h3 := htb.c3
    rw [← HL.out] at h3
    exact ⟨(hw _ _ hwb.lt).trans hwb.c0, (hw _ _ hwb.lt).trans hwb.c1, (hw _ _ hwb.lt).trans hwb.c2, (hw _ _ hwb.lt).trans hwb.c3, (hw _ _ htb.lt).trans h3, (hw _ _ hob.lt).trans hob.c0, (hw _ _ hob.lt).trans hob.c1, (hw _ _ hob.lt).trans hob.c2, e0, e1, e2, e3, h⟩)
  have HOF : Hid (∀ X, (X.cell? ⟨w.heap.size, 0, none⟩ = some (.slice TA TN TC) ∧ X.cell? ⟨w.heap.size, 1, none⟩ = some (.bool o.q) ∧ X.cell? ⟨w.heap.size, 2, none⟩ = some (.bool o.ig) ∧ X.cell? ⟨w.heap.size, 3, none⟩ = some (.bool o.nu) ∧ X.cell? ⟨w.heap.size + 1, 3, none⟩ = some (.slice (some ⟨b, off, none⟩) 1 cap) ∧ X.cell? ⟨w.heap.size + 1 + 1, 0, none⟩ = some (.string op.name) ∧ X.cell? ⟨w.heap.size + 1 + 1, 1, none⟩ = some (.int .i64 op.typ) ∧ X.cell? ⟨w.heap.size + 1 + 1, 2, none⟩ = some (.int .i64 op.prec) ∧ X.cell? ⟨b, off, none⟩ = some (.int .i64 x.kind) ∧ X.cell? ⟨b, off + 1, none⟩ = some (.int .i64 x.num) ∧ X.cell? ⟨b, off + 2, none⟩ = some (.string x.name) ∧ X.cell? ⟨b, off + 3, none⟩ = some (.slice Ax x.args.length cx) ∧ Below wR.heap.size wR X) → Below wR.heap.size wR X) := Lib.hid (fun X h => h.2.2.2.2.2.2.2.2.2.2.2.2)
  have HR3 := Lib.hid (fun X (h : Below wR.heap.size wR X) => HR.out X (hbR.trans (h.mono hbR.size)))
  have HNM2 := Lib.hid HNM.out
  obtain ⟨nm, HNE⟩ : ∃ nm, Hid (nm = nmW o op.name) := ⟨_, Lib.hid rfl⟩
  rw [← HNE.out] at HNM2
  clear HNM HR HE HX HBX
  have hi0 : (0 : Int) < (1 : Int) := by omega
  go_region_held3 (fun X => X.cell? ⟨w.heap.size, 0, none⟩ = some (.slice TA TN TC) ∧ X.cell? ⟨w.heap.size, 1, none⟩ = some (.bool o.q) ∧ X.cell? ⟨w.heap.size, 2, none⟩ = some (.bool o.ig) ∧ X.cell? ⟨w.heap.size, 3, none⟩ = some (.bool o.nu) ∧ X.cell? ⟨w.heap.size + 1, 3, none⟩ = some (.slice (some ⟨b, off, none⟩) 1 cap) ∧ X.cell? ⟨w.heap.size + 1 + 1, 0, none⟩ = some (.string op.name) ∧ X.cell? ⟨w.heap.size + 1 + 1, 1, none⟩ = some (.int .i64 op.typ) ∧ X.cell? ⟨w.heap.size + 1 + 1, 2, none⟩ = some (.int .i64 op.prec) ∧ X.cell? ⟨b, off, none⟩ = some (.int .i64 x.kind) ∧ X.cell? ⟨b, off + 1, none⟩ = some (.int .i64 x.num) ∧ X.cell? ⟨b, off + 2, none⟩ = some (.string x.name) ∧ X.cell? ⟨b, off + 3, none⟩ = some (.slice Ax x.args.length cx) ∧ Below wR.heap.size wR X)
      (first
        | with_reducible exact HKP.out _ (Below.refl _ _).drew
        | with_reducible exact HKP.out _ hR6
        | (with_reducible refine HKP.out _ (Below.trans (HOF.out _ (by with_reducible assumption)) (Below.mono ?_ (HOF.out _ (by with_reducible assumption)).size)); with_reducible assumption)
        | with_reducible exact HKP.out _ (Below.alloc (HOF.out _ (by with_reducible assumption)) (HOF.out _ (by with_reducible assumption)).size _))
      (first
        | (go_at_call 87; (with_reducible refine (HNM2.out _).mono ?_); rintro e w4 ⟨rfl, hB4⟩; have hq4 := (HOF.out _ (by with_reducible assumption)).trans (Below.mono hB4 (HOF.out _ (by with_reducible assumption)).size))
        | (go_at_call 137; (with_reducible refine (HR3.out w4 hq4).mono ?_); rintro e w5 ⟨v5, rfl, hB5, hO5'⟩; obtain ⟨g5, c5, rfl⟩ := own_sliceN hO5' hr1; have hO5 := hO5'.mono hq4.size; have hq5 := hq4.trans (hB5.mono hq4.size))
        | (go_at_call 137; have hq4a := hq4.alloc hq4.size (.cells #[.string nm] 9); (with_reducible refine (HR3.out (w4.alloc (.cells #[.string nm] 9)) hq4a).mono ?_); rintro e w5 ⟨v5, rfl, hB5, hO5'⟩; obtain ⟨g5, c5, rfl⟩ := own_sliceN hO5' hr1; have hO5 := hO5'.mono hq4a.size; have hq5 := hq4a.trans (hB5.mono hq4a.size))
        | (have hown : OwnS 9 wR.heap.size w5 (.slice (some ⟨w4.heap.size, 0, none⟩) 1 1) [nm] := ((OwnS.one 9 w4 nm).mono hq4.size).below hB5; refine step_append_lies _ (by rfl) _ _ 28 (by rfl) wR.heap.size 9 i _ 1 16 Tryz.underlying28 HI.out HZ0.out HZ1.out HZ2.out (by rfl) (by decide) (.slice (some ⟨w4.heap.size, 0, none⟩) 1 1) 1 ([nm].map Value.string) (by rfl) hown ⟨g5, 0, none⟩ R1.length c5 (R1.map Value.string) (by rfl) (by rw [List.length_map, Nat.mul_one]) (own_cellsW hO5) (strs_one _) hr1 (by unfold maxLen; omega) (by omega) hq5.size w5.heap.size rfl ?_; intro g6 c6 w6 hown6 hg6 hat6 hlt6; have hR6 : Below wR.heap.size wR w6 := hq5.grown hg6 hq5.size (fun k hk => (hown.lt k hk).1))
        | (have hown : OwnS 9 wR.heap.size (w5.alloc (.cells #[.string nm] 9)) (.slice (some ⟨w5.heap.size, 0, none⟩) 1 1) [nm] := ((OwnS.one 9 w5 nm).mono hq5.size); have hO5 := hO5.below ((Below.refl _ _).alloc (Nat.le_refl _) (.cells #[.string nm] 9)); have hq5 := hq5.alloc hq5.size (.cells #[.string nm] 9); refine step_append_lies _ (by rfl) _ _ 28 (by rfl) wR.heap.size 9 i _ 1 16 Tryz.underlying28 HI.out HZ0.out HZ1.out HZ2.out (by rfl) (by decide) (.slice (some ⟨w5.heap.size, 0, none⟩) 1 1) 1 ([nm].map Value.string) (by rfl) hown ⟨g5, 0, none⟩ R1.length c5 (R1.map Value.string) (by rfl) (by rw [List.length_map, Nat.mul_one]) (own_cellsW hO5) (strs_one _) hr1 (by unfold maxLen; omega) (by omega) hq5.size (w5.heap.size + 1) (by simp) ?_; intro g6 c6 w6 hown6 hg6 hat6 hlt6; have hR6 : Below wR.heap.size wR w6 := hq5.grown hg6 hq5.size (fun k hk => (hown.lt k hk).1))
        | fail)
  all_goals
    have HO6 := Lib.hid (OwnS.join (xs := [nm]) (ys := R1) rfl hown6)
    have hfin := hbR.trans (hR6.mono hbR.size)
    have HO7 := Lib.hid (HO6.out.mono hbR.size)
    clear hown6 hg6 HO6
    go_wp2_with fail
    go_ret
    exact ⟨_, rfl, hfin, by rw [← HNE.out]; exact HO7.out⟩
set_option maxHeartbeats 6400000 in
theorem r_post {o : WO} {TA : Option Addr} {TN TC : Nat} {w0 : World} {t : Tm} {op : OpR} {R1 : List ByteArray} (hnm : op.name.size ≤ 1000000) (hlen : t.args.length = 1) (hR : ∀ A' cap' W, Below w0.heap.size w0 W → TmsAt w0.heap.size w0 A' (t.arg 0).args → Calls Tryz.prog 138 #[rwV o TA TN TC, opV op, tmV (t.arg 0) A' cap'] W fun e w' => ∃ v', e = .returned v' ∧ Below W.heap.size W w' ∧ OwnS 9 W.heap.size w' v' R1) (hr1 : 0 < R1.length) (hr2 : R1.length ≤ 40000) (A : Option Addr) (cap : Nat) (w : World) (hB : Below w0.heap.size w0 w) (hT : TmsAt w0.heap.size w0 A t.args) :
    Calls Tryz.prog 92 #[rwV o TA TN TC, tmV t A cap, opV op, .int .i64 3] w fun e w' => ∃ v', e = .returned v' ∧ Below w.heap.size w w' ∧ OwnS 9 w.heap.size w' v' (R1 ++ [nmW o op.name]) := by
  obtain ⟨i, hi, hz0, hz1, hz2⟩ := info_parts infoStr
  have HI := Lib.hid hi
  have HZ0 := Lib.hid hz0
  have HZ1 := Lib.hid hz1
  have HZ2 := Lib.hid hz2
  clear hi hz0 hz1 hz2
  have HL : Hid (1 = t.args.length) := Lib.hid hlen.symm
  have HX := Lib.hid (Rs3.start w o TA TN TC op t A cap 1 70 80 24 HL.out)
  have HBX := HX.out.bel
  have HB0 := Lib.hid (fun W (h : Below w.heap.size w W) => hB.trans (h.mono hB.size))
  have HNM := Lib.hid (fun W => r_name o TA TN TC op.name W hnm)
  obtain ⟨b, off, Ax, cx, rfl, hb, e0, e1, e2, e3, hs0⟩ := hT.get 0 (by omega)
  rw [Nat.zero_mul, Nat.add_zero] at e0 e1 e2 e3
  have HA0 := Lib.hid (Tm.arg_get t 0 (by omega))
  rw [← HA0.out] at hs0 e0 e1 e2 e3
  have hbw := hB
  have HE : Hid (∀ W, Below w.heap.size w W → W.cell? ⟨b, off, none⟩ = some (.int .i64 (t.arg 0).kind) ∧ W.cell? ⟨b, off + 1, none⟩ = some (.int .i64 (t.arg 0).num) ∧ W.cell? ⟨b, off + 2, none⟩ = some (.string (t.arg 0).name) ∧ W.cell? ⟨b, off + 3, none⟩ = some (.slice Ax (t.arg 0).args.length cx)) := Lib.hid (fun W h => by
    have hc : ∀ k, W.cell? ⟨b, k, none⟩ = w0.cell? ⟨b, k, none⟩ := fun k => (HB0.out W h).cell (p := ⟨b, k, none⟩) hb
    exact ⟨(hc _).trans e0, (hc _).trans e1, (hc _).trans e2, (hc _).trans e3⟩)
  have HR := Lib.hid (fun W (h : Below w.heap.size w W) => hR Ax cx W (HB0.out W h) hs0)
  clear hB hT hR e0 e1 e2 e3 hs0 HB0 hlen HA0
  unfold tmV rwV opV at *
  rw [← HL.out]
  generalize t.arg 0 = x at *
  go_enter Tryz.func92, Tryz.ntmps92
  go_upto_region 5 with fail
  generalize HWR : ((w.alloc (.cells #[.slice TA TN TC, .bool o.q, .bool o.ig, .bool o.nu] 70)).alloc (.cells #[.int .i64 t.kind, .int .i64 t.num, .string t.name, .slice (some ⟨b, off, none⟩) 1 cap] 24)).alloc (.cells #[.string op.name, .int .i64 op.typ, .int .i64 op.prec] 80) = wR at *
  clear HWR
  have hbR := HX.out.bel
  have HKP : Hid (∀ X, Below wR.heap.size wR X → X.cell? ⟨w.heap.size, 0, none⟩ = some (.slice TA TN TC) ∧ X.cell? ⟨w.heap.size, 1, none⟩ = some (.bool o.q) ∧ X.cell? ⟨w.heap.size, 2, none⟩ = some (.bool o.ig) ∧ X.cell? ⟨w.heap.size, 3, none⟩ = some (.bool o.nu) ∧ X.cell? ⟨w.heap.size + 1, 3, none⟩ = some (.slice (some ⟨b, off, none⟩) 1 cap) ∧ X.cell? ⟨w.heap.size + 1 + 1, 0, none⟩ = some (.string op.name) ∧ X.cell? ⟨w.heap.size + 1 + 1, 1, none⟩ = some (.int .i64 op.typ) ∧ X.cell? ⟨w.heap.size + 1 + 1, 2, none⟩ = some (.int .i64 op.prec) ∧ X.cell? ⟨b, off, none⟩ = some (.int .i64 x.kind) ∧ X.cell? ⟨b, off + 1, none⟩ = some (.int .i64 x.num) ∧ X.cell? ⟨b, off + 2, none⟩ = some (.string x.name) ∧ X.cell? ⟨b, off + 3, none⟩ = some (.slice Ax x.args.length cx) ∧ Below wR.heap.size wR X) := Lib.hid (fun X h => by
    have hw : ∀ g k, g < wR.heap.size → X.cell? ⟨g, k, none⟩ = wR.cell? ⟨g, k, none⟩ := fun g k h1 => h.cell (p := ⟨g, k, none⟩) h1
    have hwb := HX.out.wb
    have htb := HX.out.tb
    have hob := HX.out.ob
    obtain ⟨e0, e1, e2, e3⟩ := HE.out X (hbR.trans (h.mono hbR.size))
    have h3 := htb.c3
    rw [← HL.out] at h3
    exact ⟨(hw _ _ hwb.lt).trans hwb.c0, (hw _ _ hwb.lt).trans hwb.c1, (hw _ _ hwb.lt).trans hwb.c2, (hw _ _ hwb.lt).trans hwb.c3, (hw _ _ htb.lt).trans h3, (hw _ _ hob.lt).trans hob.c0, (hw _ _ hob.lt).trans hob.c1, (hw _ _ hob.lt).trans hob.c2, e0, e1, e2, e3, h⟩)
  have HOF : Hid (∀ X, (X.cell? ⟨w.heap.size, 0, none⟩ = some (.slice TA TN TC) ∧ X.cell? ⟨w.heap.size, 1, none⟩ = some (.bool o.q) ∧ X.cell? ⟨w.heap.size, 2, none⟩ = some (.bool o.ig) ∧ X.cell? ⟨w.heap.size, 3, none⟩ = some (.bool o.nu) ∧ X.cell? ⟨w.heap.size + 1, 3, none⟩ = some (.slice (some ⟨b, off, none⟩) 1 cap) ∧ X.cell? ⟨w.heap.size + 1 + 1, 0, none⟩ = some (.string op.name) ∧ X.cell? ⟨w.heap.size + 1 + 1, 1, none⟩ = some (.int .i64 op.typ) ∧ X.cell? ⟨w.heap.size + 1 + 1, 2, none⟩ = some (.int .i64 op.prec) ∧ X.cell? ⟨b, off, none⟩ = some (.int .i64 x.kind) ∧ X.cell? ⟨b, off + 1, none⟩ = some (.int .i64 x.num) ∧ X.cell? ⟨b, off + 2, none⟩ = some (.string x.name) ∧ X.cell? ⟨b, off + 3, none⟩ = some (.slice Ax x.args.length cx) ∧ Below wR.heap.size wR X) → Below wR.heap.size wR X) := Lib.hid (fun X h => h.2.2.2.2.2.2.2.2.2.2.2.2)
  have HR3 := Lib.hid (fun X (h : Below wR.heap.size wR X) => HR.out X (hbR.trans (h.mono hbR.size)))
  have HNM2 := Lib.hid HNM.out
  obtain ⟨nm, HNE⟩ : ∃ nm, Hid (nm = nmW o op.name) := ⟨_, Lib.hid rfl⟩
  rw [← HNE.out] at HNM2
  clear HNM HR HE HX HBX
  have hi0 : (0 : Int) < (1 : Int) := by omega
  go_region_held3 (fun X => X.cell? ⟨w.heap.size, 0, none⟩ = some (.slice TA TN TC) ∧ X.cell? ⟨w.heap.size, 1, none⟩ = some (.bool o.q) ∧ X.cell? ⟨w.heap.size, 2, none⟩ = some (.bool o.ig) ∧ X.cell? ⟨w.heap.size, 3, none⟩ = some (.bool o.nu) ∧ X.cell? ⟨w.heap.size + 1, 3, none⟩ = some (.slice (some ⟨b, off, none⟩) 1 cap) ∧ X.cell? ⟨w.heap.size + 1 + 1, 0, none⟩ = some (.string op.name) ∧ X.cell? ⟨w.heap.size + 1 + 1, 1, none⟩ = some (.int .i64 op.typ) ∧ X.cell? ⟨w.heap.size + 1 + 1, 2, none⟩ = some (.int .i64 op.prec) ∧ X.cell? ⟨b, off, none⟩ = some (.int .i64 x.kind) ∧ X.cell? ⟨b, off + 1, none⟩ = some (.int .i64 x.num) ∧ X.cell? ⟨b, off + 2, none⟩ = some (.string x.name) ∧ X.cell? ⟨b, off + 3, none⟩ = some (.slice Ax x.args.length cx) ∧ Below wR.heap.size wR X)
      (first
        | with_reducible exact HKP.out _ (Below.refl _ _).drew
        | with_reducible exact HKP.out _ hR6
        | (with_reducible refine HKP.out _ (Below.trans (HOF.out _ (by with_reducible assumption)) (Below.mono ?_ (HOF.out _ (by with_reducible assumption)).size)); with_reducible assumption)
        | with_reducible exact HKP.out _ (Below.alloc (HOF.out _ (by with_reducible assumption)) (HOF.out _ (by with_reducible assumption)).size _))
      (first
        | (go_at_call 138; (with_reducible refine (HR3.out _ (HOF.out _ (by with_reducible assumption))).mono ?_); rintro e w4 ⟨v4, rfl, hB4, hO4'⟩; obtain ⟨g4, c4, rfl⟩ := own_sliceN hO4' hr1; have hO4 := hO4'.mono (HOF.out _ (by with_reducible assumption)).size; have hq4 := (HOF.out _ (by with_reducible assumption)).trans (Below.mono hB4 (HOF.out _ (by with_reducible assumption)).size))
        | (go_at_call 87; (with_reducible refine (HNM2.out _).mono ?_); rintro e w5 ⟨rfl, hB5⟩; have hO5 := hO4.below hB5; have hq5 := hq4.trans (hB5.mono hq4.size))
        | (have hown := hO5.below ((Below.refl _ _).alloc (Nat.le_refl _) (.cells #[.string nm] 9)); have hq5a := hq5.alloc hq5.size (.cells #[.string nm] 9); refine step_append_lies _ (by rfl) _ _ 28 (by rfl) wR.heap.size 9 i _ 1 16 Tryz.underlying28 HI.out HZ0.out HZ1.out HZ2.out (by rfl) (by decide) (.slice (some ⟨g4, 0, none⟩) R1.length c4) R1.length (R1.map Value.string) (by rfl) hown ⟨w5.heap.size, 0, none⟩ 1 1 ([nm].map Value.string) (by rfl) (by rfl) (World.news_of_block (heap_alloc_new w5 _)) (strs_one _) (by decide) (by unfold maxLen; omega) (by omega) hq5a.size (w5.heap.size + 1) (by simp) ?_; intro g6 c6 w6 hown6 hg6 hat6 hlt6; have hR6 : Below wR.heap.size wR w6 := hq5a.grown hg6 hq5a.size (fun k hk => (hown.lt k hk).1))
        | fail)
  have HO6 := Lib.hid (OwnS.join (xs := R1) (ys := [nm]) rfl hown6)
  have hfin := hbR.trans (hR6.mono hbR.size)
  have HO7 := Lib.hid (HO6.out.mono hbR.size)
  clear hown6 hg6 HO6
  go_wp2_with fail
  go_ret
  exact ⟨_, rfl, hfin, by rw [← HNE.out]; exact HO7.out⟩
set_option maxHeartbeats 6400000 in
theorem r_inf {o : WO} {TA : Option Addr} {TN TC : Nat} {w0 : World} {t : Tm} {op : OpR} {R1 R2 : List ByteArray} (hnm : op.name.size ≤ 1000000) (hop : 1 ≤ op.prec ∧ op.prec ≤ 1200) (hlen : t.args.length = 2) (hR : ∀ A' cap' W, Below w0.heap.size w0 W → TmsAt w0.heap.size w0 A' (t.arg 0).args → Calls Tryz.prog 138 #[rwV o TA TN TC, opV op, tmV (t.arg 0) A' cap'] W fun e w' => ∃ v', e = .returned v' ∧ Below W.heap.size W w' ∧ OwnS 9 W.heap.size w' v' R1) (hR2 : ∀ A' cap' W, Below w0.heap.size w0 W → TmsAt w0.heap.size w0 A' (t.arg 1).args → Calls Tryz.prog 33 #[rwV o TA TN TC, tmV (t.arg 1) A' cap', .int .i64 (sideR op), .bool true] W fun e w' => ∃ v', e = .returned v' ∧ Below W.heap.size W w' ∧ OwnS 9 W.heap.size w' v' R2) (hr3 : 0 < R2.length) (hr4 : R2.length ≤ 40000) (hr1 : 0 < R1.length) (hr2 : R1.length ≤ 40000) (A : Option Addr) (cap : Nat) (w : World) (hB : Below w0.heap.size w0 w) (hT : TmsAt w0.heap.size w0 A t.args) :
    Calls Tryz.prog 92 #[rwV o TA TN TC, tmV t A cap, opV op, .int .i64 2] w fun e w' => ∃ v', e = .returned v' ∧ Below w.heap.size w w' ∧ OwnS 9 w.heap.size w' v' ((R1 ++ [signW o op.name]) ++ R2) := by
  obtain ⟨i, hi, hz0, hz1, hz2⟩ := info_parts infoStr
  have HI := Lib.hid hi
  have HZ0 := Lib.hid hz0
  have HZ1 := Lib.hid hz1
  have HZ2 := Lib.hid hz2
  clear hi hz0 hz1 hz2
  have HL : Hid (2 = t.args.length) := Lib.hid hlen.symm
  have HX := Lib.hid (Rs3.start w o TA TN TC op t A cap 2 70 80 24 HL.out)
  have HBX := HX.out.bel
  have HB0 := Lib.hid (fun W (h : Below w.heap.size w W) => hB.trans (h.mono hB.size))
  have HNM := Lib.hid (fun W => r_name o TA TN TC op.name W hnm)
  obtain ⟨b, off, Ax, cx, rfl, hb, e0, e1, e2, e3, hs0⟩ := hT.get 0 (by omega)
  rw [Nat.zero_mul, Nat.add_zero] at e0 e1 e2 e3
  have HA0 := Lib.hid (Tm.arg_get t 0 (by omega))
  rw [← HA0.out] at hs0 e0 e1 e2 e3
  have hbw := hB
  have HE : Hid (∀ W, Below w.heap.size w W → W.cell? ⟨b, off, none⟩ = some (.int .i64 (t.arg 0).kind) ∧ W.cell? ⟨b, off + 1, none⟩ = some (.int .i64 (t.arg 0).num) ∧ W.cell? ⟨b, off + 2, none⟩ = some (.string (t.arg 0).name) ∧ W.cell? ⟨b, off + 3, none⟩ = some (.slice Ax (t.arg 0).args.length cx)) := Lib.hid (fun W h => by
    have hc : ∀ k, W.cell? ⟨b, k, none⟩ = w0.cell? ⟨b, k, none⟩ := fun k => (HB0.out W h).cell (p := ⟨b, k, none⟩) hb
    exact ⟨(hc _).trans e0, (hc _).trans e1, (hc _).trans e2, (hc _).trans e3⟩)
  have HR := Lib.hid (fun W (h : Below w.heap.size w W) => hR Ax cx W (HB0.out W h) hs0)
  obtain ⟨b', off', Ay, cy, hAA, hb', f0, f1, f2, f3, hs1⟩ := hT.get 1 (by omega)
  obtain ⟨rfl, rfl⟩ : b = b' ∧ off = off' := by injection hAA with hAA; injection hAA with h1 h2 _; exact ⟨h1, h2⟩
  have HA1 := Lib.hid (Tm.arg_get t 1 (by omega))
  rw [← HA1.out] at hs1 f0 f1 f2 f3
  have HE2 : Hid (∀ W, Below w.heap.size w W → W.cell? ⟨b, off + 4, none⟩ = some (.int .i64 (t.arg 1).kind) ∧ W.cell? ⟨b, off + 4 + 1, none⟩ = some (.int .i64 (t.arg 1).num) ∧ W.cell? ⟨b, off + 4 + 2, none⟩ = some (.string (t.arg 1).name) ∧ W.cell? ⟨b, off + 4 + 3, none⟩ = some (.slice Ay (t.arg 1).args.length cy)) := Lib.hid (fun W h => by
    have hc : ∀ k, W.cell? ⟨b, k, none⟩ = w0.cell? ⟨b, k, none⟩ := fun k => (HB0.out W h).cell (p := ⟨b, k, none⟩) hb
    exact ⟨(hc _).trans f0, (hc _).trans f1, (hc _).trans f2, (hc _).trans f3⟩)
  have HR2 := Lib.hid (fun W (h : Below w.heap.size w W) => hR2 Ay cy W (HB0.out W h) hs1)
  have HSD := Lib.hid (fun W => ref_sides op W (by omega))
  clear f0 f1 f2 f3 hs1 hR2 hAA HA1 hb'
  clear hB hT hR e0 e1 e2 e3 hs0 HB0 hlen HA0
  unfold tmV rwV opV at *
  rw [← HL.out]
  generalize t.arg 0 = x at *
  generalize t.arg 1 = y at *
  go_enter Tryz.func92, Tryz.ntmps92
  go_wp2_with fail
  refine (HNM.out _).mono ?_; rintro e w1 ⟨rfl, hB1⟩
  have hX1 := Lib.hid (HX.out.call hB1)
  have z0 := hX1.out.ob.c0
  have z1 := hX1.out.ob.c1
  have z2 := hX1.out.ob.c2
  obtain ⟨nm, HNE⟩ : ∃ nm, Hid (nm = nmW o op.name) := ⟨_, Lib.hid rfl⟩
  rw [← HNE.out]
  clear HX HBX hB1 HNM
  have hcs : op.name.toList = [44] ∨ op.name.toList = [124] ∨ (¬ op.name.toList = [44] ∧ ¬ op.name.toList = [124]) := by
    by_cases h : op.name.toList = [44]
    · exact .inl h
    · by_cases h2 : op.name.toList = [124]
      · exact .inr (.inl h2)
      · exact .inr (.inr ⟨h, h2⟩)
  rcases hcs with h44 | h124 | ⟨h44, h124⟩
  · have k1 : (op.name.toList == [44]) = true := by rw [h44]; rfl
    have HSG : Hid (signW o op.name = op.name) := Lib.hid (by unfold signW; rw [k1]; rfl)
    go_wp2_with fail
    refine (HSD.out _).mono ?_; rintro e w2 ⟨rfl, hB2⟩
    have hX2 := Lib.hid (hX1.out.call hB2)
    generalize sideL op = sl at *
    generalize sideR op = sr at *
    clear z0 z1 z2 hX1 hB2 HSD h44 k1 HNE
    go_upto_region 10 with fail
    have HWR : Hid (w2 = w2) := Lib.hid rfl
    generalize w2 = wR at *
    clear HWR
    have hbR := hX2.out.bel
    have HKP : Hid (∀ X, Below wR.heap.size wR X → X.cell? ⟨w.heap.size, 0, none⟩ = some (.slice TA TN TC) ∧ X.cell? ⟨w.heap.size, 1, none⟩ = some (.bool o.q) ∧ X.cell? ⟨w.heap.size, 2, none⟩ = some (.bool o.ig) ∧ X.cell? ⟨w.heap.size, 3, none⟩ = some (.bool o.nu) ∧ X.cell? ⟨w.heap.size + 1, 3, none⟩ = some (.slice (some ⟨b, off, none⟩) 2 cap) ∧ X.cell? ⟨w.heap.size + 1 + 1, 0, none⟩ = some (.string op.name) ∧ X.cell? ⟨w.heap.size + 1 + 1, 1, none⟩ = some (.int .i64 op.typ) ∧ X.cell? ⟨w.heap.size + 1 + 1, 2, none⟩ = some (.int .i64 op.prec) ∧ X.cell? ⟨b, off, none⟩ = some (.int .i64 x.kind) ∧ X.cell? ⟨b, off + 1, none⟩ = some (.int .i64 x.num) ∧ X.cell? ⟨b, off + 2, none⟩ = some (.string x.name) ∧ X.cell? ⟨b, off + 3, none⟩ = some (.slice Ax x.args.length cx) ∧ X.cell? ⟨b, off + 4, none⟩ = some (.int .i64 y.kind) ∧ X.cell? ⟨b, off + 4 + 1, none⟩ = some (.int .i64 y.num) ∧ X.cell? ⟨b, off + 4 + 2, none⟩ = some (.string y.name) ∧ X.cell? ⟨b, off + 4 + 3, none⟩ = some (.slice Ay y.args.length cy) ∧ Below wR.heap.size wR X) := Lib.hid (fun X h => by
      have hw : ∀ g k, g < wR.heap.size → X.cell? ⟨g, k, none⟩ = wR.cell? ⟨g, k, none⟩ := fun g k h1 => h.cell (p := ⟨g, k, none⟩) h1
      have hwb := hX2.out.wb
      have htb := hX2.out.tb
      have hob := hX2.out.ob
      obtain ⟨e0, e1, e2, e3⟩ := HE.out X (hbR.trans (h.mono hbR.size))
      obtain ⟨f0, f1, f2, f3⟩ := HE2.out X (hbR.trans (h.mono hbR.size))
      have h3 := htb.c3
      rw [← HL.out] at h3
      exact ⟨(hw _ _ hwb.lt).trans hwb.c0, (hw _ _ hwb.lt).trans hwb.c1, (hw _ _ hwb.lt).trans hwb.c2, (hw _ _ hwb.lt).trans hwb.c3, (hw _ _ htb.lt).trans h3, (hw _ _ hob.lt).trans hob.c0, (hw _ _ hob.lt).trans hob.c1, (hw _ _ hob.lt).trans hob.c2, e0, e1, e2, e3, f0, f1, f2, f3, h⟩)
    have HOF : Hid (∀ X, (X.cell? ⟨w.heap.size, 0, none⟩ = some (.slice TA TN TC) ∧ X.cell? ⟨w.heap.size, 1, none⟩ = some (.bool o.q) ∧ X.cell? ⟨w.heap.size, 2, none⟩ = some (.bool o.ig) ∧ X.cell? ⟨w.heap.size, 3, none⟩ = some (.bool o.nu) ∧ X.cell? ⟨w.heap.size + 1, 3, none⟩ = some (.slice (some ⟨b, off, none⟩) 2 cap) ∧ X.cell? ⟨w.heap.size + 1 + 1, 0, none⟩ = some (.string op.name) ∧ X.cell? ⟨w.heap.size + 1 + 1, 1, none⟩ = some (.int .i64 op.typ) ∧ X.cell? ⟨w.heap.size + 1 + 1, 2, none⟩ = some (.int .i64 op.prec) ∧ X.cell? ⟨b, off, none⟩ = some (.int .i64 x.kind) ∧ X.cell? ⟨b, off + 1, none⟩ = some (.int .i64 x.num) ∧ X.cell? ⟨b, off + 2, none⟩ = some (.string x.name) ∧ X.cell? ⟨b, off + 3, none⟩ = some (.slice Ax x.args.length cx) ∧ X.cell? ⟨b, off + 4, none⟩ = some (.int .i64 y.kind) ∧ X.cell? ⟨b, off + 4 + 1, none⟩ = some (.int .i64 y.num) ∧ X.cell? ⟨b, off + 4 + 2, none⟩ = some (.string y.name) ∧ X.cell? ⟨b, off + 4 + 3, none⟩ = some (.slice Ay y.args.length cy) ∧ Below wR.heap.size wR X) → Below wR.heap.size wR X) := Lib.hid (fun X h => h.2.2.2.2.2.2.2.2.2.2.2.2.2.2.2.2)
    have HR3 := Lib.hid (fun X (h : Below wR.heap.size wR X) => HR.out X (hbR.trans (h.mono hbR.size)))
    have HR4 := Lib.hid (fun X (h : Below wR.heap.size wR X) => HR2.out X (hbR.trans (h.mono hbR.size)))
    clear HR HR2 HE HE2 hX2
    have hi0 : (0 : Int) < (2 : Int) := by decide
    have hi1 : (1 : Int) < (2 : Int) := by decide
    go_region_held3 (fun X => X.cell? ⟨w.heap.size, 0, none⟩ = some (.slice TA TN TC) ∧ X.cell? ⟨w.heap.size, 1, none⟩ = some (.bool o.q) ∧ X.cell? ⟨w.heap.size, 2, none⟩ = some (.bool o.ig) ∧ X.cell? ⟨w.heap.size, 3, none⟩ = some (.bool o.nu) ∧ X.cell? ⟨w.heap.size + 1, 3, none⟩ = some (.slice (some ⟨b, off, none⟩) 2 cap) ∧ X.cell? ⟨w.heap.size + 1 + 1, 0, none⟩ = some (.string op.name) ∧ X.cell? ⟨w.heap.size + 1 + 1, 1, none⟩ = some (.int .i64 op.typ) ∧ X.cell? ⟨w.heap.size + 1 + 1, 2, none⟩ = some (.int .i64 op.prec) ∧ X.cell? ⟨b, off, none⟩ = some (.int .i64 x.kind) ∧ X.cell? ⟨b, off + 1, none⟩ = some (.int .i64 x.num) ∧ X.cell? ⟨b, off + 2, none⟩ = some (.string x.name) ∧ X.cell? ⟨b, off + 3, none⟩ = some (.slice Ax x.args.length cx) ∧ X.cell? ⟨b, off + 4, none⟩ = some (.int .i64 y.kind) ∧ X.cell? ⟨b, off + 4 + 1, none⟩ = some (.int .i64 y.num) ∧ X.cell? ⟨b, off + 4 + 2, none⟩ = some (.string y.name) ∧ X.cell? ⟨b, off + 4 + 3, none⟩ = some (.slice Ay y.args.length cy) ∧ Below wR.heap.size wR X)
        (first
          | with_reducible exact HKP.out _ (Below.refl _ _).drew
          | with_reducible exact HKP.out _ hR6
          | with_reducible exact HKP.out _ ((Below.refl _ _).alloc (Nat.le_refl _) _).drew
          | (with_reducible refine HKP.out _ (Below.trans (HOF.out _ (by with_reducible assumption)) (Below.mono ?_ (HOF.out _ (by with_reducible assumption)).size)); with_reducible assumption)
          | with_reducible exact HKP.out _ (Below.alloc (HOF.out _ (by with_reducible assumption)) (HOF.out _ (by with_reducible assumption)).size _))
        (first
          | (go_at_call 138; (with_reducible refine (HR3.out _ (HOF.out _ (by with_reducible assumption))).mono ?_); rintro e w4 ⟨v4, rfl, hB4, hO4'⟩; obtain ⟨g4, c4, rfl⟩ := own_sliceN hO4' hr1; have hO4 := hO4'.mono (HOF.out _ (by with_reducible assumption)).size; have hq4 := (HOF.out _ (by with_reducible assumption)).trans (Below.mono hB4 (HOF.out _ (by with_reducible assumption)).size))
          | (have hown := hO4.below ((Below.refl _ _).alloc (Nat.le_refl _) (.cells #[.string op.name] 9)); have hq5a := hq4.alloc hq4.size (.cells #[.string op.name] 9); refine step_append_lies _ (by rfl) _ _ 28 (by rfl) wR.heap.size 9 i _ 1 16 Tryz.underlying28 HI.out HZ0.out HZ1.out HZ2.out (by rfl) (by decide) (.slice (some ⟨g4, 0, none⟩) R1.length c4) R1.length (R1.map Value.string) (by rfl) hown ⟨w4.heap.size, 0, none⟩ 1 1 ([op.name].map Value.string) (by rfl) (by rfl) (World.news_of_block (heap_alloc_new w4 _)) (strs_one _) (by decide) (by unfold maxLen; omega) (by omega) hq5a.size (w4.heap.size + 1) (by simp) ?_; intro g6 c6 w6 hown6 hg6 hat6 hlt6; have hR6 : Below wR.heap.size wR w6 := hq5a.grown hg6 hq5a.size (fun k hk => (hown.lt k hk).1))
          | (have hown := hO4; have hq5a := hq4; refine step_append_lies _ (by rfl) _ _ 28 (by rfl) wR.heap.size 9 i _ 1 16 Tryz.underlying28 HI.out HZ0.out HZ1.out HZ2.out (by rfl) (by decide) (.slice (some ⟨g4, 0, none⟩) R1.length c4) R1.length (R1.map Value.string) (by rfl) hown ⟨wR.heap.size, 0, none⟩ 1 1 ([op.name].map Value.string) (by rfl) (by rfl) (World.news_of_block ((hB4.block wR.heap.size (by simp)).trans (heap_alloc_new wR (.cells #[.string op.name] 9)))) (strs_one _) (by decide) (by unfold maxLen; omega) (by omega) hq5a.size w4.heap.size rfl ?_; intro g6 c6 w6 hown6 hg6 hat6 hlt6; have hR6 : Below wR.heap.size wR w6 := hq5a.grown hg6 hq5a.size (fun k hk => (hown.lt k hk).1))
          | fail)
    all_goals
      have HO6 := Lib.hid (OwnS.join (xs := R1) (ys := [op.name]) rfl hown6)
      have HB6 := Lib.hid hR6
      clear hown6 hg6 hR6 hq5a hown hO4 hO4' hB4 hq4
      go_upto_region 11 with fail
      obtain ⟨M, HM⟩ : ∃ M, Hid (M = R1.length + 1) := ⟨_, Lib.hid rfl⟩
      have HO6 : Hid (OwnS 9 wR.heap.size w6 (.slice (some ⟨g6, 0, none⟩) M c6) (R1 ++ [op.name])) := Lib.hid (by rw [HM.out]; exact HO6.out)
      have hm2 : M ≤ 40001 := by have := HM.out; omega
      rw [← HM.out]
      go_region_held3 (fun X => X.cell? ⟨w.heap.size, 0, none⟩ = some (.slice TA TN TC) ∧ X.cell? ⟨w.heap.size, 1, none⟩ = some (.bool o.q) ∧ X.cell? ⟨w.heap.size, 2, none⟩ = some (.bool o.ig) ∧ X.cell? ⟨w.heap.size, 3, none⟩ = some (.bool o.nu) ∧ X.cell? ⟨w.heap.size + 1, 3, none⟩ = some (.slice (some ⟨b, off, none⟩) 2 cap) ∧ X.cell? ⟨w.heap.size + 1 + 1, 0, none⟩ = some (.string op.name) ∧ X.cell? ⟨w.heap.size + 1 + 1, 1, none⟩ = some (.int .i64 op.typ) ∧ X.cell? ⟨w.heap.size + 1 + 1, 2, none⟩ = some (.int .i64 op.prec) ∧ X.cell? ⟨b, off, none⟩ = some (.int .i64 x.kind) ∧ X.cell? ⟨b, off + 1, none⟩ = some (.int .i64 x.num) ∧ X.cell? ⟨b, off + 2, none⟩ = some (.string x.name) ∧ X.cell? ⟨b, off + 3, none⟩ = some (.slice Ax x.args.length cx) ∧ X.cell? ⟨b, off + 4, none⟩ = some (.int .i64 y.kind) ∧ X.cell? ⟨b, off + 4 + 1, none⟩ = some (.int .i64 y.num) ∧ X.cell? ⟨b, off + 4 + 2, none⟩ = some (.string y.name) ∧ X.cell? ⟨b, off + 4 + 3, none⟩ = some (.slice Ay y.args.length cy) ∧ Below wR.heap.size wR X)
          (first
            | with_reducible exact HKP.out _ HB6.out.drew
            | with_reducible exact HKP.out _ hR8
            | with_reducible exact HKP.out _ hq7
            | fail)
          (first
            | (go_at_call 33; (with_reducible refine (HR4.out w6.drew HB6.out.drew).mono ?_); rintro e w7 ⟨v7, rfl, hB7, hO7'⟩; obtain ⟨g7, c7, rfl⟩ := own_sliceN hO7' hr3; have hO7 := hO7'.mono HB6.out.drew.size; have hown7 := OwnS.below (w := w6.drew) HO6.out hB7; have hq7 := HB6.out.drew.trans (hB7.mono HB6.out.drew.size))
            | (refine step_append_lies _ (by rfl) _ _ 28 (by rfl) wR.heap.size 9 i _ 1 16 Tryz.underlying28 HI.out HZ0.out HZ1.out HZ2.out (by rfl) (by decide) (.slice (some ⟨g6, 0, none⟩) M c6) M ((R1 ++ [op.name]).map Value.string) (by rfl) (by have h := hown7; unfold OwnS at h; rw [List.length_append, List.length_singleton, ← HM.out] at h; exact h) ⟨g7, 0, none⟩ R2.length c7 (R2.map Value.string) (by rfl) (by rw [List.length_map, Nat.mul_one]) (own_cellsW hO7) (strs_one _) hr3 (by unfold maxLen; omega) (by omega) hq7.size w7.heap.size rfl ?_; intro g8 c8 w8 hown8 hg8 hat8 hlt8; have hR8 : Below wR.heap.size wR w8 := hq7.grown hg8 hq7.size (fun k hk => (hown7.low hk).1))
            | fail)
      have HO8 : Hid (OwnS 9 wR.heap.size w8 (.slice (some ⟨g8, 0, none⟩) (M + R2.length) c8) ((R1 ++ [op.name]) ++ R2)) := Lib.hid (OwnS.join (by rw [HM.out, List.length_append, List.length_singleton]) hown8)
      have hfin := hbR.trans (hR8.mono hbR.size)
      have HO9 := Lib.hid (HO8.out.mono hbR.size)
      clear hown8 hg8 HO8
      go_wp2_with fail
      go_ret
      exact ⟨_, rfl, hfin, by rw [HSG.out]; exact HO9.out⟩
  · have k1 : (op.name.toList == [124]) = true := by rw [h124]; rfl
    have k2 : (op.name.toList == [44]) = false := by rw [h124]; rfl
    have h44 : ¬ op.name.toList = [44] := by rw [h124]; decide
    have HSG : Hid (signW o op.name = op.name) := Lib.hid (by unfold signW; rw [k1, k2]; rfl)
    go_wp2_with fail
    refine (HSD.out _).mono ?_; rintro e w2 ⟨rfl, hB2⟩
    have hX2 := Lib.hid (hX1.out.call hB2)
    generalize sideL op = sl at *
    generalize sideR op = sr at *
    clear z0 z1 z2 hX1 hB2 HSD h44 h124 k1 k2 HNE
    go_upto_region 10 with fail
    have HWR : Hid (w2 = w2) := Lib.hid rfl
    generalize w2 = wR at *
    clear HWR
    have hbR := hX2.out.bel
    have HKP : Hid (∀ X, Below wR.heap.size wR X → X.cell? ⟨w.heap.size, 0, none⟩ = some (.slice TA TN TC) ∧ X.cell? ⟨w.heap.size, 1, none⟩ = some (.bool o.q) ∧ X.cell? ⟨w.heap.size, 2, none⟩ = some (.bool o.ig) ∧ X.cell? ⟨w.heap.size, 3, none⟩ = some (.bool o.nu) ∧ X.cell? ⟨w.heap.size + 1, 3, none⟩ = some (.slice (some ⟨b, off, none⟩) 2 cap) ∧ X.cell? ⟨w.heap.size + 1 + 1, 0, none⟩ = some (.string op.name) ∧ X.cell? ⟨w.heap.size + 1 + 1, 1, none⟩ = some (.int .i64 op.typ) ∧ X.cell? ⟨w.heap.size + 1 + 1, 2, none⟩ = some (.int .i64 op.prec) ∧ X.cell? ⟨b, off, none⟩ = some (.int .i64 x.kind) ∧ X.cell? ⟨b, off + 1, none⟩ = some (.int .i64 x.num) ∧ X.cell? ⟨b, off + 2, none⟩ = some (.string x.name) ∧ X.cell? ⟨b, off + 3, none⟩ = some (.slice Ax x.args.length cx) ∧ X.cell? ⟨b, off + 4, none⟩ = some (.int .i64 y.kind) ∧ X.cell? ⟨b, off + 4 + 1, none⟩ = some (.int .i64 y.num) ∧ X.cell? ⟨b, off + 4 + 2, none⟩ = some (.string y.name) ∧ X.cell? ⟨b, off + 4 + 3, none⟩ = some (.slice Ay y.args.length cy) ∧ Below wR.heap.size wR X) := Lib.hid (fun X h => by
      have hw : ∀ g k, g < wR.heap.size → X.cell? ⟨g, k, none⟩ = wR.cell? ⟨g, k, none⟩ := fun g k h1 => h.cell (p := ⟨g, k, none⟩) h1
      have hwb := hX2.out.wb
      have htb := hX2.out.tb
      have hob := hX2.out.ob
      obtain ⟨e0, e1, e2, e3⟩ := HE.out X (hbR.trans (h.mono hbR.size))
      obtain ⟨f0, f1, f2, f3⟩ := HE2.out X (hbR.trans (h.mono hbR.size))
      have h3 := htb.c3
      rw [← HL.out] at h3
      exact ⟨(hw _ _ hwb.lt).trans hwb.c0, (hw _ _ hwb.lt).trans hwb.c1, (hw _ _ hwb.lt).trans hwb.c2, (hw _ _ hwb.lt).trans hwb.c3, (hw _ _ htb.lt).trans h3, (hw _ _ hob.lt).trans hob.c0, (hw _ _ hob.lt).trans hob.c1, (hw _ _ hob.lt).trans hob.c2, e0, e1, e2, e3, f0, f1, f2, f3, h⟩)
    have HOF : Hid (∀ X, (X.cell? ⟨w.heap.size, 0, none⟩ = some (.slice TA TN TC) ∧ X.cell? ⟨w.heap.size, 1, none⟩ = some (.bool o.q) ∧ X.cell? ⟨w.heap.size, 2, none⟩ = some (.bool o.ig) ∧ X.cell? ⟨w.heap.size, 3, none⟩ = some (.bool o.nu) ∧ X.cell? ⟨w.heap.size + 1, 3, none⟩ = some (.slice (some ⟨b, off, none⟩) 2 cap) ∧ X.cell? ⟨w.heap.size + 1 + 1, 0, none⟩ = some (.string op.name) ∧ X.cell? ⟨w.heap.size + 1 + 1, 1, none⟩ = some (.int .i64 op.typ) ∧ X.cell? ⟨w.heap.size + 1 + 1, 2, none⟩ = some (.int .i64 op.prec) ∧ X.cell? ⟨b, off, none⟩ = some (.int .i64 x.kind) ∧ X.cell? ⟨b, off + 1, none⟩ = some (.int .i64 x.num) ∧ X.cell? ⟨b, off + 2, none⟩ = some (.string x.name) ∧ X.cell? ⟨b, off + 3, none⟩ = some (.slice Ax x.args.length cx) ∧ X.cell? ⟨b, off + 4, none⟩ = some (.int .i64 y.kind) ∧ X.cell? ⟨b, off + 4 + 1, none⟩ = some (.int .i64 y.num) ∧ X.cell? ⟨b, off + 4 + 2, none⟩ = some (.string y.name) ∧ X.cell? ⟨b, off + 4 + 3, none⟩ = some (.slice Ay y.args.length cy) ∧ Below wR.heap.size wR X) → Below wR.heap.size wR X) := Lib.hid (fun X h => h.2.2.2.2.2.2.2.2.2.2.2.2.2.2.2.2)
    have HR3 := Lib.hid (fun X (h : Below wR.heap.size wR X) => HR.out X (hbR.trans (h.mono hbR.size)))
    have HR4 := Lib.hid (fun X (h : Below wR.heap.size wR X) => HR2.out X (hbR.trans (h.mono hbR.size)))
    clear HR HR2 HE HE2 hX2
    have hi0 : (0 : Int) < (2 : Int) := by decide
    have hi1 : (1 : Int) < (2 : Int) := by decide
    go_region_held3 (fun X => X.cell? ⟨w.heap.size, 0, none⟩ = some (.slice TA TN TC) ∧ X.cell? ⟨w.heap.size, 1, none⟩ = some (.bool o.q) ∧ X.cell? ⟨w.heap.size, 2, none⟩ = some (.bool o.ig) ∧ X.cell? ⟨w.heap.size, 3, none⟩ = some (.bool o.nu) ∧ X.cell? ⟨w.heap.size + 1, 3, none⟩ = some (.slice (some ⟨b, off, none⟩) 2 cap) ∧ X.cell? ⟨w.heap.size + 1 + 1, 0, none⟩ = some (.string op.name) ∧ X.cell? ⟨w.heap.size + 1 + 1, 1, none⟩ = some (.int .i64 op.typ) ∧ X.cell? ⟨w.heap.size + 1 + 1, 2, none⟩ = some (.int .i64 op.prec) ∧ X.cell? ⟨b, off, none⟩ = some (.int .i64 x.kind) ∧ X.cell? ⟨b, off + 1, none⟩ = some (.int .i64 x.num) ∧ X.cell? ⟨b, off + 2, none⟩ = some (.string x.name) ∧ X.cell? ⟨b, off + 3, none⟩ = some (.slice Ax x.args.length cx) ∧ X.cell? ⟨b, off + 4, none⟩ = some (.int .i64 y.kind) ∧ X.cell? ⟨b, off + 4 + 1, none⟩ = some (.int .i64 y.num) ∧ X.cell? ⟨b, off + 4 + 2, none⟩ = some (.string y.name) ∧ X.cell? ⟨b, off + 4 + 3, none⟩ = some (.slice Ay y.args.length cy) ∧ Below wR.heap.size wR X)
        (first
          | with_reducible exact HKP.out _ (Below.refl _ _).drew
          | with_reducible exact HKP.out _ hR6
          | with_reducible exact HKP.out _ ((Below.refl _ _).alloc (Nat.le_refl _) _).drew
          | (with_reducible refine HKP.out _ (Below.trans (HOF.out _ (by with_reducible assumption)) (Below.mono ?_ (HOF.out _ (by with_reducible assumption)).size)); with_reducible assumption)
          | with_reducible exact HKP.out _ (Below.alloc (HOF.out _ (by with_reducible assumption)) (HOF.out _ (by with_reducible assumption)).size _))
        (first
          | (go_at_call 138; (with_reducible refine (HR3.out _ (HOF.out _ (by with_reducible assumption))).mono ?_); rintro e w4 ⟨v4, rfl, hB4, hO4'⟩; obtain ⟨g4, c4, rfl⟩ := own_sliceN hO4' hr1; have hO4 := hO4'.mono (HOF.out _ (by with_reducible assumption)).size; have hq4 := (HOF.out _ (by with_reducible assumption)).trans (Below.mono hB4 (HOF.out _ (by with_reducible assumption)).size))
          | (have hown := hO4.below ((Below.refl _ _).alloc (Nat.le_refl _) (.cells #[.string op.name] 9)); have hq5a := hq4.alloc hq4.size (.cells #[.string op.name] 9); refine step_append_lies _ (by rfl) _ _ 28 (by rfl) wR.heap.size 9 i _ 1 16 Tryz.underlying28 HI.out HZ0.out HZ1.out HZ2.out (by rfl) (by decide) (.slice (some ⟨g4, 0, none⟩) R1.length c4) R1.length (R1.map Value.string) (by rfl) hown ⟨w4.heap.size, 0, none⟩ 1 1 ([op.name].map Value.string) (by rfl) (by rfl) (World.news_of_block (heap_alloc_new w4 _)) (strs_one _) (by decide) (by unfold maxLen; omega) (by omega) hq5a.size (w4.heap.size + 1) (by simp) ?_; intro g6 c6 w6 hown6 hg6 hat6 hlt6; have hR6 : Below wR.heap.size wR w6 := hq5a.grown hg6 hq5a.size (fun k hk => (hown.lt k hk).1))
          | (have hown := hO4; have hq5a := hq4; refine step_append_lies _ (by rfl) _ _ 28 (by rfl) wR.heap.size 9 i _ 1 16 Tryz.underlying28 HI.out HZ0.out HZ1.out HZ2.out (by rfl) (by decide) (.slice (some ⟨g4, 0, none⟩) R1.length c4) R1.length (R1.map Value.string) (by rfl) hown ⟨wR.heap.size, 0, none⟩ 1 1 ([op.name].map Value.string) (by rfl) (by rfl) (World.news_of_block ((hB4.block wR.heap.size (by simp)).trans (heap_alloc_new wR (.cells #[.string op.name] 9)))) (strs_one _) (by decide) (by unfold maxLen; omega) (by omega) hq5a.size w4.heap.size rfl ?_; intro g6 c6 w6 hown6 hg6 hat6 hlt6; have hR6 : Below wR.heap.size wR w6 := hq5a.grown hg6 hq5a.size (fun k hk => (hown.lt k hk).1))
          | fail)
    all_goals
      have HO6 := Lib.hid (OwnS.join (xs := R1) (ys := [op.name]) rfl hown6)
      have HB6 := Lib.hid hR6
      clear hown6 hg6 hR6 hq5a hown hO4 hO4' hB4 hq4
      go_upto_region 11 with fail
      obtain ⟨M, HM⟩ : ∃ M, Hid (M = R1.length + 1) := ⟨_, Lib.hid rfl⟩
      have HO6 : Hid (OwnS 9 wR.heap.size w6 (.slice (some ⟨g6, 0, none⟩) M c6) (R1 ++ [op.name])) := Lib.hid (by rw [HM.out]; exact HO6.out)
      have hm2 : M ≤ 40001 := by have := HM.out; omega
      rw [← HM.out]
      go_region_held3 (fun X => X.cell? ⟨w.heap.size, 0, none⟩ = some (.slice TA TN TC) ∧ X.cell? ⟨w.heap.size, 1, none⟩ = some (.bool o.q) ∧ X.cell? ⟨w.heap.size, 2, none⟩ = some (.bool o.ig) ∧ X.cell? ⟨w.heap.size, 3, none⟩ = some (.bool o.nu) ∧ X.cell? ⟨w.heap.size + 1, 3, none⟩ = some (.slice (some ⟨b, off, none⟩) 2 cap) ∧ X.cell? ⟨w.heap.size + 1 + 1, 0, none⟩ = some (.string op.name) ∧ X.cell? ⟨w.heap.size + 1 + 1, 1, none⟩ = some (.int .i64 op.typ) ∧ X.cell? ⟨w.heap.size + 1 + 1, 2, none⟩ = some (.int .i64 op.prec) ∧ X.cell? ⟨b, off, none⟩ = some (.int .i64 x.kind) ∧ X.cell? ⟨b, off + 1, none⟩ = some (.int .i64 x.num) ∧ X.cell? ⟨b, off + 2, none⟩ = some (.string x.name) ∧ X.cell? ⟨b, off + 3, none⟩ = some (.slice Ax x.args.length cx) ∧ X.cell? ⟨b, off + 4, none⟩ = some (.int .i64 y.kind) ∧ X.cell? ⟨b, off + 4 + 1, none⟩ = some (.int .i64 y.num) ∧ X.cell? ⟨b, off + 4 + 2, none⟩ = some (.string y.name) ∧ X.cell? ⟨b, off + 4 + 3, none⟩ = some (.slice Ay y.args.length cy) ∧ Below wR.heap.size wR X)
          (first
            | with_reducible exact HKP.out _ HB6.out.drew
            | with_reducible exact HKP.out _ hR8
            | with_reducible exact HKP.out _ hq7
            | fail)
          (first
            | (go_at_call 33; (with_reducible refine (HR4.out w6.drew HB6.out.drew).mono ?_); rintro e w7 ⟨v7, rfl, hB7, hO7'⟩; obtain ⟨g7, c7, rfl⟩ := own_sliceN hO7' hr3; have hO7 := hO7'.mono HB6.out.drew.size; have hown7 := OwnS.below (w := w6.drew) HO6.out hB7; have hq7 := HB6.out.drew.trans (hB7.mono HB6.out.drew.size))
            | (refine step_append_lies _ (by rfl) _ _ 28 (by rfl) wR.heap.size 9 i _ 1 16 Tryz.underlying28 HI.out HZ0.out HZ1.out HZ2.out (by rfl) (by decide) (.slice (some ⟨g6, 0, none⟩) M c6) M ((R1 ++ [op.name]).map Value.string) (by rfl) (by have h := hown7; unfold OwnS at h; rw [List.length_append, List.length_singleton, ← HM.out] at h; exact h) ⟨g7, 0, none⟩ R2.length c7 (R2.map Value.string) (by rfl) (by rw [List.length_map, Nat.mul_one]) (own_cellsW hO7) (strs_one _) hr3 (by unfold maxLen; omega) (by omega) hq7.size w7.heap.size rfl ?_; intro g8 c8 w8 hown8 hg8 hat8 hlt8; have hR8 : Below wR.heap.size wR w8 := hq7.grown hg8 hq7.size (fun k hk => (hown7.low hk).1))
            | fail)
      have HO8 : Hid (OwnS 9 wR.heap.size w8 (.slice (some ⟨g8, 0, none⟩) (M + R2.length) c8) ((R1 ++ [op.name]) ++ R2)) := Lib.hid (OwnS.join (by rw [HM.out, List.length_append, List.length_singleton]) hown8)
      have hfin := hbR.trans (hR8.mono hbR.size)
      have HO9 := Lib.hid (HO8.out.mono hbR.size)
      clear hown8 hg8 HO8
      go_wp2_with fail
      go_ret
      exact ⟨_, rfl, hfin, by rw [HSG.out]; exact HO9.out⟩
  · have k1 : (op.name.toList == [44]) = false := by simpa using h44
    have k2 : (op.name.toList == [124]) = false := by simpa using h124
    have HSG : Hid (signW o op.name = nm) := Lib.hid (by unfold signW; rw [k1, k2, HNE.out]; rfl)
    go_wp2_with fail
    refine (HSD.out _).mono ?_; rintro e w2 ⟨rfl, hB2⟩
    have hX2 := Lib.hid (hX1.out.call hB2)
    generalize sideL op = sl at *
    generalize sideR op = sr at *
    clear z0 z1 z2 hX1 hB2 HSD h44 h124 k1 k2 HNE
    go_upto_region 10 with fail
    have HWR : Hid (w2 = w2) := Lib.hid rfl
    generalize w2 = wR at *
    clear HWR
    have hbR := hX2.out.bel
    have HKP : Hid (∀ X, Below wR.heap.size wR X → X.cell? ⟨w.heap.size, 0, none⟩ = some (.slice TA TN TC) ∧ X.cell? ⟨w.heap.size, 1, none⟩ = some (.bool o.q) ∧ X.cell? ⟨w.heap.size, 2, none⟩ = some (.bool o.ig) ∧ X.cell? ⟨w.heap.size, 3, none⟩ = some (.bool o.nu) ∧ X.cell? ⟨w.heap.size + 1, 3, none⟩ = some (.slice (some ⟨b, off, none⟩) 2 cap) ∧ X.cell? ⟨w.heap.size + 1 + 1, 0, none⟩ = some (.string op.name) ∧ X.cell? ⟨w.heap.size + 1 + 1, 1, none⟩ = some (.int .i64 op.typ) ∧ X.cell? ⟨w.heap.size + 1 + 1, 2, none⟩ = some (.int .i64 op.prec) ∧ X.cell? ⟨b, off, none⟩ = some (.int .i64 x.kind) ∧ X.cell? ⟨b, off + 1, none⟩ = some (.int .i64 x.num) ∧ X.cell? ⟨b, off + 2, none⟩ = some (.string x.name) ∧ X.cell? ⟨b, off + 3, none⟩ = some (.slice Ax x.args.length cx) ∧ X.cell? ⟨b, off + 4, none⟩ = some (.int .i64 y.kind) ∧ X.cell? ⟨b, off + 4 + 1, none⟩ = some (.int .i64 y.num) ∧ X.cell? ⟨b, off + 4 + 2, none⟩ = some (.string y.name) ∧ X.cell? ⟨b, off + 4 + 3, none⟩ = some (.slice Ay y.args.length cy) ∧ Below wR.heap.size wR X) := Lib.hid (fun X h => by
      have hw : ∀ g k, g < wR.heap.size → X.cell? ⟨g, k, none⟩ = wR.cell? ⟨g, k, none⟩ := fun g k h1 => h.cell (p := ⟨g, k, none⟩) h1
      have hwb := hX2.out.wb
      have htb := hX2.out.tb
      have hob := hX2.out.ob
      obtain ⟨e0, e1, e2, e3⟩ := HE.out X (hbR.trans (h.mono hbR.size))
      obtain ⟨f0, f1, f2, f3⟩ := HE2.out X (hbR.trans (h.mono hbR.size))
      have h3 := htb.c3
      rw [← HL.out] at h3
      exact ⟨(hw _ _ hwb.lt).trans hwb.c0, (hw _ _ hwb.lt).trans hwb.c1, (hw _ _ hwb.lt).trans hwb.c2, (hw _ _ hwb.lt).trans hwb.c3, (hw _ _ htb.lt).trans h3, (hw _ _ hob.lt).trans hob.c0, (hw _ _ hob.lt).trans hob.c1, (hw _ _ hob.lt).trans hob.c2, e0, e1, e2, e3, f0, f1, f2, f3, h⟩)
    have HOF : Hid (∀ X, (X.cell? ⟨w.heap.size, 0, none⟩ = some (.slice TA TN TC) ∧ X.cell? ⟨w.heap.size, 1, none⟩ = some (.bool o.q) ∧ X.cell? ⟨w.heap.size, 2, none⟩ = some (.bool o.ig) ∧ X.cell? ⟨w.heap.size, 3, none⟩ = some (.bool o.nu) ∧ X.cell? ⟨w.heap.size + 1, 3, none⟩ = some (.slice (some ⟨b, off, none⟩) 2 cap) ∧ X.cell? ⟨w.heap.size + 1 + 1, 0, none⟩ = some (.string op.name) ∧ X.cell? ⟨w.heap.size + 1 + 1, 1, none⟩ = some (.int .i64 op.typ) ∧ X.cell? ⟨w.heap.size + 1 + 1, 2, none⟩ = some (.int .i64 op.prec) ∧ X.cell? ⟨b, off, none⟩ = some (.int .i64 x.kind) ∧ X.cell? ⟨b, off + 1, none⟩ = some (.int .i64 x.num) ∧ X.cell? ⟨b, off + 2, none⟩ = some (.string x.name) ∧ X.cell? ⟨b, off + 3, none⟩ = some (.slice Ax x.args.length cx) ∧ X.cell? ⟨b, off + 4, none⟩ = some (.int .i64 y.kind) ∧ X.cell? ⟨b, off + 4 + 1, none⟩ = some (.int .i64 y.num) ∧ X.cell? ⟨b, off + 4 + 2, none⟩ = some (.string y.name) ∧ X.cell? ⟨b, off + 4 + 3, none⟩ = some (.slice Ay y.args.length cy) ∧ Below wR.heap.size wR X) → Below wR.heap.size wR X) := Lib.hid (fun X h => h.2.2.2.2.2.2.2.2.2.2.2.2.2.2.2.2)
    have HR3 := Lib.hid (fun X (h : Below wR.heap.size wR X) => HR.out X (hbR.trans (h.mono hbR.size)))
    have HR4 := Lib.hid (fun X (h : Below wR.heap.size wR X) => HR2.out X (hbR.trans (h.mono hbR.size)))
    clear HR HR2 HE HE2 hX2
    have hi0 : (0 : Int) < (2 : Int) := by decide
    have hi1 : (1 : Int) < (2 : Int) := by decide
    go_region_held3 (fun X => X.cell? ⟨w.heap.size, 0, none⟩ = some (.slice TA TN TC) ∧ X.cell? ⟨w.heap.size, 1, none⟩ = some (.bool o.q) ∧ X.cell? ⟨w.heap.size, 2, none⟩ = some (.bool o.ig) ∧ X.cell? ⟨w.heap.size, 3, none⟩ = some (.bool o.nu) ∧ X.cell? ⟨w.heap.size + 1, 3, none⟩ = some (.slice (some ⟨b, off, none⟩) 2 cap) ∧ X.cell? ⟨w.heap.size + 1 + 1, 0, none⟩ = some (.string op.name) ∧ X.cell? ⟨w.heap.size + 1 + 1, 1, none⟩ = some (.int .i64 op.typ) ∧ X.cell? ⟨w.heap.size + 1 + 1, 2, none⟩ = some (.int .i64 op.prec) ∧ X.cell? ⟨b, off, none⟩ = some (.int .i64 x.kind) ∧ X.cell? ⟨b, off + 1, none⟩ = some (.int .i64 x.num) ∧ X.cell? ⟨b, off + 2, none⟩ = some (.string x.name) ∧ X.cell? ⟨b, off + 3, none⟩ = some (.slice Ax x.args.length cx) ∧ X.cell? ⟨b, off + 4, none⟩ = some (.int .i64 y.kind) ∧ X.cell? ⟨b, off + 4 + 1, none⟩ = some (.int .i64 y.num) ∧ X.cell? ⟨b, off + 4 + 2, none⟩ = some (.string y.name) ∧ X.cell? ⟨b, off + 4 + 3, none⟩ = some (.slice Ay y.args.length cy) ∧ Below wR.heap.size wR X)
        (first
          | with_reducible exact HKP.out _ (Below.refl _ _).drew
          | with_reducible exact HKP.out _ hR6
          | with_reducible exact HKP.out _ ((Below.refl _ _).alloc (Nat.le_refl _) _).drew
          | (with_reducible refine HKP.out _ (Below.trans (HOF.out _ (by with_reducible assumption)) (Below.mono ?_ (HOF.out _ (by with_reducible assumption)).size)); with_reducible assumption)
          | with_reducible exact HKP.out _ (Below.alloc (HOF.out _ (by with_reducible assumption)) (HOF.out _ (by with_reducible assumption)).size _))
        (first
          | (go_at_call 138; (with_reducible refine (HR3.out _ (HOF.out _ (by with_reducible assumption))).mono ?_); rintro e w4 ⟨v4, rfl, hB4, hO4'⟩; obtain ⟨g4, c4, rfl⟩ := own_sliceN hO4' hr1; have hO4 := hO4'.mono (HOF.out _ (by with_reducible assumption)).size; have hq4 := (HOF.out _ (by with_reducible assumption)).trans (Below.mono hB4 (HOF.out _ (by with_reducible assumption)).size))
          | (have hown := hO4.below ((Below.refl _ _).alloc (Nat.le_refl _) (.cells #[.string nm] 9)); have hq5a := hq4.alloc hq4.size (.cells #[.string nm] 9); refine step_append_lies _ (by rfl) _ _ 28 (by rfl) wR.heap.size 9 i _ 1 16 Tryz.underlying28 HI.out HZ0.out HZ1.out HZ2.out (by rfl) (by decide) (.slice (some ⟨g4, 0, none⟩) R1.length c4) R1.length (R1.map Value.string) (by rfl) hown ⟨w4.heap.size, 0, none⟩ 1 1 ([nm].map Value.string) (by rfl) (by rfl) (World.news_of_block (heap_alloc_new w4 _)) (strs_one _) (by decide) (by unfold maxLen; omega) (by omega) hq5a.size (w4.heap.size + 1) (by simp) ?_; intro g6 c6 w6 hown6 hg6 hat6 hlt6; have hR6 : Below wR.heap.size wR w6 := hq5a.grown hg6 hq5a.size (fun k hk => (hown.lt k hk).1))
          | (have hown := hO4; have hq5a := hq4; refine step_append_lies _ (by rfl) _ _ 28 (by rfl) wR.heap.size 9 i _ 1 16 Tryz.underlying28 HI.out HZ0.out HZ1.out HZ2.out (by rfl) (by decide) (.slice (some ⟨g4, 0, none⟩) R1.length c4) R1.length (R1.map Value.string) (by rfl) hown ⟨wR.heap.size, 0, none⟩ 1 1 ([nm].map Value.string) (by rfl) (by rfl) (World.news_of_block ((hB4.block wR.heap.size (by simp)).trans (heap_alloc_new wR (.cells #[.string nm] 9)))) (strs_one _) (by decide) (by unfold maxLen; omega) (by omega) hq5a.size w4.heap.size rfl ?_; intro g6 c6 w6 hown6 hg6 hat6 hlt6; have hR6 : Below wR.heap.size wR w6 := hq5a.grown hg6 hq5a.size (fun k hk => (hown.lt k hk).1))
          | fail)
    all_goals
      have HO6 := Lib.hid (OwnS.join (xs := R1) (ys := [nm]) rfl hown6)
      have HB6 := Lib.hid hR6
      clear hown6 hg6 hR6 hq5a hown hO4 hO4' hB4 hq4
      go_upto_region 11 with fail
      obtain ⟨M, HM⟩ : ∃ M, Hid (M = R1.length + 1) := ⟨_, Lib.hid rfl⟩
      have HO6 : Hid (OwnS 9 wR.heap.size w6 (.slice (some ⟨g6, 0, none⟩) M c6) (R1 ++ [nm])) := Lib.hid (by rw [HM.out]; exact HO6.out)
      have hm2 : M ≤ 40001 := by have := HM.out; omega
      rw [← HM.out]
      go_region_held3 (fun X => X.cell? ⟨w.heap.size, 0, none⟩ = some (.slice TA TN TC) ∧ X.cell? ⟨w.heap.size, 1, none⟩ = some (.bool o.q) ∧ X.cell? ⟨w.heap.size, 2, none⟩ = some (.bool o.ig) ∧ X.cell? ⟨w.heap.size, 3, none⟩ = some (.bool o.nu) ∧ X.cell? ⟨w.heap.size + 1, 3, none⟩ = some (.slice (some ⟨b, off, none⟩) 2 cap) ∧ X.cell? ⟨w.heap.size + 1 + 1, 0, none⟩ = some (.string op.name) ∧ X.cell? ⟨w.heap.size + 1 + 1, 1, none⟩ = some (.int .i64 op.typ) ∧ X.cell? ⟨w.heap.size + 1 + 1, 2, none⟩ = some (.int .i64 op.prec) ∧ X.cell? ⟨b, off, none⟩ = some (.int .i64 x.kind) ∧ X.cell? ⟨b, off + 1, none⟩ = some (.int .i64 x.num) ∧ X.cell? ⟨b, off + 2, none⟩ = some (.string x.name) ∧ X.cell? ⟨b, off + 3, none⟩ = some (.slice Ax x.args.length cx) ∧ X.cell? ⟨b, off + 4, none⟩ = some (.int .i64 y.kind) ∧ X.cell? ⟨b, off + 4 + 1, none⟩ = some (.int .i64 y.num) ∧ X.cell? ⟨b, off + 4 + 2, none⟩ = some (.string y.name) ∧ X.cell? ⟨b, off + 4 + 3, none⟩ = some (.slice Ay y.args.length cy) ∧ Below wR.heap.size wR X)
          (first
            | with_reducible exact HKP.out _ HB6.out.drew
            | with_reducible exact HKP.out _ hR8
            | with_reducible exact HKP.out _ hq7
            | fail)
          (first
            | (go_at_call 33; (with_reducible refine (HR4.out w6.drew HB6.out.drew).mono ?_); rintro e w7 ⟨v7, rfl, hB7, hO7'⟩; obtain ⟨g7, c7, rfl⟩ := own_sliceN hO7' hr3; have hO7 := hO7'.mono HB6.out.drew.size; have hown7 := OwnS.below (w := w6.drew) HO6.out hB7; have hq7 := HB6.out.drew.trans (hB7.mono HB6.out.drew.size))
            | (refine step_append_lies _ (by rfl) _ _ 28 (by rfl) wR.heap.size 9 i _ 1 16 Tryz.underlying28 HI.out HZ0.out HZ1.out HZ2.out (by rfl) (by decide) (.slice (some ⟨g6, 0, none⟩) M c6) M ((R1 ++ [nm]).map Value.string) (by rfl) (by have h := hown7; unfold OwnS at h; rw [List.length_append, List.length_singleton, ← HM.out] at h; exact h) ⟨g7, 0, none⟩ R2.length c7 (R2.map Value.string) (by rfl) (by rw [List.length_map, Nat.mul_one]) (own_cellsW hO7) (strs_one _) hr3 (by unfold maxLen; omega) (by omega) hq7.size w7.heap.size rfl ?_; intro g8 c8 w8 hown8 hg8 hat8 hlt8; have hR8 : Below wR.heap.size wR w8 := hq7.grown hg8 hq7.size (fun k hk => (hown7.low hk).1))
            | fail)
      have HO8 : Hid (OwnS 9 wR.heap.size w8 (.slice (some ⟨g8, 0, none⟩) (M + R2.length) c8) ((R1 ++ [nm]) ++ R2)) := Lib.hid (OwnS.join (by rw [HM.out, List.length_append, List.length_singleton]) hown8)
      have hfin := hbR.trans (hR8.mono hbR.size)
      have HO9 := Lib.hid (HO8.out.mono hbR.size)
      clear hown8 hg8 HO8
      go_wp2_with fail
      go_ret
      exact ⟨_, rfl, hfin, by rw [HSG.out]; exact HO9.out⟩
end Go.Proofs.YtgapnafkelokaaaGreatDoor
