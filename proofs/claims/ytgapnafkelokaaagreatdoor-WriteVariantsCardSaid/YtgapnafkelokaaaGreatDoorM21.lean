/- The reference's writer: row. The reference's writer: list. -/
import Derived.Test.YtgapnafkelokaaaGreatDoorM20
namespace Hb
open Go Go.RowKit
/-- An own row that has grown since a world. -/
structure Gro (b : Nat) (e : TypeId) (a : World) (v : Value) (w : World) (v' : Value) (l : List ByteArray) : Prop where
  own : OwnS e b w v' l
  gro : a.grownBy w v.ownBlock
  atb : AtB a v v'
theorem Gro.start {b : Nat} {e : TypeId} {w : World} {v : Value} {l : List ByteArray} (h : OwnS e b w v l) : Gro b e w v w v l := ⟨h, grown_self _ _, .inl rfl⟩
theorem Gro.bel {b : Nat} {e : TypeId} {a w w' : World} {v v' : Value} {l : List ByteArray} (h : Gro b e a v w v' l) (hB : Below w.heap.size w w') : Gro b e a v w' v' l := ⟨h.own.below hB, grown_bel h.gro hB, h.atb⟩
theorem Gro.step {b : Nat} {e : TypeId} {a w w' : World} {v v' v'' : Value} {l l' : List ByteArray} (h : Gro b e a v w v' l) (ho : OwnS e b w' v'' l') (hg : w.grownBy w' v'.ownBlock) (ha : AtB w v' v'') : Gro b e a v w' v'' l' :=
  ⟨ho, grown_on h.gro h.atb hg, h.atb.trans ha h.gro.size⟩
theorem Gro.app {b : Nat} {e : TypeId} {a w w' : World} {v v' : Value} {xs ys : List ByteArray} {g n m c H : Nat} (h : Gro b e a v w v' xs) (hn : n = xs.length) (hm : m = ys.length) (ho : w'.ownsRow b e 1 (.slice (some ⟨g, 0, none⟩) (n + m) c) (n + m) (xs.map Value.string ++ ys.map Value.string)) (hg : w.grownBy w' v'.ownBlock) (hH : w.heap.size = H) (ha : v'.ownBlock = some g ∨ g = H) : Gro b e a v w' (.slice (some ⟨g, 0, none⟩) (n + m) c) (xs ++ ys) :=
  h.step (OwnS.join (by rw [hn, hm]) ho) hg (by
    rcases ha with ha | ha
    · exact .inl ha.symm
    · exact .inr ⟨g, rfl, by omega⟩)
theorem Gro.cell {b : Nat} {e : TypeId} {a w : World} {v v' : Value} {l : List ByteArray} (h : Gro b e a v w v' l) {k : Nat} (j : Nat) (hk : k < a.heap.size) (hne : v.ownBlock ≠ some k) : w.cell? ⟨k, j, none⟩ = a.cell? ⟨k, j, none⟩ := h.gro.cell_far ⟨k, j, none⟩ hk (fun e => hne e.symm)
theorem gro_cell {a w : World} {row : Option Nat} (h : a.grownBy w row) {k : Nat} (j : Nat) (hk : k < a.heap.size) (hne : row ≠ some k) : w.cell? ⟨k, j, none⟩ = a.cell? ⟨k, j, none⟩ := h.cell_far ⟨k, j, none⟩ hk (fun e => hne e.symm)
/-- A row of terms beside an own row: the terms' own rows lie below. -/
def RowAt (B : Nat) (w0 w : World) (row : Option Nat) (A : Option Addr) (l : List Tm) : Prop :=
  ∀ j (hj : j < l.length), ∃ b off A' cap', A = some ⟨b, off, none⟩ ∧ b < w.heap.size ∧ row ≠ some b ∧ w.cell? ⟨b, off + j * 4, none⟩ = some (.int .i64 l[j].kind) ∧ w.cell? ⟨b, off + j * 4 + 1, none⟩ = some (.int .i64 l[j].num) ∧ w.cell? ⟨b, off + j * 4 + 2, none⟩ = some (.string l[j].name) ∧ w.cell? ⟨b, off + j * 4 + 3, none⟩ = some (.slice A' l[j].args.length cap') ∧ TmsAt B w0 A' l[j].args
theorem RowAt.bel {B : Nat} {w0 w w' : World} {row : Option Nat} {A : Option Addr} {l : List Tm} (h : RowAt B w0 w row A l) (hB : Below w.heap.size w w') : RowAt B w0 w' row A l := fun j hj => by
  obtain ⟨b, off, A', cap', e, hb, hn, c0, c1, c2, c3, ht⟩ := h j hj
  have hc : ∀ k, w'.cell? ⟨b, k, none⟩ = w.cell? ⟨b, k, none⟩ := fun k => hB.cell (p := ⟨b, k, none⟩) hb
  exact ⟨b, off, A', cap', e, Nat.lt_of_lt_of_le hb hB.size, hn, (hc _).trans c0, (hc _).trans c1, (hc _).trans c2, (hc _).trans c3, ht⟩
theorem RowAt.of {w0 w : World} {v : Value} {e : TypeId} {xs : List ByteArray} {A : Option Addr} {l : List Tm} (h : TmsAt w0.heap.size w0 A l) (hB : Below w0.heap.size w0 w) (hO : OwnS e w0.heap.size w v xs) : RowAt w0.heap.size w0 w v.ownBlock A l := fun j hj => by
  obtain ⟨b, off, A', cap', e, hb, c0, c1, c2, c3, ht⟩ := h.get j hj
  have hc : ∀ k, w.cell? ⟨b, k, none⟩ = w0.cell? ⟨b, k, none⟩ := fun k => hB.cell (p := ⟨b, k, none⟩) hb
  exact ⟨b, off, A', cap', e, Nat.lt_of_lt_of_le hb hB.size, fun h => by have := (hO.low h).1; omega, (hc _).trans c0, (hc _).trans c1, (hc _).trans c2, (hc _).trans c3, ht⟩
theorem RowAt.gro {B : Nat} {w0 w w' : World} {v v' : Value} {A : Option Addr} {l : List Tm} (h : RowAt B w0 w v.ownBlock A l) (hg : w.grownBy w' v.ownBlock) (ha : AtB w v v') : RowAt B w0 w' v'.ownBlock A l := fun j hj => by
  obtain ⟨b, off, A', cap', e, hb, hn, c0, c1, c2, c3, ht⟩ := h j hj
  have hc : ∀ k, w'.cell? ⟨b, k, none⟩ = w.cell? ⟨b, k, none⟩ := fun k => gro_cell hg k hb hn
  refine ⟨b, off, A', cap', e, Nat.lt_of_lt_of_le hb hg.size, ?_, (hc _).trans c0, (hc _).trans c1, (hc _).trans c2, (hc _).trans c3, ht⟩
  rcases ha with ha | ⟨k, ha, hk⟩
  · rw [ha]; exact hn
  · rw [ha]; intro e; injection e with e; omega
def sumT (l : List Tm) : Nat := (l.map Tm.nodes).sum
theorem sumT_take (l : List Tm) (k : Nat) (h : k < l.length) : sumT (l.take (k + 1)) = sumT (l.take k) + l[k].nodes := by
  unfold sumT
  rw [List.take_succ_eq_append_getElem h, List.map_append, List.sum_append]; simp
theorem sumT_le (l : List Tm) (k : Nat) : sumT (l.take k) ≤ sumT l := by
  have e : sumT l = sumT (l.take k) + sumT (l.drop k) := by
    unfold sumT
    rw [← List.sum_append, ← List.map_append, List.take_append_drop]
  omega
theorem rowW_bound (P : Tm → List ByteArray) (l : List Tm) (h : ∀ x ∈ l, (P x).length + 1 ≤ 9 * x.nodes) (k : Nat) : (rowW P (l.take k)).length ≤ 9 * sumT (l.take k) := row_len P _ fun x hx => h x (List.mem_of_mem_take hx)
end Hb
namespace Go.Proofs.YtgapnafkelokaaaGreatDoor
open Go.RowKit Hb
set_option maxRecDepth 100000
set_option maxHeartbeats 6400000 in
theorem r_row {o : WO} {T : List OpR} {TA : Option Addr} {TN TC : Nat} {w0 : World} (l : List Tm) (hI : ∀ x ∈ l, IOK o T TA TN TC w0 x) (hK : ∀ x ∈ l, K4 x) (A : Option Addr) (n cap : Nat) (w : World) (v : Value) (xs : List ByteArray) (hB : Below w0.heap.size w0 w) (hrow : RowAt w0.heap.size w0 w v.ownBlock A l) (hO : OwnS 9 w0.heap.size w v xs) (hn : n = l.length) (hm : n ≤ 100000) (hlen : xs.length + 9 * sumT l ≤ 100000) :
    Calls Tryz.prog 91 #[rwV o TA TN TC, v, .slice A n cap] w fun e w' => ∃ v', e = .returned v' ∧ OwnS 9 w0.heap.size w' v' (xs ++ rowW (argW o T (str o T)) l) ∧ w.grownBy w' v.ownBlock ∧ AtB w v v' := by
  obtain ⟨i, hi, hz0, hz1, hz2⟩ := info_parts infoStr
  have HI := Lib.hid hi
  have HZ0 := Lib.hid hz0
  have HZ1 := Lib.hid hz1
  have HZ2 := Lib.hid hz2
  clear hi hz0 hz1 hz2
  have HN := Lib.hid hn
  have hA1 := (Below.refl w.heap.size w).alloc (Nat.le_refl _) (.cells #[.slice TA TN TC, .bool o.q, .bool o.ig, .bool o.nu] 70)
  have HWB := Lib.hid (RwBox.start w o TA TN TC 70)
  have HRW := Lib.hid (hrow.bel hA1)
  have HOW := Lib.hid (hO.below hA1)
  have HBW := Lib.hid (hB.trans (hA1.mono hB.size))
  have hvw : v.ownBlock ≠ some w.heap.size := fun e => by have := (hO.low e).2; omega
  have HVW := Lib.hid hvw
  have HIK := Lib.hid (fun x hx => (hI x hx : IOK o T TA TN TC w0 x))
  have HPB := Lib.hid (fun x (hx : x ∈ l) => pcs_len o T (hK x hx) 999 false)
  have HLEN := Lib.hid hlen
  have HFIN : Hid (∀ w', (w.alloc (.cells #[.slice TA TN TC, .bool o.q, .bool o.ig, .bool o.nu] 70)).grownBy w' v.ownBlock → w.grownBy w' v.ownBlock) := Lib.hid (fun w' h => bel_grown hA1 h)
  have HFAT : Hid (∀ v', AtB (w.alloc (.cells #[.slice TA TN TC, .bool o.q, .bool o.ig, .bool o.nu] 70)) v v' → AtB w v v') := Lib.hid (fun v' h => h.imp id fun ⟨k, h1, h2⟩ => ⟨k, h1, Nat.le_trans hA1.size h2⟩)
  have HWL : Hid (w.heap.size < (w.alloc (.cells #[.slice TA TN TC, .bool o.q, .bool o.ig, .bool o.nu] 70)).heap.size) := Lib.hid (by simp)
  clear hI hK hB hrow hO hn hlen hA1 hvw
  unfold rwV
  go_enter Tryz.func91, Tryz.ntmps91
  go_wp2_with fail
  generalize w.alloc (.cells #[.slice TA TN TC, .bool o.q, .bool o.ig, .bool o.nu] 70) = W at *
  go_loopw [1, 7] (fun vk i wr => ∃ k : Nat, k ≤ n ∧ i = .int .i64 k ∧ Hid (Gro w0.heap.size 9 W v wr vk (xs ++ rowW (argW o T (str o T)) (l.take k)))) (fun _ i _ => n - (intOf i).toNat)
  case atStart => exact ⟨0, Nat.zero_le _, rfl, Lib.hid (Gro.start (by show OwnS _ _ _ _ (xs ++ []); rw [List.append_nil]; exact HOW.out))⟩
  case round =>
    obtain ⟨k, hk, rfl, HG⟩ := hrel
    by_cases hlt : k < n
    · have hkl : k < l.length := by have := HN.out; omega
      obtain ⟨b, off, A', cap', rfl, hb, hbn, c0, c1, c2, c3, hs⟩ := HRW.out k hkl
      have HIX := Lib.hid (HIK.out l[k] (List.getElem_mem hkl) 999 false (by decide) A' cap')
      have HRS := Lib.hid (rowW_succ (argW o T (str o T)) l k hkl)
      have hbd := rowW_bound (argW o T (str o T)) l HPB.out k
      have hb1 := sumT_take l k hkl
      have hb2 := sumT_le l (k + 1)
      have hb3 := HLEN.out
      have hal : (xs ++ rowW (argW o T (str o T)) (l.take k)).length + 1 + 9 * l[k].nodes ≤ 100001 := by rw [List.length_append]; omega
      have hp0 := l[k].nodes_pos
      have hS0 : TmsAt w0.heap.size w0 A' l[k].args := hs
      have HS := Lib.hid hS0
      have HSM : Hid (k = 0 → rowW (argW o T (str o T)) (l.take (k + 1)) = rowW (argW o T (str o T)) (l.take k) ++ argW o T (str o T) l[k]) := Lib.hid (fun h => by rw [HRS.out, if_pos h]; rfl)
      have HSN : Hid (¬ k = 0 → rowW (argW o T (str o T)) (l.take (k + 1)) = (rowW (argW o T (str o T)) (l.take k) ++ [s1 44]) ++ argW o T (str o T) l[k]) := Lib.hid (fun h => by rw [HRS.out, if_neg h]; simp)
      have hbd0 : k = 0 → (xs ++ rowW (argW o T (str o T)) (l.take k)).length + 9 * l[k].nodes ≤ 100000 := fun h => by
        have e : rowW (argW o T (str o T)) (l.take k) = [] := by subst h; rfl
        rw [e, List.append_nil]; omega
      have hbdn : ¬ k = 0 → (rowW (argW o T (str o T)) (l.take k)).length + 1 ≤ 9 * sumT (l.take k) := fun h => by
        have e : ∃ j, k = j + 1 := ⟨k - 1, by omega⟩
        obtain ⟨j, rfl⟩ := e
        match l, hkl with
        | a :: l, hkl =>
          have h1 := HPB.out a (List.mem_cons_self ..)
          have h2 := comma_len (argW o T (str o T)) (l.take j) fun x hx => HPB.out x (List.mem_cons_of_mem _ (List.mem_of_mem_take hx))
          show (pcs o T a 999 false ++ (l.take j).flatMap fun u => s1 44 :: argW o T (str o T) u).length + 1 ≤ 9 * (a.nodes + sumT (l.take j))
          rw [List.length_append]
          have e3 : sumT (l.take j) = ((l.take j).map Tm.nodes).sum := rfl
          omega
      have HB0 := Lib.hid hbd0
      have hbN : ¬ k = 0 → (xs ++ rowW (argW o T (str o T)) (l.take k)).length + 1 + 9 * l[k].nodes ≤ 100000 := fun h => by have := hbdn h; rw [List.length_append]; omega
      have HBN := Lib.hid hbN
      clear hbd hb1 hb2 hb3 hs hS0 hbd0 hbdn hbN HRS
      obtain ⟨acc, HAC⟩ : ∃ acc, Hid (acc = xs ++ rowW (argW o T (str o T)) (l.take k)) := ⟨_, Lib.hid rfl⟩
      have HR0 : Hid (k = 0 → xs ++ rowW (argW o T (str o T)) (l.take (k + 1)) = acc ++ pcs o T l[k] 999 false) := Lib.hid (fun h => by rw [HSM.out h, HAC.out, ← List.append_assoc]; rfl)
      have HRN : Hid (¬ k = 0 → xs ++ rowW (argW o T (str o T)) (l.take (k + 1)) = (acc ++ [s1 44]) ++ pcs o T l[k] 999 false) := Lib.hid (fun h => by rw [HSN.out h, HAC.out, ← List.append_assoc, ← List.append_assoc]; rfl)
      rw [← HAC.out] at HG HB0 HBN hal
      clear HAC HSM HSN
      unfold tmV rwV at HIX
      generalize l[k] = x at *
      have hk0 : (0 : Int) ≤ (k : Int) := by omega
      have hk1 : (k : Int) < (n : Int) := by omega
      have HKP : Hid (∀ X, W.grownBy X v.ownBlock → X.cell? ⟨w.heap.size, 0, none⟩ = some (.slice TA TN TC) ∧ X.cell? ⟨w.heap.size, 1, none⟩ = some (.bool o.q) ∧ X.cell? ⟨w.heap.size, 2, none⟩ = some (.bool o.ig) ∧ X.cell? ⟨w.heap.size, 3, none⟩ = some (.bool o.nu) ∧ X.cell? ⟨b, off + k * 4, none⟩ = some (.int .i64 x.kind) ∧ X.cell? ⟨b, off + k * 4 + 1, none⟩ = some (.int .i64 x.num) ∧ X.cell? ⟨b, off + k * 4 + 2, none⟩ = some (.string x.name) ∧ X.cell? ⟨b, off + k * 4 + 3, none⟩ = some (.slice A' x.args.length cap') ∧ W.grownBy X v.ownBlock) := Lib.hid (fun X h =>
        ⟨(gro_cell h _ HWL.out HVW.out).trans HWB.out.c0, (gro_cell h _ HWL.out HVW.out).trans HWB.out.c1, (gro_cell h _ HWL.out HVW.out).trans HWB.out.c2, (gro_cell h _ HWL.out HVW.out).trans HWB.out.c3, (gro_cell h _ hb hbn).trans c0, (gro_cell h _ hb hbn).trans c1, (gro_cell h _ hb hbn).trans c2, (gro_cell h _ hb hbn).trans c3, h⟩)
      clear c0 c1 c2 c3
      by_cases h0 : k = 0
      · have hR := Lib.hid (HR0.out h0)
        have hb0 := HB0.out h0
        have HK0 := Lib.hid h0
        clear HR0 HRN HB0 HBN
        have kz : decide (0 < (k : Int)) = false := by simp; omega
        have kz2 : ¬ 0 < k := by omega
        clear h0
        go_upto_region 6 with fail
        have hIC := Lib.hid (HIX.out wr.drew u1 acc (HBW.out.grown (HG.out.bel (Below.refl _ _).drew).gro HBW.out.size (fun j hj => (HOW.out.low hj).1)) HS.out (HG.out.bel (Below.refl _ _).drew).own hb0)
        have HGD := Lib.hid (HG.out.bel (Below.refl _ _).drew)
        go_region_held3 (fun X => X.cell? ⟨w.heap.size, 0, none⟩ = some (.slice TA TN TC) ∧ X.cell? ⟨w.heap.size, 1, none⟩ = some (.bool o.q) ∧ X.cell? ⟨w.heap.size, 2, none⟩ = some (.bool o.ig) ∧ X.cell? ⟨w.heap.size, 3, none⟩ = some (.bool o.nu) ∧ X.cell? ⟨b, off + k * 4, none⟩ = some (.int .i64 x.kind) ∧ X.cell? ⟨b, off + k * 4 + 1, none⟩ = some (.int .i64 x.num) ∧ X.cell? ⟨b, off + k * 4 + 2, none⟩ = some (.string x.name) ∧ X.cell? ⟨b, off + k * 4 + 3, none⟩ = some (.slice A' x.args.length cap') ∧ W.grownBy X v.ownBlock)
          (first
            | with_reducible exact HKP.out _ HGD.out.gro
            | with_reducible exact HKP.out _ hg3
            | fail)
          (first
            | (go_at_call 59; (with_reducible refine hIC.out.mono ?_); rintro e w2 ⟨v2, rfl, hO2, hg2, ha2⟩; have HG2 := Lib.hid (HGD.out.step hO2 hg2 ha2); have hg3 := HG2.out.gro; clear hO2 hg2 ha2)
            | fail)
        go_wp2_with fail
        go_roundw
        case rel => exact ⟨k + 1, by omega, by go_num, by rw [hR.out]; exact HG2⟩
        case measure => simp [intOf] <;> omega
      · have hR := Lib.hid (HRN.out h0)
        have hb0 := HBN.out h0
        clear HR0 HRN HB0 HBN
        have kz : decide (0 < (k : Int)) = true := by simp; omega
        have kz2 : 0 < k := by omega
        have kz3 : (0 : Int) < (k : Int) := by omega
        have HBL := Lib.hid ((Below.refl _ wr).alloc (Nat.le_refl _) (.cells #[.string (s1 44)] 9))
        have HGA := Lib.hid (HG.out.bel HBL.out)
        have HSR : Hid (∀ j u, ([s1 44].map Value.string)[j]? = some u → (wr.alloc (.cells #[.string (s1 44)] 9)).cell? ((⟨wr.heap.size, 0, none⟩ : Addr).add j) = some u) := Lib.hid (own_cellsW (OwnS.one 9 wr (s1 44)))
        obtain ⟨cm, HCM⟩ : ∃ cm, Hid (cm = s1 44) := ⟨_, Lib.hid rfl⟩
        have hbs : w0.heap.size ≤ (wr.alloc (.cells #[.string (s1 44)] 9)).heap.size := Nat.le_trans HBW.out.size HGA.out.gro.size
        clear h0
        go_wp2_with ((with_reducible refine at_appSS ?_); go_must (refine wpList_append_own_at _ rfl _ _ 28 rfl w0.heap.size 9 i _ 1 16 Tryz.underlying28 HI.out HZ0.out HZ1.out HZ2.out rfl (by decide) _ acc.length (acc.map Value.string) rfl HGA.out.own ⟨wr.heap.size, 0, none⟩ 1 1 ([s1 44].map Value.string) rfl rfl HSR.out (strs_one _) (by unfold maxLen; omega) (by omega) hbs ?_; intro v4 w4 ho4 hg4 _ hat4))
        have HG4 : Hid (Gro w0.heap.size 9 W v w4 v4 (acc ++ [s1 44])) := Lib.hid (HGA.out.step (OwnS.join (by simp) ho4) hg4 (AtB.of_new hat4))
        clear ho4 hg4 hat4 HGA HSR HCM HBL
        go_upto_region 6 with fail
        have hIC := Lib.hid (HIX.out w4.drew v4 (acc ++ [s1 44]) (HBW.out.grown (HG4.out.bel (Below.refl _ _).drew).gro HBW.out.size (fun j hj => (HOW.out.low hj).1)) HS.out (HG4.out.bel (Below.refl _ _).drew).own (by rw [List.length_append, List.length_singleton]; exact hb0))
        have HGD := Lib.hid (HG4.out.bel (Below.refl _ _).drew)
        go_region_held3 (fun X => X.cell? ⟨w.heap.size, 0, none⟩ = some (.slice TA TN TC) ∧ X.cell? ⟨w.heap.size, 1, none⟩ = some (.bool o.q) ∧ X.cell? ⟨w.heap.size, 2, none⟩ = some (.bool o.ig) ∧ X.cell? ⟨w.heap.size, 3, none⟩ = some (.bool o.nu) ∧ X.cell? ⟨b, off + k * 4, none⟩ = some (.int .i64 x.kind) ∧ X.cell? ⟨b, off + k * 4 + 1, none⟩ = some (.int .i64 x.num) ∧ X.cell? ⟨b, off + k * 4 + 2, none⟩ = some (.string x.name) ∧ X.cell? ⟨b, off + k * 4 + 3, none⟩ = some (.slice A' x.args.length cap') ∧ W.grownBy X v.ownBlock)
          (first
            | with_reducible exact HKP.out _ HGD.out.gro
            | with_reducible exact HKP.out _ hg3
            | fail)
          (first
            | (go_at_call 59; (with_reducible refine hIC.out.mono ?_); rintro e w2 ⟨v2, rfl, hO2, hg2, ha2⟩; have HG2 := Lib.hid (HGD.out.step hO2 hg2 ha2); have hg3 := HG2.out.gro; clear hO2 hg2 ha2)
            | fail)
        go_wp2_with fail
        go_roundw
        case rel => exact ⟨k + 1, by omega, by go_num, by rw [hR.out]; exact HG2⟩
        case measure => simp [intOf] <;> omega
    · have hx : l.take k = l := List.take_of_length_le (by have := HN.out; omega)
      rw [hx] at HG
      clear hx
      go_wp2_with fail
      go_ret
      exact ⟨_, rfl, HG.out.own, HFIN.out _ HG.out.gro, HFAT.out _ HG.out.atb⟩
end Go.Proofs.YtgapnafkelokaaaGreatDoor
namespace Hb
open Go Go.RowKit
/-- The elements of a list are being collected. -/
structure LsH (w wr : World) (o : WO) (TA : Option Addr) (TN TC : Nat) (e : TypeId) (u : Tm) (A : Option Addr) (cap : Nat) (v : Value) (rs : List TR) : Prop where
  bel : Below w.heap.size w wr
  lt : w.heap.size + 2 ≤ wr.heap.size
  wb : RwBox wr w.heap.size o TA TN TC
  tb : TBx wr (w.heap.size + 1) u A cap
  rf : ∀ j, wr.frozen? ⟨w.heap.size + 1, j, none⟩ = false
  own : wr.ownsRow (w.heap.size + 2) e 4 v rs.length (rowsC rs)
section
variable {w wr w' : World} {o : WO} {TA : Option Addr} {TN TC : Nat} {e : TypeId} {u : Tm} {A : Option Addr} {cap : Nat} {v : Value} {rs : List TR}
theorem LsH.call (h : LsH w wr o TA TN TC e u A cap v rs) (hB : Below wr.heap.size wr w') : LsH w w' o TA TN TC e u A cap v rs :=
  ⟨h.bel.trans (hB.mono h.bel.size), Nat.le_trans h.lt hB.size, h.wb.call hB, h.tb.call hB, fun j => (hB.frozen (p := ⟨_, j, none⟩) h.tb.lt).trans (h.rf j), own_below h.own hB⟩
theorem LsH.app (h : LsH w wr o TA TN TC e u A cap v rs) {v' : Value} (r : TR) (ho : w'.ownsRow (w.heap.size + 2) e 4 v' (rs.length + 1) (rowsC rs ++ rowC r)) (hg : wr.grownBy w' v.ownBlock) : LsH w w' o TA TN TC e u A cap v' (rs ++ [r]) := by
  have hl := h.lt
  have hlo : ∀ k, v.ownBlock = some k → w.heap.size + 2 ≤ k := fun k hk => (h.own.lt k hk).1
  have hc : ∀ k j, k < w.heap.size + 2 → w'.cell? ⟨k, j, none⟩ = wr.cell? ⟨k, j, none⟩ := fun k j hk => gro_cell hg j (by omega) (fun e => by have := hlo k e; omega)
  have hf : ∀ k j, k < w.heap.size + 2 → w'.frozen? ⟨k, j, none⟩ = wr.frozen? ⟨k, j, none⟩ := fun k j hk => hg.frozen_far ⟨k, j, none⟩ (by show k < _; omega) (fun e => by have := hlo k e.symm; omega)
  refine ⟨h.bel.grown hg (by omega) (fun k hk => by have := hlo k hk; omega), Nat.le_trans h.lt hg.size, ?_, ?_, fun j => (hf _ _ (by omega)).trans (h.rf j), ?_⟩
  · exact ⟨Nat.lt_of_lt_of_le h.wb.lt hg.size, (hc _ _ (by omega)).trans h.wb.c0, (hc _ _ (by omega)).trans h.wb.c1, (hc _ _ (by omega)).trans h.wb.c2, (hc _ _ (by omega)).trans h.wb.c3⟩
  · exact ⟨Nat.lt_of_lt_of_le h.tb.lt hg.size, (hc _ _ (by omega)).trans h.tb.c0, (hc _ _ (by omega)).trans h.tb.c1, (hc _ _ (by omega)).trans h.tb.c2, (hc _ _ (by omega)).trans h.tb.c3⟩
  · rw [rowsC_app, List.length_append]
    have e1 : rowsC [r] = rowC r := by unfold rowsC; simp
    rw [e1]; exact ho
theorem LsH.next (h : LsH w wr o TA TN TC e u A cap v rs) (x : Tm) (A' : Option Addr) (cap' : Nat) : LsH w ((((wr.setCell ⟨w.heap.size + 1, 0, none⟩ (.int .i64 x.kind)).setCell ⟨w.heap.size + 1, 1, none⟩ (.int .i64 x.num)).setCell ⟨w.heap.size + 1, 2, none⟩ (.string x.name)).setCell ⟨w.heap.size + 1, 3, none⟩ (.slice A' x.args.length cap')) o TA TN TC e x A' cap' v rs := by
  obtain ⟨q0, q1, q2, q3, qf⟩ := put4_cells wr (w.heap.size + 1) (.int .i64 x.kind) (.int .i64 x.num) (.string x.name) (.slice A' x.args.length cap') h.tb.c0 h.tb.c1 h.tb.c2 h.tb.c3 _ rfl
  have hne : ∀ k j, k ≠ w.heap.size + 1 → ((((wr.setCell ⟨w.heap.size + 1, 0, none⟩ (.int .i64 x.kind)).setCell ⟨w.heap.size + 1, 1, none⟩ (.int .i64 x.num)).setCell ⟨w.heap.size + 1, 2, none⟩ (.string x.name)).setCell ⟨w.heap.size + 1, 3, none⟩ (.slice A' x.args.length cap')).cell? ⟨k, j, none⟩ = wr.cell? ⟨k, j, none⟩ := fun k j hk => World.cell?_of_block (put4_block wr (w.heap.size + 1) _ _ _ _ k hk)
  refine ⟨put4_below h.bel _ (by omega) _ _ _ _, by rw [put4_size]; exact h.lt, ?_, ?_, fun j => (qf _).trans (h.rf j), ?_⟩
  · exact ⟨by rw [put4_size]; exact h.wb.lt, (hne _ _ (by omega)).trans h.wb.c0, (hne _ _ (by omega)).trans h.wb.c1, (hne _ _ (by omega)).trans h.wb.c2, (hne _ _ (by omega)).trans h.wb.c3⟩
  · exact ⟨by rw [put4_size]; exact h.tb.lt, q0, q1, q2, q3⟩
  · refine ⟨h.own.1, ?_⟩
    rcases h.own.2 with hn | ⟨k, cap, cur, hv, hk, hh, rest⟩
    · exact .inl hn
    · exact .inr ⟨k, cap, cur, hv, hk, by rw [put4_block _ _ _ _ _ _ _ (by omega)]; exact hh, rest⟩
theorem LsH.start (w : World) (o : WO) (TA : Option Addr) (TN TC : Nat) (t : Tm) (A : Option Addr) (cap LN : Nat) (e1 e2 : TypeId) (hL : LN = t.args.length) :
    LsH w ((w.alloc (.cells #[.slice TA TN TC, .bool o.q, .bool o.ig, .bool o.nu] e1)).alloc (.cells #[.int .i64 t.kind, .int .i64 t.num, .string t.name, .slice A LN cap] e2)) o TA TN TC e2 t A cap (.slice none 0 0) [] := by
  have h := Rf2.start w o TA TN TC t A cap LN e1 e2 hL
  exact ⟨h.bel, by simp, h.wb, h.tb, fun j => World.frozen?_alloc_at (w := w.alloc (.cells #[.slice TA TN TC, .bool o.q, .bool o.ig, .bool o.nu] e1)) _ _ (w.heap.size + 1) j (by simp), World.ownsRow_nil _ _ _ _⟩
end
/-- A collected row, beside another own row. -/
theorem RowAt.rows {B b : Nat} {w0 w : World} {row : Option Nat} {e : TypeId} {v : Value} {rs : List TR} (h : w.ownsRow b e 4 v rs.length (rowsC rs)) (hs : ∀ r ∈ rs, TmsAt B w0 r.2.1 r.1.args) (hr : ∀ k, row = some k → k < b) : ∃ A cap, v = .slice A rs.length cap ∧ RowAt B w0 w row A (rs.map (·.1)) := by
  rcases h.2 with ⟨hv, h0⟩ | ⟨g, cap, cur, hv, hg, hh, hn, hm, rest⟩
  · have : rs = [] := List.eq_nil_of_length_eq_zero h0
    subst this
    exact ⟨_, _, hv, fun j hj => absurd hj (by simp)⟩
  · refine ⟨some ⟨g, 0, none⟩, cap, hv, fun j hj => ?_⟩
    rw [List.length_map] at hj
    obtain ⟨p0, p1, p2, p3⟩ := rowsC_get rs j hj
    have hc : ∀ k u, (rowsC rs)[k]? = some u → w.cell? ⟨g, 0 + k, none⟩ = some u := fun k u hu => by
      have := h.cells (g := g) (by rw [hv]; rfl) k u hu
      rw [addr_add] at this
      exact this
    refine ⟨g, 0, rs[j].2.1, rs[j].2.2, rfl, (Array.getElem?_eq_some_iff.1 hh).1, fun e => by have := hr g e; omega, ?_, ?_, ?_, ?_, ?_⟩
    · rw [List.getElem_map]; exact hc _ _ p0
    · rw [List.getElem_map]; exact hc _ _ p1
    · rw [List.getElem_map]; exact hc _ _ p2
    · rw [List.getElem_map]; exact hc _ _ p3
    · rw [List.getElem_map]; exact hs _ (List.getElem_mem _)
end Hb
namespace Go.Proofs.YtgapnafkelokaaaGreatDoor
open Go.RowKit Hb
set_option maxRecDepth 100000
set_option maxHeartbeats 6400000 in
theorem r_list {o : WO} {T : List OpR} {TA : Option Addr} {TN TC : Nat} {w0 : World} (t : Tm) (hcons : t.cons = true) (hI : ∀ x ∈ elemsT t, IOK o T TA TN TC w0 x) (hIt : IOK o T TA TN TC w0 (tailT t)) (hK : K4 t) (A : Option Addr) (cap : Nat) (w : World) (v : Value) (xs : List ByteArray) (hB : Below w0.heap.size w0 w) (hT : TmsAt w0.heap.size w0 A t.args) (hO : OwnS 9 w0.heap.size w v xs) (hlen : xs.length + 9 * t.nodes ≤ 100000) :
    Calls Tryz.prog 89 #[rwV o TA TN TC, v, tmV t A cap] w fun e w' => ∃ v', e = .returned v' ∧ OwnS 9 w0.heap.size w' v' (xs ++ (s1 91 :: ((rowW (argW o T (str o T)) (elemsT t) ++ tailW (argW o T (str o T)) (tailT t)) ++ [s1 93]))) ∧ w.grownBy w' v.ownBlock ∧ AtB w v v' := by
  obtain ⟨i, hi, hz0, hz1, hz2⟩ := info_parts infoStr
  have HI := Lib.hid hi
  have HZ0 := Lib.hid hz0
  have HZ1 := Lib.hid hz1
  have HZ2 := Lib.hid hz2
  clear hi hz0 hz1 hz2
  obtain ⟨it, hi, hz0, hz1, hz2⟩ := info_parts infoTm
  have HI' := Lib.hid hi
  have HZ0' := Lib.hid hz0
  have HZ1' := Lib.hid hz1
  have HZ2' := Lib.hid hz2
  clear hi hz0 hz1 hz2
  obtain ⟨LN, HL⟩ : ∃ LN, Hid (LN = t.args.length) := ⟨_, Lib.hid rfl⟩
  have HST := Lib.hid (LsH.start w o TA TN TC t A cap LN 70 24 HL.out)
  obtain ⟨e1, e2, e3⟩ := elems_k t.nodes t (Nat.le_refl _) hK
  rw [if_pos hcons] at e3
  have HT := Lib.hid hT
  have HB := Lib.hid hB
  have HO := Lib.hid hO
  have HEL := Lib.hid (elemsT_len t)
  have htn : t.nodes ≤ 11111 := by omega
  have HVLT : Hid (∀ k, v.ownBlock = some k → k < w.heap.size) := Lib.hid (fun k hk => (hO.low hk).2)
  have HROW := Lib.hid (fun (A1 : Option Addr) (n c : Nat) (W : World) (v' : Value) (hb : Below w0.heap.size w0 W) (hr : RowAt w0.heap.size w0 W v'.ownBlock A1 (elemsT t)) (ho : OwnS 9 w0.heap.size W v' (xs ++ [s1 91])) (hn : n = (elemsT t).length) => r_row (elemsT t) hI e1 A1 n c W v' (xs ++ [s1 91]) hb hr ho hn (by rw [hn]; have := elemsT_len t; omega) (by rw [List.length_append, List.length_singleton]; unfold sumT; omega))
  have hrb := row_len (argW o T (str o T)) (elemsT t) fun x hx => pcs_len o T (e1 x hx) 999 false
  have HIT := Lib.hid (fun (A1 : Option Addr) (c : Nat) (W : World) (v' : Value) (hb : Below w0.heap.size w0 W) (ht : TmsAt w0.heap.size w0 A1 (tailT t).args) (ho : OwnS 9 w0.heap.size W v' ((xs ++ [s1 91] ++ rowW (argW o T (str o T)) (elemsT t)) ++ [s1 124])) => hIt 999 false (by decide) A1 c W v' _ hb ht ho (by simp only [List.length_append, List.length_singleton]; omega))
  have hxl : xs.length + (rowW (argW o T (str o T)) (elemsT t)).length + (pcs o T (tailT t) 999 false).length + 5 ≤ 100000 := by have := pcs_len o T e2 999 false; omega
  have HTW : Hid (tailW (argW o T (str o T)) (tailT t) = if ((tailT t).kind == 2 && (tailT t).name.toList == [91, 93]) = true then [] else s1 124 :: pcs o T (tailT t) 999 false) := Lib.hid rfl
  clear hcons hI hIt hK hB hT hO hlen e1 e2 e3 hrb
  unfold tmV rwV at *
  rw [← HL.out]
  go_enter Tryz.func89, Tryz.ntmps89
  go_wp2_with fail
  go_loopw [7] (fun lv wr => ∃ (u : Tm) (A1 : Option Addr) (c1 : Nat) (rs : List TR), Hid (LsH w wr o TA TN TC 24 u A1 c1 lv rs) ∧ Hid (TmsAt w0.heap.size w0 A1 u.args) ∧ Hid (∀ r ∈ rs, TmsAt w0.heap.size w0 r.2.1 r.1.args) ∧ Hid (elemsT t = rs.map (fun x : TR => x.1) ++ elemsT u) ∧ Hid (tailT t = tailT u)) (fun lv _ => 100001 - lenV lv)
  case atStart => exact ⟨t, A, cap, [], HST, HT, Lib.hid (fun r hr => absurd hr (by simp)), Lib.hid rfl, Lib.hid rfl⟩
  case round =>
    obtain ⟨u, A1, n1, rs, HS, HU, HRS, HE, HTL⟩ := hrel
    have x0 := HS.out.tb.c0
    have x1 := HS.out.tb.c1
    have x2 := HS.out.tb.c2
    have x3 := HS.out.tb.c3
    have hlen : rs.length + (elemsT u).length ≤ 11111 := by
      have h1 := congrArg List.length HE.out
      rw [List.length_append, List.length_map] at h1
      have h2 := HEL.out
      omega
    have HIC := Lib.hid (fun W => ref_isCons u A1 n1 W)
    unfold tmV at HIC
    cases hc : u.cons
    · rw [hc] at HIC
      have HE2 : Hid (rs.map (fun x : TR => x.1) = elemsT t) := Lib.hid (by rw [HE.out, elemsT_end hc, List.append_nil])
      have HT2 : Hid (tailT t = u) := Lib.hid (by rw [HTL.out, tailT_end hc])
      clear hc HE HTL HST
      go_wp2_with fail
      refine (HIC.out _).mono ?_; rintro e w1 ⟨rfl, hB1⟩
      have HS1 := Lib.hid (HS.out.call hB1)
      clear HS x0 x1 x2 x3 hB1 HIC
      obtain ⟨AL, cL, hlv, hRA⟩ := RowAt.rows (row := v.ownBlock) HS1.out.own HRS.out (fun k hk => by have := HVLT.out k hk; omega)
      subst hlv
      rw [HE2.out] at hRA
      obtain ⟨EN, HEN⟩ : ∃ EN, Hid (EN = (elemsT t).length) := ⟨_, Lib.hid rfl⟩
      have hEN : rs.length = EN := by rw [HEN.out, ← HE2.out, List.length_map]
      rw [hEN]
      have HRA := Lib.hid hRA
      have hbel1 := HS1.out.bel
      have hlt1 := HS1.out.lt
      have HO1 : Hid (OwnS 9 w0.heap.size w1 v xs) := Lib.hid (HO.out.below hbel1)
      have hB1 := HB.out.trans (hbel1.mono HB.out.size)
      have hs01 := hB1.size
      have hnw : ∀ k, w.heap.size ≤ k → v.ownBlock ≠ some k := fun k hk e => by have := HVLT.out k e; omega
      have HKP : Hid (∀ X, w1.grownBy X v.ownBlock → X.cell? ⟨w.heap.size, 0, none⟩ = some (.slice TA TN TC) ∧ X.cell? ⟨w.heap.size, 1, none⟩ = some (.bool o.q) ∧ X.cell? ⟨w.heap.size, 2, none⟩ = some (.bool o.ig) ∧ X.cell? ⟨w.heap.size, 3, none⟩ = some (.bool o.nu) ∧ X.cell? ⟨w.heap.size + 1, 0, none⟩ = some (.int .i64 u.kind) ∧ X.cell? ⟨w.heap.size + 1, 1, none⟩ = some (.int .i64 u.num) ∧ X.cell? ⟨w.heap.size + 1, 2, none⟩ = some (.string u.name) ∧ X.cell? ⟨w.heap.size + 1, 3, none⟩ = some (.slice A1 u.args.length n1) ∧ w1.grownBy X v.ownBlock) := Lib.hid (fun X h => by
        have hwb := HS1.out.wb
        have htb := HS1.out.tb
        exact ⟨(gro_cell h _ hwb.lt (hnw _ (by omega))).trans hwb.c0, (gro_cell h _ hwb.lt (hnw _ (by omega))).trans hwb.c1, (gro_cell h _ hwb.lt (hnw _ (by omega))).trans hwb.c2, (gro_cell h _ hwb.lt (hnw _ (by omega))).trans hwb.c3, (gro_cell h _ htb.lt (hnw _ (by omega))).trans htb.c0, (gro_cell h _ htb.lt (hnw _ (by omega))).trans htb.c1, (gro_cell h _ htb.lt (hnw _ (by omega))).trans htb.c2, (gro_cell h _ htb.lt (hnw _ (by omega))).trans htb.c3, h⟩)
      have HFG : Hid (∀ X, w1.grownBy X v.ownBlock → w.grownBy X v.ownBlock) := Lib.hid (fun X h => bel_grown hbel1 h)
      have HFA : Hid (∀ v', AtB w1 v v' → AtB w v v') := Lib.hid (fun v' h => h.imp id fun ⟨k, h1, h2⟩ => ⟨k, h1, Nat.le_trans hbel1.size h2⟩)
      have HBG : Hid (∀ X, w1.grownBy X v.ownBlock → Below w0.heap.size w0 X) := Lib.hid (fun X h => hB1.grown h hs01 (fun k hk => (HO.out.low hk).1))
      have HIT2 := Lib.hid HIT.out
      have HTTX : ∀ {z}, Hid (tailW (argW o T (str o T)) u = z) → Hid (tailW (argW o T (str o T)) (tailT t) = z) := fun h => Lib.hid (by rw [HT2.out]; exact h.out)
      rw [HT2.out] at HIT2 HTW hxl
      clear hRA hEN HE2 HT2 HRS HIT HS1 hnw
      go_upto_region 5 with fail
      have GA := Lib.hid (((Gro.start HO1.out).bel ((Below.refl _ _).alloc (Nat.le_refl _) (.cells #[.string (s1 91)] 9))).bel (Below.refl _ _).drew)
      have hszA : w0.heap.size ≤ (w1.alloc (.cells #[.string (s1 91)] 9)).drew.heap.size := Nat.le_trans hs01 GA.out.gro.size
      have HNA : Hid (∀ j u, ([s1 91].map Value.string)[j]? = some u → (w1.alloc (.cells #[.string (s1 91)] 9)).drew.cell? ((⟨w1.heap.size, 0, none⟩ : Addr).add j) = some u) := Lib.hid (World.news_of_block (heap_alloc_new w1 (.cells #[.string (s1 91)] 9)))
      go_region_held3 (fun X => X.cell? ⟨w.heap.size, 0, none⟩ = some (.slice TA TN TC) ∧ X.cell? ⟨w.heap.size, 1, none⟩ = some (.bool o.q) ∧ X.cell? ⟨w.heap.size, 2, none⟩ = some (.bool o.ig) ∧ X.cell? ⟨w.heap.size, 3, none⟩ = some (.bool o.nu) ∧ X.cell? ⟨w.heap.size + 1, 0, none⟩ = some (.int .i64 u.kind) ∧ X.cell? ⟨w.heap.size + 1, 1, none⟩ = some (.int .i64 u.num) ∧ X.cell? ⟨w.heap.size + 1, 2, none⟩ = some (.string u.name) ∧ X.cell? ⟨w.heap.size + 1, 3, none⟩ = some (.slice A1 u.args.length n1) ∧ w1.grownBy X v.ownBlock)
        (first
          | with_reducible exact HKP.out _ (grown_bel (grown_self _ _) (Below.refl _ _).drew)
          | with_reducible exact HKP.out _ h6g
          | with_reducible exact HKP.out _ h7g
          | exact HKP.out _ GA.out.gro
          | fail)
        (first
          | (go_at_call 91; (with_reducible refine (HROW.out AL EN cL w6 _ (HBG.out _ h6g) (HRA.out.gro h6g G6.atb) G6.own HEN.out).mono ?_); rintro e w7 ⟨v7, rfl, hO7, hg7, ha7⟩; have G7 := Lib.hid (G6.step hO7 hg7 ha7); have h7g := G7.out.gro; clear hO7 hg7 ha7)
          | (refine step_append_lies _ (by rfl) _ _ 28 (by rfl) w0.heap.size 9 i _ 1 16 Tryz.underlying28 HI.out HZ0.out HZ1.out HZ2.out (by rfl) (by decide) v xs.length (xs.map Value.string) (by rfl) GA.out.own ⟨w1.heap.size, 0, none⟩ 1 1 ([s1 91].map Value.string) (by rfl) (by rfl) HNA.out (strs_one _) (by decide) (by unfold maxLen; omega) (by omega) hszA (w1.heap.size + 1) (by simp) ?_; intro g6 c6 w6 hown6 hg6 hat6 hlt6; have G6 := GA.out.app (m := 1) (ys := [s1 91]) rfl rfl hown6 hg6 (by simp) hat6; have h6g := G6.gro)
          | fail)
      have hb7 := HBG.out _ h7g
      have hs7 := hb7.size
      obtain ⟨k0, k1, k2, k3, t0, t1, t2, t3, _⟩ := HKP.out _ h7g
      clear G6 h6g GA hszA HNA HROW HRA hlt6 HO1
      obtain ⟨acc, HAC⟩ : ∃ acc, Hid (acc = xs ++ [s1 91] ++ rowW (argW o T (str o T)) (elemsT t)) := ⟨_, Lib.hid rfl⟩
      have hal : acc.length + (pcs o T u 999 false).length + 3 ≤ 100000 := by rw [HAC.out]; simp only [List.length_append, List.length_singleton]; omega
      rw [← HAC.out] at G7 HIT2
      have HRES : Hid (∀ z, xs ++ (s1 91 :: ((rowW (argW o T (str o T)) (elemsT t) ++ z) ++ [s1 93])) = (acc ++ z) ++ [s1 93]) := Lib.hid (fun z => by rw [HAC.out]; simp)
      have HLAST : Hid (∀ (W : World) (vz : Value) (z : List ByteArray), Gro w0.heap.size 9 w1 v W vz z → Gro w0.heap.size 9 w1 v (W.alloc (.cells #[.string (s1 93)] 9)) vz z ∧ w0.heap.size ≤ (W.alloc (.cells #[.string (s1 93)] 9)).heap.size ∧ (∀ j u, ([s1 93].map Value.string)[j]? = some u → (W.alloc (.cells #[.string (s1 93)] 9)).cell? ((⟨W.heap.size, 0, none⟩ : Addr).add j) = some u)) := Lib.hid (fun W vz z h => by
        have h2 := h.bel ((Below.refl _ _).alloc (Nat.le_refl _) (.cells #[.string (s1 93)] 9))
        exact ⟨h2, Nat.le_trans hs01 h2.gro.size, own_cellsW (OwnS.one 9 W (s1 93))⟩)
      clear HAC
      by_cases hnil : u.kind = 2 ∧ u.name.toList = [91, 93]
      · obtain ⟨hk, hn⟩ := hnil
        have HV : Hid (tailW (argW o T (str o T)) u = []) := Lib.hid (by rw [HTW.out, hk, hn]; rfl)
        have hn1 : (u.name.toList == [91, 93]) = true := by rw [hn]; rfl
        rw [hk] at t0
        obtain ⟨ql1, ql2, ql3⟩ := HLAST.out _ _ _ G7.out
        have QL := Lib.hid ql1
        have QN := Lib.hid ql3
        have HT2 : Hid (tailW (argW o T (str o T)) (tailT t) = []) := HTTX HV
        clear ql1 ql3 HTW HLAST
        go_wp2_with ((with_reducible refine at_appSS ?_); go_must (refine wpList_append_own_at _ rfl _ _ 28 rfl w0.heap.size 9 i _ 1 16 Tryz.underlying28 HI.out HZ0.out HZ1.out HZ2.out rfl (by decide) _ acc.length (acc.map Value.string) rfl QL.out.own ⟨w7.heap.size, 0, none⟩ 1 1 ([s1 93].map Value.string) rfl rfl QN.out (strs_one _) (by unfold maxLen; omega) (by omega) ql2 ?_; intro v8 w8 ho8 hg8 _ hat8))
        have G8 := Lib.hid (QL.out.step (OwnS.join (xs := acc) (ys := [s1 93]) (by simp) ho8) hg8 (AtB.of_new hat8))
        clear ho8 hg8 hat8
        go_ret
        exact ⟨_, rfl, by rw [HT2.out, HRES.out, List.append_nil]; exact G8.out.own, HFG.out _ G8.out.gro, HFA.out _ G8.out.atb⟩
      · have HV : Hid (tailW (argW o T (str o T)) u = s1 124 :: pcs o T u 999 false) := Lib.hid (by
          rw [HTW.out, if_neg]
          intro h; simp at h; exact hnil h)
        have hwy : ¬ u.kind = 2 ∨ (u.kind = 2 ∧ (u.name.toList == [91, 93]) = false) := by
          by_cases hk : u.kind = 2
          · exact .inr ⟨hk, by simpa using (fun h => hnil ⟨hk, h⟩ : ¬ u.name.toList = [91, 93])⟩
          · exact .inl hk
        have HT2 : Hid (tailW (argW o T (str o T)) (tailT t) = s1 124 :: pcs o T u 999 false) := HTTX HV
        clear hnil HTW
        have GA := Lib.hid ((G7.out.bel ((Below.refl _ _).alloc (Nat.le_refl _) (.cells #[.string (s1 124)] 9))).bel (Below.refl _ _).drew)
        have hszA : w0.heap.size ≤ (w7.alloc (.cells #[.string (s1 124)] 9)).drew.heap.size := Nat.le_trans hs01 GA.out.gro.size
        have HNA : Hid (∀ j u, ([s1 124].map Value.string)[j]? = some u → (w7.alloc (.cells #[.string (s1 124)] 9)).drew.cell? ((⟨w7.heap.size, 0, none⟩ : Addr).add j) = some u) := Lib.hid (World.news_of_block (heap_alloc_new w7 (.cells #[.string (s1 124)] 9)))
        have HSTEP : Hid (w7.grownBy w7.drew v.ownBlock) := Lib.hid (grown_bel (grown_self _ _) (Below.refl _ _).drew)
        have h7d : w1.grownBy w7.drew v.ownBlock := grown_bel h7g (Below.refl _ _).drew
        have hU0 := HU.out
        have HP : Hid (pcs o T u 999 false = pcs o T u 999 false) := Lib.hid rfl
        clear HV HP
        generalize u.kind = uk at *
        rcases hwy with hk | ⟨rfl, hn⟩
        · go_upto_region 7 with fail
          go_region_held3 (fun X => X.cell? ⟨w.heap.size, 0, none⟩ = some (.slice TA TN TC) ∧ X.cell? ⟨w.heap.size, 1, none⟩ = some (.bool o.q) ∧ X.cell? ⟨w.heap.size, 2, none⟩ = some (.bool o.ig) ∧ X.cell? ⟨w.heap.size, 3, none⟩ = some (.bool o.nu) ∧ X.cell? ⟨w.heap.size + 1, 0, none⟩ = some (.int .i64 uk) ∧ X.cell? ⟨w.heap.size + 1, 1, none⟩ = some (.int .i64 u.num) ∧ X.cell? ⟨w.heap.size + 1, 2, none⟩ = some (.string u.name) ∧ X.cell? ⟨w.heap.size + 1, 3, none⟩ = some (.slice A1 u.args.length n1) ∧ w1.grownBy X v.ownBlock)
            (first
              | with_reducible exact HKP.out _ h7d
              | with_reducible exact HKP.out _ h9g
              | with_reducible exact HKP.out _ h10g
              | exact HKP.out _ GA.out.gro
              | fail)
            (first
              | (go_at_call 59; (with_reducible refine (HIT2.out A1 n1 w9 _ (HBG.out _ h9g) HU.out G9.own).mono ?_); rintro e w10 ⟨v10, rfl, hO10, hg10, ha10⟩; have G10 := Lib.hid (G9.step hO10 hg10 ha10); have h10g := G10.out.gro; clear hO10 hg10 ha10)
              | (refine step_append_lies _ (by rfl) _ _ 28 (by rfl) w0.heap.size 9 i _ 1 16 Tryz.underlying28 HI.out HZ0.out HZ1.out HZ2.out (by rfl) (by decide) v7 acc.length (acc.map Value.string) (by rfl) GA.out.own ⟨w7.heap.size, 0, none⟩ 1 1 ([s1 124].map Value.string) (by rfl) (by rfl) HNA.out (strs_one _) (by decide) (by unfold maxLen; omega) (by omega) hszA (w7.heap.size + 1) (by simp) ?_; intro g9 c9 w9 hown9 hg9 hat9 hlt9; have G9 := GA.out.app (m := 1) (ys := [s1 124]) rfl rfl hown9 hg9 (by simp) hat9; have h9g := G9.gro)
              | fail)
          obtain ⟨ql1, ql2, ql3⟩ := HLAST.out _ _ _ G10.out
          have QL := Lib.hid ql1
          have QN := Lib.hid ql3
          obtain ⟨P, HPP⟩ : ∃ P, Hid (P = acc ++ [s1 124] ++ pcs o T u 999 false) := ⟨_, Lib.hid rfl⟩
          have hpl : P.length ≤ 100000 := by rw [HPP.out]; simp only [List.length_append, List.length_singleton]; omega
          rw [← HPP.out] at QL
          clear ql1 ql3
          go_wp2_with ((with_reducible refine at_appSS ?_); go_must (refine wpList_append_own_at _ rfl _ _ 28 rfl w0.heap.size 9 i _ 1 16 Tryz.underlying28 HI.out HZ0.out HZ1.out HZ2.out rfl (by decide) _ P.length (P.map Value.string) rfl QL.out.own ⟨w10.heap.size, 0, none⟩ 1 1 ([s1 93].map Value.string) rfl rfl QN.out (strs_one _) (by unfold maxLen; omega) (by omega) ql2 ?_; intro v8 w8 ho8 hg8 _ hat8))
          have G8 := Lib.hid (QL.out.step (OwnS.join (xs := P) (ys := [s1 93]) (by simp) ho8) hg8 (AtB.of_new hat8))
          clear ho8 hg8 hat8
          go_ret
          exact ⟨_, rfl, by rw [HT2.out, HRES.out, show acc ++ s1 124 :: pcs o T u 999 false = P by rw [HPP.out]; simp]; exact G8.out.own, HFG.out _ G8.out.gro, HFA.out _ G8.out.atb⟩
        · go_upto_region 7 with fail
          go_region_held3 (fun X => X.cell? ⟨w.heap.size, 0, none⟩ = some (.slice TA TN TC) ∧ X.cell? ⟨w.heap.size, 1, none⟩ = some (.bool o.q) ∧ X.cell? ⟨w.heap.size, 2, none⟩ = some (.bool o.ig) ∧ X.cell? ⟨w.heap.size, 3, none⟩ = some (.bool o.nu) ∧ X.cell? ⟨w.heap.size + 1, 0, none⟩ = some (.int .i64 2) ∧ X.cell? ⟨w.heap.size + 1, 1, none⟩ = some (.int .i64 u.num) ∧ X.cell? ⟨w.heap.size + 1, 2, none⟩ = some (.string u.name) ∧ X.cell? ⟨w.heap.size + 1, 3, none⟩ = some (.slice A1 u.args.length n1) ∧ w1.grownBy X v.ownBlock)
            (first
              | with_reducible exact HKP.out _ h7d
              | with_reducible exact HKP.out _ h9g
              | with_reducible exact HKP.out _ h10g
              | exact HKP.out _ GA.out.gro
              | fail)
            (first
              | (go_at_call 59; (with_reducible refine (HIT2.out A1 n1 w9 _ (HBG.out _ h9g) HU.out G9.own).mono ?_); rintro e w10 ⟨v10, rfl, hO10, hg10, ha10⟩; have G10 := Lib.hid (G9.step hO10 hg10 ha10); have h10g := G10.out.gro; clear hO10 hg10 ha10)
              | (refine step_append_lies _ (by rfl) _ _ 28 (by rfl) w0.heap.size 9 i _ 1 16 Tryz.underlying28 HI.out HZ0.out HZ1.out HZ2.out (by rfl) (by decide) v7 acc.length (acc.map Value.string) (by rfl) GA.out.own ⟨w7.heap.size, 0, none⟩ 1 1 ([s1 124].map Value.string) (by rfl) (by rfl) HNA.out (strs_one _) (by decide) (by unfold maxLen; omega) (by omega) hszA (w7.heap.size + 1) (by simp) ?_; intro g9 c9 w9 hown9 hg9 hat9 hlt9; have G9 := GA.out.app (m := 1) (ys := [s1 124]) rfl rfl hown9 hg9 (by simp) hat9; have h9g := G9.gro)
              | fail)
          obtain ⟨ql1, ql2, ql3⟩ := HLAST.out _ _ _ G10.out
          have QL := Lib.hid ql1
          have QN := Lib.hid ql3
          obtain ⟨P, HPP⟩ : ∃ P, Hid (P = acc ++ [s1 124] ++ pcs o T u 999 false) := ⟨_, Lib.hid rfl⟩
          have hpl : P.length ≤ 100000 := by rw [HPP.out]; simp only [List.length_append, List.length_singleton]; omega
          rw [← HPP.out] at QL
          clear ql1 ql3
          go_wp2_with ((with_reducible refine at_appSS ?_); go_must (refine wpList_append_own_at _ rfl _ _ 28 rfl w0.heap.size 9 i _ 1 16 Tryz.underlying28 HI.out HZ0.out HZ1.out HZ2.out rfl (by decide) _ P.length (P.map Value.string) rfl QL.out.own ⟨w10.heap.size, 0, none⟩ 1 1 ([s1 93].map Value.string) rfl rfl QN.out (strs_one _) (by unfold maxLen; omega) (by omega) ql2 ?_; intro v8 w8 ho8 hg8 _ hat8))
          have G8 := Lib.hid (QL.out.step (OwnS.join (xs := P) (ys := [s1 93]) (by simp) ho8) hg8 (AtB.of_new hat8))
          clear ho8 hg8 hat8
          go_ret
          exact ⟨_, rfl, by rw [HT2.out, HRES.out, show acc ++ s1 124 :: pcs o T u 999 false = P by rw [HPP.out]; simp]; exact G8.out.own, HFG.out _ G8.out.gro, HFA.out _ G8.out.atb⟩
    · rw [hc] at HIC
      have hcl := Tm.cons_len hc
      obtain ⟨b, off, A3, n3, rfl, hb, y0, y1, y2, y3, hs0⟩ := HU.out.get 0 (by omega)
      obtain ⟨b', off', A4, n4, hA, hb', z0, z1, z2, z3, hs1⟩ := HU.out.get 1 (by omega)
      obtain ⟨rfl, rfl⟩ : b = b' ∧ off = off' := by injection hA with hA; injection hA with h1 h2 _; exact ⟨h1, h2⟩
      rw [Nat.zero_mul, Nat.add_zero] at y0 y1 y2 y3
      rw [Nat.one_mul] at z0 z1 z2 z3
      have HE3 : Hid (elemsT t = (rs ++ [((u.args[0], A3, n3) : TR)]).map (fun x : TR => x.1) ++ elemsT u.args[1]) := Lib.hid (by
        rw [HE.out, elemsT_cons hc, Tm.arg_get u 0 (by omega), Tm.arg_get u 1 (by omega)]; simp)
      have HT3 : Hid (tailT t = tailT u.args[1]) := Lib.hid (by rw [HTL.out, tailT_cons hc, Tm.arg_get u 1 (by omega)])
      have HRS3 : Hid (∀ r ∈ rs ++ [((u.args[0], A3, n3) : TR)], TmsAt w0.heap.size w0 r.2.1 r.1.args) := Lib.hid (fun r hr => by
        rcases List.mem_append.1 hr with hr | hr
        · exact HRS.out r hr
        · rw [List.mem_singleton] at hr; subst hr; exact hs0)
      have HS1' := Lib.hid hs1
      have HY : Hid (∀ W, Below w.heap.size w W → W.cell? ⟨b, off, none⟩ = some (.int .i64 u.args[0].kind) ∧ W.cell? ⟨b, off + 1, none⟩ = some (.int .i64 u.args[0].num) ∧ W.cell? ⟨b, off + 2, none⟩ = some (.string u.args[0].name) ∧ W.cell? ⟨b, off + 3, none⟩ = some (.slice A3 u.args[0].args.length n3)) := Lib.hid (fun W h => by
        have hcc : ∀ k, W.cell? ⟨b, k, none⟩ = w0.cell? ⟨b, k, none⟩ := fun k => (HB.out.trans (h.mono HB.out.size)).cell (p := ⟨b, k, none⟩) hb
        exact ⟨(hcc _).trans y0, (hcc _).trans y1, (hcc _).trans y2, (hcc _).trans y3⟩)
      have HZ : Hid (∀ W, Below w.heap.size w W → W.cell? ⟨b, off + 4, none⟩ = some (.int .i64 u.args[1].kind) ∧ W.cell? ⟨b, off + 4 + 1, none⟩ = some (.int .i64 u.args[1].num) ∧ W.cell? ⟨b, off + 4 + 2, none⟩ = some (.string u.args[1].name) ∧ W.cell? ⟨b, off + 4 + 3, none⟩ = some (.slice A4 u.args[1].args.length n4)) := Lib.hid (fun W h => by
        have hcc : ∀ k, W.cell? ⟨b, k, none⟩ = w0.cell? ⟨b, k, none⟩ := fun k => (HB.out.trans (h.mono HB.out.size)).cell (p := ⟨b, k, none⟩) hb
        exact ⟨(hcc _).trans z0, (hcc _).trans z1, (hcc _).trans z2, (hcc _).trans z3⟩)
      rw [hcl] at x3 HIC
      clear hc hA hb' y0 y1 y2 y3 z0 z1 z2 z3 hs0 hs1 HE HTL HRS HU HST
      have HNX := Lib.hid (fun (W : World) (v' : Value) (rs' : List TR) (h : LsH w W o TA TN TC 24 u (some ⟨b, off, none⟩) n1 v' rs') => h.next u.args[1] A4 n4)
      have hrl : rs.length ≤ 11111 := by omega
      have HLV := Lib.hid (lenV_own HS.out.own)
      go_wp2_with fail
      refine (HIC.out _).mono ?_; rintro e w1 ⟨rfl, hB1⟩
      have HS1 := Lib.hid (HS.out.call hB1)
      have q3 := HS1.out.tb.c3
      rw [hcl] at q3
      obtain ⟨p0, p1, p2, p3⟩ := HY.out w1 HS1.out.bel
      clear HS x0 x1 x2 x3 hB1 HIC
      generalize u.args[0] = a at *
      generalize u.args[1] = c at *
      have hw1 := HS1.out.call ((Below.refl _ _).alloc (Nat.le_refl _) (.cells #[.int .i64 a.kind, .int .i64 a.num, .string a.name, .slice A3 a.args.length n3] 24))
      have HW1 := Lib.hid hw1
      have hbs : w.heap.size + 2 ≤ (w1.alloc (.cells #[.int .i64 a.kind, .int .i64 a.num, .string a.name, .slice A3 a.args.length n3] 24)).heap.size := hw1.lt
      have HSRC : Hid (∀ j u, (rowC (a, A3, n3))[j]? = some u → (w1.alloc (.cells #[.int .i64 a.kind, .int .i64 a.num, .string a.name, .slice A3 a.args.length n3] 24)).cell? ((⟨w1.heap.size, 0, none⟩ : Addr).add j) = some u) := Lib.hid (World.news_of_block (heap_alloc_new w1 (.cells #[.int .i64 a.kind, .int .i64 a.num, .string a.name, .slice A3 a.args.length n3] 24)))
      clear hw1
      go_wp2_with ((with_reducible refine at_appTT ?_); go_must (refine wpList_append_own_at _ rfl _ _ 22 rfl (w.heap.size + 2) 24 it _ 4 56 Tryz.underlying22 HI'.out HZ0'.out HZ1'.out HZ2'.out rfl (by decide) _ rs.length (rowsC rs) rfl HW1.out.own ⟨w1.heap.size, 0, none⟩ 1 1 (rowC (a, A3, n3)) rfl rfl HSRC.out (rowC_one _) (by unfold maxLen; omega) (by omega) hbs ?_; intro v4 w4 ho4 hg4 _ hat4; have HS4 := Lib.hid (HW1.out.app (a, A3, n3) ho4 hg4); have s3 := HS4.out.tb.c3; rw [hcl] at s3; obtain ⟨t0, t1, t2, t3⟩ := HZ.out w4 HS4.out.bel; have s0 := HS4.out.tb.c0; have s1' := HS4.out.tb.c1; have s2 := HS4.out.tb.c2; have f0 := HS4.out.rf 0; have f1 := HS4.out.rf 1; have f2 := HS4.out.rf 2; have f3 := HS4.out.rf 3; clear ho4 hg4 hat4 p0 p1 p2 p3 q3))
      have HS5 := Lib.hid (HNX.out w4 v4 _ HS4.out)
      have HL4 := Lib.hid (lenV_own HS4.out.own)
      go_roundw
      case rel => exact ⟨c, A4, n4, rs ++ [(a, A3, n3)], HS5, HS1', HRS3, HE3, HT3⟩
      case measure => rw [HL4.out, HLV.out, List.length_append, List.length_singleton]; omega
end Go.Proofs.YtgapnafkelokaaaGreatDoor
