/- The reference's List. -/
import Derived.Test.YtgapnafkelokaaaGreatDoorM04
import Derived.Test.YtgapnafkelokaaaGreatDoorM16
import Derived.Test.YtgapnafkelokaaaGreatDoorM24
import Derived.BigRegion
namespace Hb
open Go Go.RowKit
/-- A row of terms that was just built, beside blocks of any kind. -/
theorem tmsK_row {K K' : Nat → Prop} {w : World} (e : TypeId) (rs : List TR) (hm : rs.length ≤ maxLen) (hg : K w.heap.size) (hK : ∀ b, K' b → K b ∧ b < w.heap.size) (hrs : ∀ r ∈ rs, TmsK K' w r.2.1 r.1.args) : TmsK K (w.alloc (.cells (rowsC rs).toArray e)) (some ⟨w.heap.size, 0, none⟩) (rs.map (·.1)) := by
  have hc : ∀ k u, (rowsC rs)[k]? = some u → (w.alloc (.cells (rowsC rs).toArray e)).cell? ⟨w.heap.size, 0 + k, none⟩ = some u := fun k u hu => by
    rw [Nat.zero_add, World.cell?_alloc_new]; simpa using hu
  refine .mk _ _ (fun j => (rs.getD j (tm0, none, 0)).2.1) (fun j => (rs.getD j (tm0, none, 0)).2.2) (by rw [List.length_map]; exact hm) (fun j hj => ?_) (fun j hj => ?_)
  · rw [List.length_map] at hj
    obtain ⟨p0, p1, p2, p3⟩ := rowsC_get rs j hj
    have e1 : rs.getD j (tm0, none, 0) = rs[j] := by rw [List.getD_eq_getElem?_getD, List.getElem?_eq_getElem hj]; rfl
    refine ⟨w.heap.size, 0, rfl, hg, ?_, ?_, ?_, ?_⟩
    · rw [List.getElem_map]; exact hc _ _ p0
    · rw [List.getElem_map]; exact hc _ _ p1
    · rw [List.getElem_map]; exact hc _ _ p2
    · rw [List.getElem_map]; simp only [e1]; exact hc _ _ p3
  · rw [List.length_map] at hj
    have e1 : rs.getD j (tm0, none, 0) = rs[j] := by rw [List.getD_eq_getElem?_getD, List.getElem?_eq_getElem hj]; rfl
    rw [List.getElem_map]; simp only [e1]
    exact (hrs _ (List.getElem_mem hj)).keep (fun b hb => heap_alloc_old w _ (hK b hb).2) (fun b hb => (hK b hb).1)
/-- A list in the making: the result's box, and the box of the list. -/
structure LSt (w0 w : World) (t : Tm) (A' : Option Addr) (cap' : Nat) : Prop where
  bel : Below w0.heap.size w0 w
  lt : w0.heap.size + 3 ≤ w.heap.size
  rb : R4 w0 w (w0.heap.size + 1)
  c0 : w.cell? ⟨w0.heap.size + 1 + 1, 0, none⟩ = some (.int .i64 t.kind)
  c1 : w.cell? ⟨w0.heap.size + 1 + 1, 1, none⟩ = some (.int .i64 t.num)
  c2 : w.cell? ⟨w0.heap.size + 1 + 1, 2, none⟩ = some (.string t.name)
  c3 : w.cell? ⟨w0.heap.size + 1 + 1, 3, none⟩ = some (.slice A' t.args.length cap')
  cf : ∀ o, w.frozen? ⟨w0.heap.size + 1 + 1, o, none⟩ = false
  tms : TmsK (fun b => b < w.heap.size ∧ b ≠ w0.heap.size + 1 + 1 ∧ b ≠ w0.heap.size + 1) w A' t.args
theorem LSt.start (w : World) (e : TypeId) (x0 x1 x2 x3 : Value) :
    LSt w (((w.alloc (.cells #[x0, x1, x2, x3] e)).alloc (.cells #[.int .i64 0, .int .i64 0, .string ⟨#[]⟩, .slice none 0 0] e)).alloc (.cells #[.int .i64 2, .int .i64 0, .string ⟨#[91, 93]⟩, .slice none 0 0] e)) nilT none 0 := by
  obtain ⟨W1, hW1⟩ : ∃ W1, W1 = w.alloc (.cells #[x0, x1, x2, x3] e) := ⟨_, rfl⟩
  obtain ⟨W2, hW2⟩ : ∃ W2, W2 = W1.alloc (.cells #[.int .i64 0, .int .i64 0, .string ⟨#[]⟩, .slice none 0 0] e) := ⟨_, rfl⟩
  rw [← hW1, ← hW2]
  have s1 : W1.heap.size = w.heap.size + 1 := by rw [hW1]; simp
  have s2 : W2.heap.size = w.heap.size + 1 + 1 := by rw [hW2]; simp [s1]
  have hB1 : Below w.heap.size w W1 := by rw [hW1]; exact (Below.refl _ _).alloc (Nat.le_refl _) _
  have h4 : R4 w W2 (w.heap.size + 1) := by
    have := R4.start (w0 := w) (w := W1) hB1 (.int .i64 0) (.int .i64 0) (.string ⟨#[]⟩) (.slice none 0 0) e
    rw [← hW2, s1] at this; exact this
  have hB3 : Below W2.heap.size W2 (W2.alloc (.cells #[.int .i64 2, .int .i64 0, .string ⟨#[91, 93]⟩, .slice none 0 0] e)) := (Below.refl _ _).alloc (Nat.le_refl _) _
  have c : ∀ j, (W2.alloc (.cells #[.int .i64 2, .int .i64 0, .string ⟨#[91, 93]⟩, .slice none 0 0] e)).cell? ⟨w.heap.size + 1 + 1, j, none⟩ = (#[.int .i64 2, .int .i64 0, .string ⟨#[91, 93]⟩, .slice none 0 0] : Array Value)[j]? := fun j => by
    have := World.cell?_alloc_new W2 #[.int .i64 2, .int .i64 0, .string ⟨#[91, 93]⟩, .slice none 0 0] e j
    rw [s2] at this; exact this
  have h5 := h4.call hB3
  exact ⟨h5.bel, by simp; omega, h5, c 0, c 1, c 2, c 3, fun o => World.frozen?_alloc_at (w := W2) _ _ (w.heap.size + 1 + 1) o s2.symm, TmsK.nil⟩
/-- One element more. -/
theorem LSt.step {w0 w : World} {t x : Tm} {A' B : Option Addr} {cap' cb : Nat} (h : LSt w0 w t A' cap') (e : TypeId) (hx : TmsAt w0.heap.size w0 B x.args) :
    LSt w0 (((((w.setCell ⟨w0.heap.size + 1 + 1, 0, none⟩ (.int .i64 3)).setCell ⟨w0.heap.size + 1 + 1, 1, none⟩ (.int .i64 0)).setCell ⟨w0.heap.size + 1 + 1, 2, none⟩ (.string ⟨#[46]⟩)).setCell ⟨w0.heap.size + 1 + 1, 3, none⟩ (.slice (some ⟨w.heap.size, 0, none⟩) 2 2)).alloc
      (.cells #[.int .i64 x.kind, .int .i64 x.num, .string x.name, .slice B x.args.length cb, .int .i64 t.kind, .int .i64 t.num, .string t.name, .slice A' t.args.length cap'] e)) (consT x t) (some ⟨w.heap.size, 0, none⟩) 2 := by
  have hlt := h.lt
  have hc := put4_cells w (w0.heap.size + 1 + 1) (.int .i64 3) (.int .i64 0) (.string ⟨#[46]⟩) (.slice (some ⟨w.heap.size, 0, none⟩) 2 2) h.c0 h.c1 h.c2 h.c3 _ rfl
  have hbl := fun b hb => put4_block w (w0.heap.size + 1 + 1) (.int .i64 3) (.int .i64 0) (.string ⟨#[46]⟩) (.slice (some ⟨w.heap.size, 0, none⟩) 2 2) b hb
  have hsz := put4_size w (w0.heap.size + 1 + 1) (.int .i64 3) (.int .i64 0) (.string ⟨#[46]⟩) (.slice (some ⟨w.heap.size, 0, none⟩) 2 2)
  have hbel : Below w0.heap.size w0 ((((w.setCell ⟨w0.heap.size + 1 + 1, 0, none⟩ (.int .i64 3)).setCell ⟨w0.heap.size + 1 + 1, 1, none⟩ (.int .i64 0)).setCell ⟨w0.heap.size + 1 + 1, 2, none⟩ (.string ⟨#[46]⟩)).setCell ⟨w0.heap.size + 1 + 1, 3, none⟩ (.slice (some ⟨w.heap.size, 0, none⟩) 2 2)) :=
    (((h.bel.setCell (p := ⟨_, _, none⟩) (by show _ ≤ w0.heap.size + 1 + 1; omega) _).setCell (p := ⟨_, _, none⟩) (by show _ ≤ w0.heap.size + 1 + 1; omega) _).setCell (p := ⟨_, _, none⟩) (by show _ ≤ w0.heap.size + 1 + 1; omega) _).setCell (p := ⟨_, _, none⟩) (by show _ ≤ w0.heap.size + 1 + 1; omega) _
  generalize (((w.setCell ⟨w0.heap.size + 1 + 1, 0, none⟩ (.int .i64 3)).setCell ⟨w0.heap.size + 1 + 1, 1, none⟩ (.int .i64 0)).setCell ⟨w0.heap.size + 1 + 1, 2, none⟩ (.string ⟨#[46]⟩)).setCell ⟨w0.heap.size + 1 + 1, 3, none⟩ (.slice (some ⟨w.heap.size, 0, none⟩) 2 2) = P at *
  obtain ⟨q0, q1, q2, q3, qf⟩ := hc
  have hB := (Below.refl P.heap.size P).alloc (Nat.le_refl _) (.cells #[.int .i64 x.kind, .int .i64 x.num, .string x.name, .slice B x.args.length cb, .int .i64 t.kind, .int .i64 t.num, .string t.name, .slice A' t.args.length cap'] e)
  have hPs : ∀ o, (P.alloc o).heap.size = P.heap.size + 1 := fun o => by simp
  have hcell : ∀ k, P.cell? ⟨w0.heap.size + 1, k, none⟩ = w.cell? ⟨w0.heap.size + 1, k, none⟩ := fun k => World.cell?_of_block (hbl _ (by show w0.heap.size + 1 ≠ _; omega))
  have h4 : R4 w0 P (w0.heap.size + 1) := ⟨hbel, h.rb.le, by rw [hsz]; exact h.rb.lt, h.rb.r0.imp fun _ k => (hcell _).trans k, h.rb.r1.imp fun _ k => (hcell _).trans k, h.rb.r2.imp fun _ k => (hcell _).trans k, h.rb.r3.imp fun _ k => (hcell _).trans k, fun o => (qf _).trans (h.rb.fr o)⟩
  have hk : ∀ k, (P.alloc (.cells #[.int .i64 x.kind, .int .i64 x.num, .string x.name, .slice B x.args.length cb, .int .i64 t.kind, .int .i64 t.num, .string t.name, .slice A' t.args.length cap'] e)).cell? ⟨w0.heap.size + 1 + 1, k, none⟩ = P.cell? ⟨w0.heap.size + 1 + 1, k, none⟩ := fun k => hB.cell (p := ⟨_, _, none⟩) (by show w0.heap.size + 1 + 1 < _; omega)
  refine ⟨hbel.trans (hB.mono hbel.size), by rw [hPs]; omega, h4.call hB, (hk _).trans q0, (hk _).trans q1, (hk _).trans q2, (hk _).trans q3, fun o => ?_, ?_⟩
  · rw [hB.frozen (p := ⟨w0.heap.size + 1 + 1, o, none⟩) (by show w0.heap.size + 1 + 1 < _; omega), qf]; exact h.cf o
  · have := tmsK_row (K := fun b => b < (P.alloc (.cells (rowsC [((x, B, cb) : TR), (t, A', cap')]).toArray e)).heap.size ∧ b ≠ w0.heap.size + 1 + 1 ∧ b ≠ w0.heap.size + 1) (K' := fun b => b < w.heap.size ∧ b ≠ w0.heap.size + 1 + 1 ∧ b ≠ w0.heap.size + 1) (w := P) e [(x, B, cb), (t, A', cap')] (by unfold maxLen; simp) ⟨by rw [hPs]; omega, by omega, by omega⟩ (fun b hb => ⟨⟨by rw [hPs]; omega, hb.2⟩, by omega⟩) (fun r hr => by
      simp at hr
      rcases hr with rfl | rfl
      · exact TmsK.keep hx (fun b hb => by rw [hbl b (by omega)]; exact h.bel.block b hb) (fun b hb => ⟨by have := h.bel.size; omega, by omega, by omega⟩)
      · exact h.tms.keep (fun b hb => hbl b hb.2.1) (fun b hb => hb))
    rw [hsz] at this
    exact this
theorem LSt.drew {w0 w : World} {t : Tm} {A' : Option Addr} {cap' : Nat} (h : LSt w0 w t A' cap') : LSt w0 w.drew t A' cap' := by
  have hB := (Below.refl w.heap.size w).drew
  have hlt := h.lt
  exact ⟨h.bel.trans (hB.mono h.bel.size), hlt, h.rb.call hB, h.c0, h.c1, h.c2, h.c3, h.cf, h.tms.keep (fun _ _ => rfl) (fun _ hb => hb)⟩
def lisT (l : List Tm) : Tm := if 2000 < l.length then tm0 else cloneT (listT l)
theorem lisT_long {l : List Tm} (h : 2000 < l.length) : lisT l = tm0 := if_pos h
theorem lisT_short {l : List Tm} (h : ¬ 2000 < l.length) : lisT l = cloneT (listT l) := if_neg h
theorem listT_drop (l : List Tm) (j : Nat) (h : j < l.length) : listT (l.drop j) = consT l[j] (listT (l.drop (j + 1))) := by rw [List.drop_eq_getElem_cons h]; rfl
theorem listT_end (l : List Tm) (k : Nat) (h : k = l.length) : listT (l.drop k) = nilT := by subst h; rw [List.drop_length]; rfl
end Hb
namespace Go.Proofs.YtgapnafkelokaaaGreatDoor
open Go.RowKit Hb
set_option maxRecDepth 100000
set_option maxHeartbeats 1600000 in
theorem ref_valid3 (t : Tm) (A : Option Addr) (cap : Nat) (w : World) (hT : TmsAt w.heap.size w A t.args) :
    Calls Tryz.prog 44 #[tmV t A cap] w fun e w' => ∃ A' cap', e = .returned (tmV (cloneT t) A' cap') ∧ Below w.heap.size w w' ∧ NewT w w' A' (cloneT t).args := by
  have hX0 := R4.start (w0 := w) (w := w.alloc (.cells #[.int .i64 t.kind, .int .i64 t.num, .string t.name, .slice A t.args.length cap] 24)) ((Below.refl _ _).alloc (Nat.le_refl _) _) (.int .i64 0) (.int .i64 0) (.string ⟨#[]⟩) (.slice none 0 0) 24
  have hs : (w.alloc (.cells #[.int .i64 t.kind, .int .i64 t.num, .string t.name, .slice A t.args.length cap] 24)).heap.size = w.heap.size + 1 := by simp
  rw [hs] at hX0
  have HX := Lib.hid hX0
  have HAP := Lib.hid (fun (W : World) (h : R4 w W (w.heap.size + 1)) => ref_clone3 t A cap W ((hT.keep h.bel).mono h.bel.size))
  clear hT hX0 hs
  unfold tmV at *
  generalize cloneT t = u at *
  generalize t.kind = a0 at *
  generalize t.num = a1 at *
  generalize t.name = a2 at *
  generalize t.args.length = a3 at *
  go_enter Tryz.func44, Tryz.ntmps44
  go_wp2_with fail
  refine (HAP.out _ HX.out).mono ?_; rintro e w2 ⟨A2, n2, rfl, hB2, hN⟩
  have hlt0 := HX.out.lt
  have hX2 := HX.out.call hB2
  obtain ⟨v0, r0⟩ := hX2.r0
  obtain ⟨v1, r1⟩ := hX2.r1
  obtain ⟨v2, r2⟩ := hX2.r2
  obtain ⟨v3, r3⟩ := hX2.r3
  have f0 := hX2.fr 0
  have f1 := hX2.fr 1
  have f2 := hX2.fr 2
  have f3 := hX2.fr 3
  have HP := Lib.hid (hX2.put (.int .i64 u.kind) (.int .i64 u.num) (.string u.name) (.slice A2 u.args.length n2))
  have HNA : Hid (NewT w ((((w2.setCell ⟨w.heap.size + 1, 0, none⟩ (.int .i64 u.kind)).setCell ⟨w.heap.size + 1, 1, none⟩ (.int .i64 u.num)).setCell ⟨w.heap.size + 1, 2, none⟩ (.string u.name)).setCell ⟨w.heap.size + 1, 3, none⟩ (.slice A2 u.args.length n2)) A2 u.args) :=
    Lib.hid (TmsK.keep hN (fun b hb => put4_block w2 (w.heap.size + 1) _ _ _ _ b (by omega)) (fun b hb => ⟨by omega, by rw [put4_size]; exact hb.2⟩))
  clear hN
  go_wp2_with fail
  exact bodyPost_ret (v := .agg #[.int .i64 u.kind, .int .i64 u.num, .string u.name, .slice A2 u.args.length n2]) (by simp [results, Tryz.results44, go_sem, r0, r1, r2, r3]) rfl ⟨A2, n2, rfl, HP.out, HNA.out⟩
set_option maxHeartbeats 6400000 in
theorem ref_list (A : Option Addr) (n cap : Nat) (l : List Tm) (w : World) (hn : n = l.length) (hm : n ≤ maxLen) (hT : TmsAt w.heap.size w A l) :
    Calls Tryz.prog 21 #[.slice A n cap, .agg #[.int .i64 2, .int .i64 0, .string ⟨#[91, 93]⟩, .slice none 0 0]] w fun e w' => ∃ A' cap', e = .returned (tmV (lisT l) A' cap') ∧ Below w.heap.size w w' ∧ NewT w w' A' (lisT l).args := by
  unfold maxLen at hm
  have HN := Lib.hid hn
  have HT := Lib.hid hT
  clear hT hn
  by_cases hlong : 2000 < n
  · have hb : decide ((2000 : Int) < (n : Int)) = true := by simp; omega
    have HR := Lib.hid (lisT_long (l := l) (by rw [← HN.out]; exact hlong))
    rw [HR.out]
    have hB : Below w.heap.size w ((w.alloc (.cells #[.int .i64 2, .int .i64 0, .string ⟨#[91, 93]⟩, .slice none 0 0] 24)).alloc (.cells #[.int .i64 0, .int .i64 0, .string ⟨#[]⟩, .slice none 0 0] 24)) := ((Below.refl _ _).alloc (Nat.le_refl _) _).alloc (by simp) _
    go_enter Tryz.func21, Tryz.ntmps21
    go_wp2_with fail
    exact bodyPost_ret (v := .agg #[.int .i64 0, .int .i64 0, .string ⟨#[]⟩, .slice none 0 0]) (by simp [results, Tryz.results21, go_sem]) rfl ⟨none, 0, rfl, hB, TmsK.nil⟩
  · have hb : decide ((2000 : Int) < (n : Int)) = false := by simp; omega
    have HR := Lib.hid (lisT_short (l := l) (by rw [← HN.out]; exact hlong))
    obtain ⟨u, HU⟩ : ∃ u, Hid (u = cloneT (listT l)) := ⟨_, Lib.hid rfl⟩
    rw [HR.out, ← HU.out]
    have HS := Lib.hid (LSt.start w 24 (.int .i64 2) (.int .i64 0) (.string ⟨#[91, 93]⟩) (.slice none 0 0))
    clear hlong
    go_enter Tryz.func21, Tryz.ntmps21
    go_wp2_with fail
    go_loopw [6] (fun i wr => ∃ k : Nat, k ≤ n ∧ (k = 0 → i = .int .i64 (-1)) ∧ (∀ j : Nat, k = j + 1 → i = .int .i64 j) ∧ ∃ A' cap', Hid (LSt w wr (listT (l.drop k)) A' cap')) (fun i _ => (intOf i + 1).toNat)
    case atStart => exact ⟨n, Nat.le_refl _, fun h => by subst h; rfl, fun j h => by congr 1; omega, none, 0, by rw [listT_end l n HN.out]; exact HS⟩
    case round =>
      obtain ⟨k, hk, hi0, hi1, A', cap', HL⟩ := hrel
      rcases Nat.eq_zero_or_pos k with rfl | hpos
      · have hi := hi0 rfl
        subst hi
        have HV := Lib.hid (ref_valid3 (listT (l.drop 0)) A' cap' wr (HL.out.tms.keep (fun _ _ => rfl) (fun b hb => hb.1)))
        rw [List.drop_zero] at HL HV
        rw [← HU.out] at HV
        have c0 := HL.out.c0
        have c1 := HL.out.c1
        have c2 := HL.out.c2
        have c3 := HL.out.c3
        clear hi0 hi1
        unfold tmV at *
        go_wp2_with fail
        refine HV.out.mono ?_; rintro e w2 ⟨A2, n2, rfl, hB2, hN⟩
        have hX2 := HL.out.rb.call hB2
        have hlt := HL.out.lt
        obtain ⟨v0, r0⟩ := hX2.r0
        obtain ⟨v1, r1⟩ := hX2.r1
        obtain ⟨v2, r2⟩ := hX2.r2
        obtain ⟨v3, r3⟩ := hX2.r3
        have f0 := hX2.fr 0
        have f1 := hX2.fr 1
        have f2 := hX2.fr 2
        have f3 := hX2.fr 3
        have HP := Lib.hid (hX2.put (.int .i64 u.kind) (.int .i64 u.num) (.string u.name) (.slice A2 u.args.length n2))
        have HNA : Hid (NewT w ((((w2.setCell ⟨w.heap.size + 1, 0, none⟩ (.int .i64 u.kind)).setCell ⟨w.heap.size + 1, 1, none⟩ (.int .i64 u.num)).setCell ⟨w.heap.size + 1, 2, none⟩ (.string u.name)).setCell ⟨w.heap.size + 1, 3, none⟩ (.slice A2 u.args.length n2)) A2 u.args) :=
          Lib.hid (TmsK.keep hN (fun b hb => put4_block w2 (w.heap.size + 1) _ _ _ _ b (by omega)) (fun b hb => ⟨by omega, by rw [put4_size]; exact hb.2⟩))
        clear hN HV HL c0 c1 c2 c3
        go_wp2_with fail
        exact bodyPost_ret (v := .agg #[.int .i64 u.kind, .int .i64 u.num, .string u.name, .slice A2 u.args.length n2]) (by simp [results, Tryz.results21, go_sem, r0, r1, r2, r3]) rfl ⟨A2, n2, rfl, HP.out, HNA.out⟩
      · obtain ⟨j, rfl⟩ : ∃ j, k = j + 1 := ⟨k - 1, by omega⟩
        have hi := hi1 j rfl
        subst hi
        have hjl : j < l.length := by have := HN.out; omega
        obtain ⟨b, off, B, cb, rfl, hb', d0, d1, d2, d3, hs⟩ := (HT.out.keep HL.out.bel).get j hjl
        have hsx : TmsAt w.heap.size w B l[j].args := by
          obtain ⟨b2, off2, B2, cb2, e2, hb2, _, _, _, f3, hs2⟩ := HT.out.get j hjl
          have : b = b2 ∧ off = off2 := by injection e2 with e2; injection e2 with e3 e4 _; exact ⟨e3, e4⟩
          obtain ⟨rfl, rfl⟩ := this
          have e5 := (HL.out.bel.cell (p := ⟨b, off + j * 4 + 3, none⟩) hb2).trans f3
          rw [d3] at e5
          injection e5 with e5
          injection e5 with e6 _ _
          rw [e6]; exact hs2
        have HST := Lib.hid (LSt.step (cb := cb) HL.out 24 hsx)
        rw [← listT_drop l j hjl] at HST
        have c0 := HL.out.c0
        have c1 := HL.out.c1
        have c2 := HL.out.c2
        have c3 := HL.out.c3
        have f0 := HL.out.cf 0
        have f1 := HL.out.cf 1
        have f2 := HL.out.cf 2
        have f3 := HL.out.cf 3
        have k0 : (0 : Int) ≤ (j : Int) := by omega
        have hl3 := HL.out.lt
        have hl4 : w.heap.size + 1 + 1 < wr.heap.size := by omega
        have k1 : (j : Int) < (n : Int) := by omega
        clear hi0 hi1 hs hsx HL
        generalize listT (l.drop (j + 1)) = t at *
        generalize hE2 : listT (l.drop j) = t2 at *
        have HE2 := Lib.hid hE2
        clear hE2
        generalize l[j] = x at *
        go_wp2_with fail
        go_region
        all_goals
          go_wp2_with fail
          go_roundw
          case rel => exact ⟨j, by omega, fun h => by subst h; rfl, fun i h => by congr 1; omega, _, _, by rw [HE2.out]; exact Lib.hid HST.out.drew⟩
          case measure => simp [intOf] <;> omega
end Go.Proofs.YtgapnafkelokaaaGreatDoor
