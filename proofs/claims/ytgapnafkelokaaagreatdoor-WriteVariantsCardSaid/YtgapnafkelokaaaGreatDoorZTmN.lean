/- The reference's Canon: number, Canon. -/
import Derived.Test.YtgapnafkelokaaaGreatDoorZTmC
import Derived.Test.YtgapnafkelokaaaGreatDoorM04
namespace Hb
open Go Go.RowKit
theorem R4.put4 {w0 w : World} {g : Nat} (h : R4 w0 w g) (x y z u : Value) : R4 w0 ((((w.setCell ⟨g, 0, none⟩ x).setCell ⟨g, 1, none⟩ y).setCell ⟨g, 2, none⟩ z).setCell ⟨g, 3, none⟩ u) g := by
  obtain ⟨u0, r0⟩ := h.r0
  obtain ⟨u1, r1⟩ := h.r1
  obtain ⟨u2, r2⟩ := h.r2
  obtain ⟨u3, r3⟩ := h.r3
  obtain ⟨q0, q1, q2, q3, qf⟩ := put4_cells w g x y z u r0 r1 r2 r3 _ rfl
  exact ⟨h.put x y z u, h.le, by rw [put4_size]; exact h.lt, ⟨_, q0⟩, ⟨_, q1⟩, ⟨_, q2⟩, ⟨_, q3⟩, fun o => (qf _).trans (h.fr o)⟩
/-- What Canon's region keeps. -/
structure CnH (w X : World) (t : Tm) (A : Option Addr) (cap : Nat) : Prop where
  r : R4 w X (w.heap.size + 1)
  b : TBoxT w X t A cap
theorem CnH.call {w X X' : World} {t : Tm} {A : Option Addr} {cap : Nat} (h : CnH w X t A cap) (hB : Below X.heap.size X X') : CnH w X' t A cap := ⟨h.r.call hB, h.b.call hB⟩
theorem CnH.drew {w X : World} {t : Tm} {A : Option Addr} {cap : Nat} (h : CnH w X t A cap) : CnH w X.drew t A cap := h.call (Below.refl _ _).drew
theorem CnH.put4 {w X : World} {t : Tm} {A : Option Addr} {cap : Nat} (h : CnH w X t A cap) (x y z u : Value) : CnH w ((((X.setCell ⟨w.heap.size + 1, 0, none⟩ x).setCell ⟨w.heap.size + 1, 1, none⟩ y).setCell ⟨w.heap.size + 1, 2, none⟩ z).setCell ⟨w.heap.size + 1, 3, none⟩ u) t A cap := by
  have hr := h.r.put4 x y z u
  have hc : ∀ j, ((((X.setCell ⟨w.heap.size + 1, 0, none⟩ x).setCell ⟨w.heap.size + 1, 1, none⟩ y).setCell ⟨w.heap.size + 1, 2, none⟩ z).setCell ⟨w.heap.size + 1, 3, none⟩ u).cell? ⟨w.heap.size, j, none⟩ = X.cell? ⟨w.heap.size, j, none⟩ := fun j => World.cell?_of_block (put4_block X (w.heap.size + 1) x y z u w.heap.size (by omega))
  exact ⟨hr, ⟨hr.bel, by rw [put4_size]; exact h.b.lt, (hc 0).trans h.b.c0, (hc 1).trans h.b.c1, (hc 2).trans h.b.c2, (hc 3).trans h.b.c3⟩⟩
end Hb
namespace Go.Proofs.YtgapnafkelokaaaGreatDoor
open Go.RowKit Hb
set_option maxRecDepth 100000
set_option maxHeartbeats 1600000 in
theorem r3_number0 (l : List Int) (hll : l.length ≤ 100000) (D : Option Addr) (lc : Nat) (t : Tm) (hk : t.kind = 0) (hl : t.args.length = 0) (A : Option Addr) (cap : Nat) (w : World) (hI : IntsAt w D l) :
    Calls Tryz.prog 46 #[.slice D l.length lc, tmV t A cap] w fun e w' => ∃ A' cap', e = .returned (tmV (ren (posI l) t) A' cap') ∧ Below w.heap.size w w' ∧ NewT w w' A' (ren (posI l) t).args := by
  have HRE : Hid (ren (posI l) t = .mk 0 (posI l t.num) t.name []) := Lib.hid (by rw [ren_eq, if_pos hk, hk, List.eq_nil_of_length_eq_zero hl]; rfl)
  have hB3 : ∀ o1 o2 o3, Below w.heap.size w (((w.alloc o1).alloc o2).alloc o3) := fun o1 o2 o3 => (((Below.refl _ _).alloc (Nat.le_refl _) _).alloc (by simp) _).alloc (by simp; omega) _
  have HP := Lib.hid (fun o1 o2 o3 => r3_position D l.length lc l t.num (((w.alloc o1).alloc o2).alloc o3) rfl hll (hI.below (hB3 o1 o2 o3)))
  obtain ⟨hp1, hp2⟩ := posI_range t.num hll
  unfold tmV
  rw [HRE.out, hk, hl]
  show Calls _ _ _ _ (fun e w' => ∃ A' cap', e = .returned (.agg #[.int .i64 0, .int .i64 (posI l t.num), .string t.name, .slice A' 0 cap']) ∧ Below w.heap.size w w' ∧ NewT w w' A' [])
  clear HRE
  generalize posI l t.num = ps at *
  generalize t.num = a1 at *
  generalize t.name = a2 at *
  clear hk hl hI
  go_enter Tryz.func46, Tryz.ntmps46
  go_wp2_with fail
  refine (HP.out _ _ _).mono ?_; rintro e W' ⟨rfl, rfl⟩
  go_wp2_with fail
  go_loopw [6] (fun i wr => i = .int .i64 0 ∧ wr = (((w.alloc (.cells #[.int .i64 0, .int .i64 a1, .string a2, .slice A 0 cap] 24)).alloc (.cells #[.int .i64 0, .int .i64 0, .string ⟨#[]⟩, .slice none 0 0] 24)).alloc (.cells #[.int .i64 0, .int .i64 ps, .string a2, .slice none 0 0] 24))) (fun _ _ => 0)
  case atStart => exact ⟨rfl, rfl⟩
  case round =>
    obtain ⟨rfl, rfl⟩ := hrel
    go_wp2_with fail
    exact bodyPost_ret (v := .agg #[.int .i64 0, .int .i64 ps, .string a2, .slice none 0 0]) (by simp [results, Tryz.results46, go_sem]) rfl ⟨none, 0, rfl, hB3 _ _ _, TmsK.nil⟩
set_option maxHeartbeats 6400000 in
theorem r3_number (l : List Int) (hll : l.length ≤ 100000) (D : Option Addr) (lc : Nat) : ∀ (t : Tm) (A : Option Addr) (cap : Nat) (w : World), IntsAt w D l → TmsAt w.heap.size w A t.args → t.allOk = true →
    Calls Tryz.prog 46 #[.slice D l.length lc, tmV t A cap] w fun e w' => ∃ A' cap', e = .returned (tmV (ren (posI l) t) A' cap') ∧ Below w.heap.size w w' ∧ NewT w w' A' (ren (posI l) t).args := by
  refine Tm.ind fun t ih => ?_
  intro A cap w hI hT hok
  by_cases hk0 : t.kind = 0
  · exact r3_number0 l hll D lc t hk0 (by
      rw [Tm.allOk_eq, Bool.and_eq_true] at hok
      have := hok.1
      unfold nodeOk at this
      rw [if_pos hk0] at this
      simp at this
      exact List.length_eq_zero_iff.2 (by simpa using this.2)) A cap w hI
  have HI2 := Lib.hid hI
  have hkb : (t.kind == 0) = false := by simpa using hk0
  have HRE : Hid (ren (posI l) t = .mk t.kind t.num t.name (t.args.map (ren (posI l)))) := Lib.hid (by rw [ren_eq, if_neg hk0])
  rw [HRE.out]
  show Calls _ _ _ _ (fun e w' => ∃ A' cap', e = .returned (.agg #[.int .i64 t.kind, .int .i64 t.num, .string t.name, .slice A' (t.args.map (ren (posI l))).length cap']) ∧ Below w.heap.size w w' ∧ NewT w w' A' (t.args.map (ren (posI l))))
  rw [List.length_map]
  clear hI HRE hk0
  obtain ⟨i, hi, hz0, hz1, hz2⟩ := info_parts infoTm
  have HI := Lib.hid hi
  have HZ0 := Lib.hid hz0
  have HZ1 := Lib.hid hz1
  have HZ2 := Lib.hid hz2
  clear hi hz0 hz1 hz2
  have HT := Lib.hid hT
  have hm : t.args.length ≤ 8 := by
    rw [Tm.allOk_eq, Bool.and_eq_true] at hok
    have := hok.1
    unfold nodeOk at this
    grind
  have HOKA : Hid (∀ a ∈ t.args, a.allOk = true) := Lib.hid (by
    rw [Tm.allOk_eq, Bool.and_eq_true, List.all_eq_true] at hok
    exact hok.2)
  have HIH := Lib.hid ih
  clear hT ih hok
  obtain ⟨L, HL⟩ : ∃ L, Hid (L = t.args.length) := ⟨_, Lib.hid rfl⟩
  have HST := Lib.hid (CpH.start w t A cap L 24 HL.out)
  unfold tmV at *
  rw [← HL.out] at hm ⊢
  go_enter Tryz.func46, Tryz.ntmps46
  go_wp2_with fail
  go_loopw [6] (fun i wr => ∃ k : Nat, ∃ v : Value, ∃ rs : List TR, k ≤ L ∧ i = .int .i64 k ∧ Hid (CpH w wr 24 t A cap v rs) ∧ Hid (rs.map (·.1) = (t.args.take k).map (ren (posI l)))) (fun i _ => L - (intOf i).toNat)
  case atStart => exact ⟨0, _, [], Nat.zero_le _, rfl, HST, Lib.hid (by simp)⟩
  case round =>
    obtain ⟨k, v, rs, hk, rfl, HB, HR⟩ := hrel
    have b3 := HB.out.b3
    rw [← HL.out] at b3
    by_cases hlt : k < L
    · have hkl : k < t.args.length := by have := HL.out; omega
      obtain ⟨b, off, A', cap', rfl, hb, c0, c1, c2, c3, hs⟩ := (HT.out.keep HB.out.bel).get k hkl
      have hD := HB.out.drew
      have HA := Lib.hid (HIH.out t.args[k] (List.getElem_mem hkl) A' cap' wr.drew ((HI2.out.below HB.out.bel).below (Below.refl _ wr).drew) ((hs.keep (Below.refl _ wr).drew).mono HB.out.bel.size) (HOKA.out _ (List.getElem_mem hkl)))
      have HC : Hid (Calls Tryz.prog 46 #[.slice D l.length lc, .agg #[.int .i64 t.args[k].kind, .int .i64 t.args[k].num, .string t.args[k].name, .slice A' t.args[k].args.length cap']] wr.drew fun e w' => ∃ A2 c2, e = .returned (.agg #[.int .i64 (ren (posI l) t.args[k]).kind, .int .i64 (ren (posI l) t.args[k]).num, .string (ren (posI l) t.args[k]).name, .slice A2 (ren (posI l) t.args[k]).args.length c2]) ∧ CpH w w' 24 t (some ⟨b, off, none⟩) cap v rs ∧ TmsK (fun b => w.heap.size + 3 ≤ b ∧ b < w'.heap.size ∧ v.ownBlock ≠ some b) w' A2 (ren (posI l) t.args[k]).args) :=
        Lib.hid (HA.out.mono fun e w' hh => by
          obtain ⟨A2, c2, he, hB, hN⟩ := hh
          refine ⟨A2, c2, he, hD.call hB, hN.keep (fun _ _ => rfl) fun b hb => ⟨Nat.le_trans hD.lt hb.1, hb.2, fun ee => ?_⟩⟩
          have := (hD.own.own.lt b ee).2
          have h1 := hb.1
          omega)
      have hrl : rs.length = k := by
        have := congrArg List.length HR.out
        rw [List.length_map, List.length_map, List.length_take] at this; omega
      have HR2 : Hid ((rs ++ [((ren (posI l) t.args[k], none, 0) : TR)]).map (fun x : TR => x.1) = (t.args.take (k + 1)).map (ren (posI l))) := Lib.hid (by
        rw [List.map_append, HR.out, List.take_succ_eq_append_getElem hkl, List.map_append]; simp)
      have hk3 := HB.out.c3
      have hkf := HB.out.cf 3
      have hk0 : (0 : Int) ≤ (k : Int) := by omega
      have hk1 : (k : Int) < (L : Int) := by omega
      clear hs HA
      obtain ⟨x, HXE⟩ : ∃ x, Hid (x = t.args[k]) := ⟨_, Lib.hid rfl⟩
      rw [← HXE.out] at HC HR2 c0 c1 c2 c3
      obtain ⟨a, HAE⟩ : ∃ a, Hid (a = ren (posI l) x) := ⟨_, Lib.hid rfl⟩
      rw [← HAE.out] at HC HR2
      go_wp2_with fail
      go_region_law (first
        | (go_simp; go_at_call 46; (with_reducible refine HC.out.mono ?_); rintro e w2 ⟨A2, c2', rfl, hC2, hS2⟩; have k3 := hC2.c3; have kf := hC2.cf 3; have hCa := hC2.call ((Below.refl _ _).alloc (Nat.le_refl _) (.cells #[.int .i64 a.kind, .int .i64 a.num, .string a.name, .slice A2 a.args.length c2'] 24)); have k5 := hCa.c3; have kf5 := hCa.cf 3)
        | go_must (have q1 : rs.length + 1 ≤ maxLen := by unfold maxLen; omega
                   have q2 : (rs.length + 1) * 56 ≤ 140737488355328 := by omega
                   have q3 : w.heap.size + 3 ≤ (w2.alloc (.cells #[.int .i64 a.kind, .int .i64 a.num, .string a.name, .slice A2 a.args.length c2'] 24)).heap.size := hCa.lt
                   have q4 : ∀ j u, (rowC (a, A2, c2'))[j]? = some u → (w2.alloc (.cells #[.int .i64 a.kind, .int .i64 a.num, .string a.name, .slice A2 a.args.length c2'] 24)).cell? ((⟨w2.heap.size, 0, none⟩ : Addr).add j) = some u := World.news_of_block (heap_alloc_new w2 _)
                   have q5 : (w2.alloc (.cells #[.int .i64 a.kind, .int .i64 a.num, .string a.name, .slice A2 a.args.length c2'] 24)).heap.size = w2.heap.size + 1 := by simp
                   refine step_append_lies _ (by rfl) _ _ 22 (by rfl) (w.heap.size + 3) 24 i _ 4 56 Tryz.underlying22 HI.out HZ0.out HZ1.out HZ2.out (by rfl) (by decide) v rs.length (rowsC rs) (by rfl) hCa.own.own ⟨w2.heap.size, 0, none⟩ 1 1 (rowC (a, A2, c2')) (by rfl) (by rfl) q4 (rowC_one _) (by decide) q1 q2 q3 (w2.heap.size + 1) q5 ?_; intro g2 cp2 w3 hown3 hg3 hat3 hlt3; clear q1 q2 q3 q4 q5; have k4 := (hCa.far hg3 (w.heap.size + 2) 3 (by omega)).1.trans hCa.c3; have kf4 := (hCa.far hg3 (w.heap.size + 2) 3 (by omega)).2.trans (hCa.cf 3))
        | fail)
      all_goals
        have HN := Lib.hid (hCa.app (a, A2, c2') (hS2.keep (fun b hb => heap_alloc_old w2 _ hb.2.1) fun b hb => ⟨hb.1, by simp; omega, hb.2.2⟩) hown3 hg3 (by
          rcases hat3 with h' | h'
          · exact .inl h'.symm
          · exact .inr (by rw [h']; simp [Value.ownBlock])))
        rw [hrl] at HN
        have HR3 : Hid ((rs ++ [((a, A2, c2') : TR)]).map (fun x : TR => x.1) = (t.args.take (k + 1)).map (ren (posI l))) := Lib.hid (by rw [← HR2.out]; simp)
        clear k3 kf k4 kf4 k5 kf5 hC2 hS2 hCa hown3 hg3 hD
        go_wp2_with fail
        go_roundw
        case rel => exact ⟨k + 1, _, rs ++ [(a, A2, c2')], by omega, by go_num, HN, HR3⟩
        case measure => simp [intOf] <;> omega
    · have hkL : k = L := by omega
      subst hkL
      obtain ⟨A2, c2, rfl, hN⟩ := HB.out.own.tms
      have hrl : rs.length = k := by
        have := congrArg List.length HR.out
        rw [List.length_map, List.length_map, List.length_take, ← HL.out] at this; omega
      have hra : rs.map (fun x : TR => x.1) = t.args.map (ren (posI l)) := by rw [HR.out, HL.out, List.take_length]
      rw [hrl] at HB
      have k0 := HB.out.c0
      have k1 := HB.out.c1
      have k2 := HB.out.c2
      have k3 := HB.out.c3
      obtain ⟨v0, r0⟩ := HB.out.r0
      obtain ⟨v1, r1⟩ := HB.out.r1
      obtain ⟨v2, r2⟩ := HB.out.r2
      obtain ⟨v3, r3⟩ := HB.out.r3
      have f0 := HB.out.rf 0
      have f1 := HB.out.rf 1
      have f2 := HB.out.rf 2
      have f3 := HB.out.rf 3
      have HP := Lib.hid (HB.out.put (.int .i64 t.kind) (.int .i64 t.num) (.string t.name) (.slice A2 k c2))
      have HNA : Hid (NewT w ((((wr.setCell ⟨w.heap.size + 1, 0, none⟩ (.int .i64 t.kind)).setCell ⟨w.heap.size + 1, 1, none⟩ (.int .i64 t.num)).setCell ⟨w.heap.size + 1, 2, none⟩ (.string t.name)).setCell ⟨w.heap.size + 1, 3, none⟩ (.slice A2 k c2)) A2 (t.args.map (ren (posI l)))) := Lib.hid (by
        obtain ⟨A3, c3, he, h3⟩ := HP.out.2.tms
        rw [hra] at h3
        injection he with he _ _
        subst he
        exact h3.keep (fun _ _ => rfl) fun b hb => ⟨by have := hb.1; omega, hb.2⟩)
      clear hN hra hrl
      go_wp2_with fail
      exact bodyPost_ret (v := .agg #[.int .i64 t.kind, .int .i64 t.num, .string t.name, .slice A2 k c2]) (by simp [results, Tryz.results46, go_sem, r0, r1, r2, r3]) rfl ⟨A2, c2, rfl, HP.out.1, HNA.out⟩
set_option maxHeartbeats 3200000 in
theorem ref_canon (t : Tm) (A : Option Addr) (cap : Nat) (w : World) (hT : TmsAt w.heap.size w A t.args) :
    Calls Tryz.prog 25 #[tmV t A cap] w fun e w' => ∃ A' cap', e = .returned (tmV (canT t) A' cap') ∧ Below w.heap.size w w' ∧ NewT w w' A' (canT t).args := by
  have hX0 := R4.start (w0 := w) (w := w.alloc (.cells #[.int .i64 t.kind, .int .i64 t.num, .string t.name, .slice A t.args.length cap] 24)) ((Below.refl _ _).alloc (Nat.le_refl _) _) (.int .i64 0) (.int .i64 0) (.string ⟨#[]⟩) (.slice none 0 0) 24
  have hs : (w.alloc (.cells #[.int .i64 t.kind, .int .i64 t.num, .string t.name, .slice A t.args.length cap] 24)).heap.size = w.heap.size + 1 := by simp
  rw [hs] at hX0
  have HX := Lib.hid hX0
  have HB0 : Hid (TBoxT w ((w.alloc (.cells #[.int .i64 t.kind, .int .i64 t.num, .string t.name, .slice A t.args.length cap] 24)).alloc (.cells #[.int .i64 0, .int .i64 0, .string ⟨#[]⟩, .slice none 0 0] 24)) t A cap) :=
    Lib.hid ((TBoxT.start w t A cap 24).call ((Below.refl _ _).alloc (Nat.le_refl _) _))
  have HV := Lib.hid (fun (W : World) (h : R4 w W (w.heap.size + 1)) => ref_tvalid t A cap W ((hT.keep h.bel).mono h.bel.size))
  cases hv : validT t
  · have HE := Lib.hid (show canT t = tm0 by unfold canT; rw [hv]; rfl)
    rw [hv] at HV
    clear hv HB0 hT
    rw [HE.out]
    unfold tmV at *
    generalize t.kind = a0 at *
    generalize t.num = a1 at *
    generalize t.name = a2 at *
    generalize t.args.length = a3 at *
    go_enter Tryz.func25, Tryz.ntmps25
    go_wp2_with fail
    refine (HV.out _ HX.out).mono ?_; rintro e w1 ⟨rfl, hB1⟩
    have hX1 := HX.out.call hB1
    obtain ⟨v0, r0⟩ := hX1.r0
    obtain ⟨v1, r1⟩ := hX1.r1
    obtain ⟨v2, r2⟩ := hX1.r2
    obtain ⟨v3, r3⟩ := hX1.r3
    have f0 := hX1.fr 0
    have f1 := hX1.fr 1
    have f2 := hX1.fr 2
    have f3 := hX1.fr 3
    have hput := hX1.put (.int .i64 0) (.int .i64 0) (.string ⟨#[]⟩) (.slice none 0 0)
    go_wp2_with fail
    exact bodyPost_ret (v := .agg #[.int .i64 0, .int .i64 0, .string ⟨#[]⟩, .slice none 0 0]) (by simp [results, Tryz.results25, go_sem, r0, r1, r2, r3]) rfl ⟨none, 0, rfl, hput, TmsK.nil⟩
  · obtain ⟨hnd, hok⟩ := (validT_iff t).1 hv
    have HE := Lib.hid (show canT t = ren (posI (varsT t [])) t by unfold canT; rw [hv]; rfl)
    have hvl := (varsT_all t []).2.1
    rw [hv] at HV
    rw [HE.out]
    have HVA := Lib.hid (fun (W : World) (h : CnH w W t A cap) => (r3_vars W t hok A cap W (.slice none 0 0) [] (Below.refl _ _) ((hT.keep h.r.bel).mono h.r.bel.size) (OwnI.nil _ _ _) (by simp; omega)).mono (R' := fun e w' => ∃ v', e = .returned v' ∧ Below W.heap.size W w' ∧ OwnI 2 W.heap.size w' v' (varsT t [])) fun _ _ ⟨v', he, hO, hg, _⟩ => ⟨v', he, grown_none hg, hO⟩)
    have HNU := Lib.hid (fun (W : World) (h : CnH w W t A cap) (D : Option Addr) (lc : Nat) (hI : IntsAt W D (varsT t [])) => r3_number (varsT t []) (by simp at hvl; omega) D lc t A cap W hI ((hT.keep h.r.bel).mono h.r.bel.size) hok)
    obtain ⟨u, hu⟩ : ∃ u, u = ren (posI (varsT t [])) t := ⟨_, rfl⟩
    rw [← hu] at HNU ⊢
    have HCN := Lib.hid (fun W (h : R4 w W (w.heap.size + 1)) (h2 : TBoxT w W t A cap) => (⟨h, h2⟩ : CnH w W t A cap))
    have HKEEP : Hid (∀ w', CnH w w' t A cap → w'.cell? ⟨w.heap.size, 0, none⟩ = some (.int .i64 t.kind) ∧ w'.cell? ⟨w.heap.size, 1, none⟩ = some (.int .i64 t.num) ∧ w'.cell? ⟨w.heap.size, 2, none⟩ = some (.string t.name) ∧ w'.cell? ⟨w.heap.size, 3, none⟩ = some (.slice A t.args.length cap) ∧ CnH w w' t A cap) := Lib.hid (fun w' h => ⟨h.b.c0, h.b.c1, h.b.c2, h.b.c3, h⟩)
    have HOF : Hid (∀ w', (w'.cell? ⟨w.heap.size, 0, none⟩ = some (.int .i64 t.kind) ∧ w'.cell? ⟨w.heap.size, 1, none⟩ = some (.int .i64 t.num) ∧ w'.cell? ⟨w.heap.size, 2, none⟩ = some (.string t.name) ∧ w'.cell? ⟨w.heap.size, 3, none⟩ = some (.slice A t.args.length cap) ∧ CnH w w' t A cap) → CnH w w' t A cap) := Lib.hid (fun w' h => h.2.2.2.2)
    clear hv hT hX0 hs hu hvl hok hnd HE
    generalize varsT t [] = vl at *
    unfold tmV at *
    generalize hK0 : t.kind = a0 at *
    generalize hK1 : t.num = a1 at *
    generalize hK2 : t.name = a2 at *
    generalize hK3 : t.args.length = a3 at *
    clear hK0 hK1 hK2 hK3
    go_enter Tryz.func25, Tryz.ntmps25
    go_wp2_with fail
    refine (HV.out _ HX.out).mono ?_; rintro e w1 ⟨rfl, hB1⟩
    have HST := Lib.hid (CnH.drew (HCN.out _ (HX.out.call hB1) (HB0.out.call hB1)))
    clear HX HB0 hB1 HV
    go_wp2_with fail
    go_region_held3 (fun w' => w'.cell? ⟨w.heap.size, 0, none⟩ = some (.int .i64 a0) ∧ w'.cell? ⟨w.heap.size, 1, none⟩ = some (.int .i64 a1) ∧ w'.cell? ⟨w.heap.size, 2, none⟩ = some (.string a2) ∧ w'.cell? ⟨w.heap.size, 3, none⟩ = some (.slice A a3 cap) ∧ CnH w w' t A cap)
      (first
        | with_reducible exact HKEEP.out _ HST.out
        | with_reducible exact HKEEP.out _ (CnH.call (HOF.out _ (by with_reducible assumption)) (by with_reducible assumption))
        | with_reducible exact HKEEP.out _ hX5
        | with_reducible exact HKEEP.out _ (CnH.put4 (HOF.out _ (by with_reducible assumption)) _ _ _ _))
      (first
        | (go_at_call 47; (with_reducible refine (HVA.out _ (HOF.out _ (by with_reducible assumption))).mono ?_); rintro e w4 ⟨v4, rfl, hB4, hO4⟩; obtain ⟨D, lc, rfl, hI4⟩ := hO4.ints)
        | (go_at_call 46; have hX4 := HOF.out w4 (by with_reducible assumption); (with_reducible refine (HNU.out _ hX4 D lc hI4).mono ?_); rintro e w5 ⟨A5, c5, rfl, hB5, hN5⟩; have hX5 := hX4.call hB5; have hlt5 := hX4.r.lt; obtain ⟨u0, r0⟩ := hX5.r.r0; obtain ⟨u1, r1⟩ := hX5.r.r1; obtain ⟨u2, r2⟩ := hX5.r.r2; obtain ⟨u3, r3⟩ := hX5.r.r3; have f0 := hX5.r.fr 0; have f1 := hX5.r.fr 1; have f2 := hX5.r.fr 2; have f3 := hX5.r.fr 3)
        | fail)
    have HP := Lib.hid (hX5.r.put (.int .i64 u.kind) (.int .i64 u.num) (.string u.name) (.slice A5 u.args.length c5))
    have HNA : Hid (NewT w ((((w5.setCell ⟨w.heap.size + 1, 0, none⟩ (.int .i64 u.kind)).setCell ⟨w.heap.size + 1, 1, none⟩ (.int .i64 u.num)).setCell ⟨w.heap.size + 1, 2, none⟩ (.string u.name)).setCell ⟨w.heap.size + 1, 3, none⟩ (.slice A5 u.args.length c5)) A5 u.args) :=
      Lib.hid (TmsK.keep hN5 (fun b hb => put4_block w5 (w.heap.size + 1) _ _ _ _ b (by omega)) (fun b hb => ⟨by omega, by rw [put4_size]; exact hb.2⟩))
    go_wp2_with fail
    exact bodyPost_ret (v := .agg #[.int .i64 u.kind, .int .i64 u.num, .string u.name, .slice A5 u.args.length c5]) (by simp [results, Tryz.results25, go_sem, r0, r1, r2, r3]) rfl ⟨A5, c5, rfl, HP.out, HNA.out⟩
end Go.Proofs.YtgapnafkelokaaaGreatDoor
