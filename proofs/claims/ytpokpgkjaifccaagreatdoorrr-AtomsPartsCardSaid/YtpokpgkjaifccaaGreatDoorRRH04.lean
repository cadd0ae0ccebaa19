/- Parts of the proof. -/
import Derived.Test.YtpokpgkjaifccaaGreatDoorRRH03
import Derived.Carry
import Derived.DeepKeys4
import Derived.Maps.OwnSet
import Derived.RegionTactic
import Derived.OwnWalk
import Derived.Test.YtpokpgkjaifccaaGreatDoorRRH01
import Derived.RangeFuncNested
import Derived.RangeFuncBound
import Derived.RangeFuncCalls
import Derived.RangeFuncLeaves
namespace Hb
open Go Go.RowKit
theorem CpX.start0 (w:World) (t:Tm) (A:Option Addr) (cap LN:Nat) (e:TypeId):Below w.heap.size w ((((w.alloc (.cells #[.int .i64 t.kind,.int .i64 t.num,.string t.name,.slice A LN cap] e)).alloc (.cells #[.int .i64 0,.int .i64 0,.string ⟨#[]⟩,.slice none 0 0] e)).alloc (.cells #[.int .i64 t.kind,.int .i64 t.num,.string t.name,.slice none 0 0] e))) :=
 (((Below.refl _ _).alloc (Nat.le_refl _) _).alloc (by simp) _).alloc (by simp;omega) _
end Hb
namespace Go.Proofs.YtpokpgkjaifccaaGreatDoorRR
open Go.RowKit Hb
set_option maxRecDepth 100000
theorem _root_.Hb.ba_nil {s:ByteArray} (h:(s.toList==[])=true):s=⟨#[]⟩:=ba_ext (by rw [eq_of_beq h,tl_data])
set_option maxHeartbeats 6400000 in
theorem t_applyC (mb m0 lo : Nat) (hlo : lo ≤ mb) : ∀ (t : Tm) (A : Option Addr) (cap : Nat) (w : World) (acc : List Int), TmsAt lo w A t.args → t.allOk = true → CnS w mb m0 acc → acc.length + t.nodes ≤ 100000 →
    Calls Tryz.prog 55 #[tmV t A cap, .func (.func 56) #[] #[.pointer (some ⟨m0, 0, none⟩)]] w fun e w' => ∃ A' cap', e = .returned (tmV (ren (posI (varsT t acc)) t) A' cap') ∧ Bx mb w.heap.size w w' ∧ NewT w w' A' (ren (posI (varsT t acc)) t).args ∧ CnS w' mb m0 (varsT t acc) := by
  refine Tm.ind fun t ih => ?_
  intro A cap w acc hT hok hS hlen
  obtain ⟨i, hi, hz0, hz1, hz2⟩ := info_parts infoTm
  have HI := zq hi
  have HZ0 := zq hz0
  have HZ1 := zq hz1
  have HZ2 := zq hz2
  clear hi hz0 hz1 hz2
  have HT := zq hT
  have hltm := hS.ltm
  have hlt0 := hS.lt
  have hnode : nodeOk t = true := by rw [Tm.allOk_eq, Bool.and_eq_true] at hok; exact hok.1
  have hm : t.args.length ≤ 8 := by
    have := hnode
    unfold nodeOk at this
    grind
  have HOKA : Hid (∀ a ∈ t.args, a.allOk = true) := zq (by
    rw [Tm.allOk_eq, Bool.and_eq_true, List.all_eq_true] at hok
    exact hok.2)
  have HIH := zq ih
  obtain ⟨L, HL⟩ := lz (t.args.length)
  have HST := zq (CpX.start w hltm t A cap L 32 HL.out)
  have HS0 := zq hS
  by_cases hk0 : t.kind = 0
  · have hl0 : t.args.length = 0 := by
      have h2 := hnode
      unfold nodeOk at h2
      rw [if_pos hk0] at h2
      simp at h2
      exact List.length_eq_zero_iff.2 h2.2
    have hnm : t.name = ⟨#[]⟩ := by
      have h2 := hnode
      unfold nodeOk at h2
      rw [if_pos hk0] at h2
      simp only [Bool.and_eq_true] at h2
      exact ba_nil h2.1.2
    have hnil : t.args = [] := List.eq_nil_of_length_eq_zero hl0
    have HRE : Hid (ren (posI (varsT t acc)) t = .mk 0 (posI (varH t acc) t.num) ⟨#[]⟩ []) := zq (by rw [ren_eq, if_pos hk0, hk0, hnil, hnm, varsT_leaf hl0]; rfl)
    have HVL := zq (varsT_leaf hl0 acc)
    have HC1 := zq (fun W (h : CnS W mb m0 acc) => canon_1 t A cap W mb m0 acc hk0 hnode h (by have := t.nodes_pos; omega))
    have HX0 := zq (RX.start w mb hltm (.int .i64 t.kind) (.int .i64 t.num) (.string t.name) (.slice A L cap) 32)
    have hW : Below w.heap.size w ((w.alloc (.cells #[.int .i64 t.kind, .int .i64 t.num, .string t.name, .slice A L cap] 32)).alloc (.cells #[.int .i64 0, .int .i64 0, .string ⟨#[]⟩, .slice none 0 0] 32)) := ((Below.refl _ _).alloc (Nat.le_refl _) _).alloc (by simp) _
    have HS1 := zq (hS.below hW)
    have hb0 : (t.kind == 0) = true := by simp [hk0]
    unfold tmV at HC1 ⊢
    rw [← HL.out] at HC1 ⊢
    clear hok ih hT HST hW hS hnode HIH HOKA hnm hl0 hnil
    rw [hk0] at HC1 HX0 HS1 hb0 ⊢
    generalize t.num = a1 at *
    generalize t.name = a2 at *
    go_enter Tryz.func55, Tryz.ntmps55
    go_wp2_with fail
    refine (HC1.out _ HS1.out).mono ?_; rintro e w1 ⟨rfl, hB1, hS2⟩
    have hX1 := HX0.out.step hB1
    have HSF := zq hS2
    clear hB1 hS2
    obtain ⟨v0, r0⟩ := hX1.r0
    obtain ⟨v1, r1⟩ := hX1.r1
    obtain ⟨v2, r2⟩ := hX1.r2
    obtain ⟨v3, r3⟩ := hX1.r3
    have f0 := hX1.fr 0
    have f1 := hX1.fr 1
    have f2 := hX1.fr 2
    have f3 := hX1.fr 3
    have HP := zq (hX1.put (.int .i64 0) (.int .i64 (posI (varH t acc) a1)) (.string ⟨#[]⟩) (.slice none 0 0))
    have HSG := zq (HSF.out.blocks (w' := (((w1.setCell ⟨w.heap.size + 1, 0, none⟩ (.int .i64 0)).setCell ⟨w.heap.size + 1, 1, none⟩ (.int .i64 (posI (varH t acc) a1))).setCell ⟨w.heap.size + 1, 2, none⟩ (.string ⟨#[]⟩)).setCell ⟨w.heap.size + 1, 3, none⟩ (.slice none 0 0)) (by simp) (put4_block _ _ _ _ _ _ _ (by omega)) (put4_block _ _ _ _ _ _ _ (by omega)))
    clear hX1
    go_wp2_with fail
    exact bodyPost_ret (v := .agg #[.int .i64 0, .int .i64 (posI (varH t acc) a1), .string ⟨#[]⟩, .slice none 0 0]) (by simp [results, Tryz.results55, go_sem, r0, r1, r2, r3]) rfl ⟨none, 0, by rw [HRE.out]; rfl, HP.out, by rw [HRE.out]; exact TmsK.nil, by rw [HVL.out]; exact HSG.out⟩
  have hkb : (t.kind == 0) = false := by simp [hk0]
  have HVN : Hid (varsT t acc = accL t.args acc) := zq (varsT_node hk0 acc)
  have HRN : Hid (∀ f, ren f t = .mk t.kind t.num t.name (t.args.map (ren f))) := zq fun f => by rw [ren_eq, if_neg hk0]
  have HLEN : Hid (∀ k (hk : k < t.args.length), (accL (t.args.take k) acc).length + t.args[k].nodes ≤ 100000) := zq fun k hk => by
    have h1 : (accL (t.args.take k) acc).length ≤ acc.length + sumT (t.args.take k) := foldV_len _ acc
    have h2 := sumT_take t.args k hk
    have h3 := sumT_le t.args (k + 1)
    have h4 := Tm.nodes_eq t
    have h5 : sumT t.args = (t.args.map Tm.nodes).sum := rfl
    omega
  clear ih hT hok hS hnode hlen
  unfold tmV at *
  rw [← HL.out] at hm ⊢
  have HSX := zq (HS0.out.below (CpX.start0 w t A cap L 32))
  go_enter Tryz.func55, Tryz.ntmps55
  go_wp2_with fail
  go_loopw [24] (fun i wr => ∃ k : Nat, ∃ v : Value, ∃ rs : List TR, k ≤ L ∧ i = .int .i64 k ∧ Hid (CpX mb w wr 32 t A cap v rs) ∧ Hid (rs.map (·.1) = (t.args.take k).map (ren (posI (accL (t.args.take k) acc)))) ∧ Hid (CnS wr mb m0 (accL (t.args.take k) acc))) (fun i _ => L - (intOf i).toNat)
  case atStart => exact ⟨0, _, [], Nat.zero_le _, rfl, HST, zq (by simp), HSX⟩
  case round =>
    obtain ⟨k, v, rs, hk, rfl, HB, HR, HS⟩ := hrel
    have b3 := HB.out.b3
    rw [← HL.out] at b3
    by_cases hlt : k < L
    · have hkl : k < t.args.length := by have := HL.out; omega
      obtain ⟨b, off, A', cap', rfl, hb, c0, c1, c2, c3, hs⟩ := (TmsAt.get (B := lo) (TmsK.keep HT.out (fun b hb => HB.out.bel.block b (by omega) (by omega)) (fun _ h => h))) k hkl
      have hX := HB.out.call (Bx.of ((Below.refl _ _).alloc (Nat.le_refl _) (.cells #[.int .i64 t.args[k].kind, .int .i64 t.args[k].num, .string t.args[k].name, .slice A' t.args[k].args.length cap'] 32)))
      have hD := hX.drew
      have hBX : Below wr.heap.size wr (wr.alloc (.cells #[.int .i64 t.args[k].kind, .int .i64 t.args[k].num, .string t.args[k].name, .slice A' t.args[k].args.length cap'] 32)).drew := ((Below.refl _ wr).alloc (Nat.le_refl _) _).drew
      have HA := zq (HIH.out t.args[k] (List.getElem_mem hkl) A' cap' (wr.alloc (.cells #[.int .i64 t.args[k].kind, .int .i64 t.args[k].num, .string t.args[k].name, .slice A' t.args[k].args.length cap'] 32)).drew (accL (t.args.take k) acc) (TmsAt.keep hs (hBX.mono (by have := HB.out.bel.size; omega))) (HOKA.out _ (List.getElem_mem hkl)) (HS.out.below hBX) (HLEN.out k hkl))
      obtain ⟨a2, HA2⟩ := lz (ren (posI (varsT t.args[k] (accL (t.args.take k) acc))) t.args[k])
      rw [← HA2.out] at HA
      have HC : Hid (Calls Tryz.prog 55 #[.agg #[.int .i64 t.args[k].kind, .int .i64 t.args[k].num, .string t.args[k].name, .slice A' t.args[k].args.length cap'], .func (.func 56) #[] #[.pointer (some ⟨m0, 0, none⟩)]] (wr.alloc (.cells #[.int .i64 t.args[k].kind, .int .i64 t.args[k].num, .string t.args[k].name, .slice A' t.args[k].args.length cap'] 32)).drew fun e w' => ∃ A2 c2, e = .returned (.agg #[.int .i64 a2.kind, .int .i64 a2.num, .string a2.name, .slice A2 a2.args.length c2]) ∧ CpX mb w w' 32 t (some ⟨b, off, none⟩) cap v rs ∧ TmsK (fun b => w.heap.size + 3 ≤ b ∧ b < w'.heap.size ∧ v.ownBlock ≠ some b) w' A2 a2.args ∧ CnS w' mb m0 (accL (t.args.take (k + 1)) acc)) :=
        zq (HA.out.mono fun e w' hh => by
          obtain ⟨A2, c2, he, hB, hN, hSS⟩ := hh
          refine ⟨A2, c2, he, hD.call hB, hN.keep (fun _ _ => rfl) fun b hb => ⟨Nat.le_trans hD.lt hb.1, hb.2, fun ee => ?_⟩, ?_⟩
          · have := (hD.own.own.lt b ee).2
            have h1 := hb.1
            omega
          · rw [List.take_succ_eq_append_getElem hkl, accL_snoc]; exact hSS)
      have hrl : rs.length = k := by
        have := congrArg List.length HR.out
        rw [List.length_map, List.length_map, List.length_take] at this; omega
      have HR2 : Hid ((rs ++ [((a2, none, 0) : TR)]).map (fun x : TR => x.1) = (t.args.take (k + 1)).map (ren (posI (accL (t.args.take (k + 1)) acc)))) := zq (by
        rw [List.map_append, HR.out, List.take_succ_eq_append_getElem hkl, ren_step, HA2.out]; rfl)
      have hk3 := hX.c3
      have hkf := hX.cf 3
      have hki : (0 : Int) ≤ (k : Int) := by omega
      have hk1 : (k : Int) < (L : Int) := by omega
      clear hs HA HA2 hBX HS
      obtain ⟨a, HAE⟩ := lz (t.args[k])
      rw [← HAE.out] at HC c0 c1 c2 c3 hX hD hk3 hkf
      go_wp2_with fail
      go_region_law (first
        | (go_simp; go_at_call 55; (with_reducible refine HC.out.mono ?_); rintro e w2 ⟨A2, c2', rfl, hC2, hS2, hSN⟩; have k3 := hC2.c3; have kf := hC2.cf 3; have hCa := hC2.call (Bx.of ((Below.refl _ _).alloc (Nat.le_refl _) (.cells #[.int .i64 a2.kind, .int .i64 a2.num, .string a2.name, .slice A2 a2.args.length c2'] 32))); have k5 := hCa.c3; have kf5 := hCa.cf 3)
        | go_must (have q1 : rs.length + 1 ≤ maxLen := by unfold maxLen; omega
                   have q2 : (rs.length + 1) * 56 ≤ 140737488355328 := by omega
                   have q3 : w.heap.size + 3 ≤ (w2.alloc (.cells #[.int .i64 a2.kind, .int .i64 a2.num, .string a2.name, .slice A2 a2.args.length c2'] 32)).heap.size := hCa.lt
                   have q4 : ∀ j u, (rowC (a2, A2, c2'))[j]? = some u → (w2.alloc (.cells #[.int .i64 a2.kind, .int .i64 a2.num, .string a2.name, .slice A2 a2.args.length c2'] 32)).cell? ((⟨w2.heap.size, 0, none⟩ : Addr).add j) = some u := World.news_of_block (heap_alloc_new w2 _)
                   have q5 : (w2.alloc (.cells #[.int .i64 a2.kind, .int .i64 a2.num, .string a2.name, .slice A2 a2.args.length c2'] 32)).heap.size = w2.heap.size + 1 := by simp
                   refine step_append_lies _ (by rfl) _ _ 30 (by rfl) (w.heap.size + 3) 32 i _ 4 56 Tryz.underlying30 HI.out HZ0.out HZ1.out HZ2.out (by rfl) (by decide) v rs.length (rowsC rs) (by rfl) hCa.own.own ⟨w2.heap.size, 0, none⟩ 1 1 (rowC (a2, A2, c2')) (by rfl) (by rfl) q4 (rowC_one _) (by decide) q1 q2 q3 (w2.heap.size + 1) q5 ?_; intro g2 cp2 w3 hown3 hg3 hat3 hlt3; clear q1 q2 q3 q4 q5; have k4 := (hCa.far hg3 (w.heap.size + 2) 3 (by omega)).1.trans hCa.c3; have kf4 := (hCa.far hg3 (w.heap.size + 2) 3 (by omega)).2.trans (hCa.cf 3))
        | fail)
      all_goals
        have HN := zq (hCa.app (a2, A2, c2') (hS2.keep (fun b hb => heap_alloc_old w2 _ hb.2.1) fun b hb => ⟨hb.1, by simp; omega, hb.2.2⟩) hown3 hg3 (by
          rcases hat3 with h' | h'
          · exact .inl h'.symm
          · exact .inr (by rw [h']; simp [Value.ownBlock])))
        rw [hrl] at HN
        have HR3 : Hid ((rs ++ [((a2, A2, c2') : TR)]).map (fun x : TR => x.1) = (t.args.take (k + 1)).map (ren (posI (accL (t.args.take (k + 1)) acc)))) := zq (by rw [← HR2.out]; simp)
        have HSN : Hid (CnS (w3.setCell ⟨w.heap.size + 2, 3, none⟩ (.slice (some ⟨g2, 0, none⟩) (k + 1) cp2)) mb m0 (accL (t.args.take (k + 1)) acc)) := zq (by
          have hq := hSN.below ((Below.refl _ _).alloc (Nat.le_refl _) (.cells #[.int .i64 a2.kind, .int .i64 a2.num, .string a2.name, .slice A2 a2.args.length c2'] 32))
          have hne : ∀ b, b < w.heap.size → some b ≠ v.ownBlock := fun b hb e => by have := (hCa.own.own.lt b e.symm).1; omega
          have hq3 := hq.blocks hg3.size (hg3.block mb hq.ltm (hne mb hltm)) (hg3.block m0 hq.lt (hne m0 hlt0))
          exact hq3.blocks (by simp) (heap_setCell_other _ _ _ _ (by show mb ≠ w.heap.size + 2; omega)) (heap_setCell_other _ _ _ _ (by show m0 ≠ w.heap.size + 2; omega)))
        clear hSN k3 kf k4 kf4 k5 kf5 hC2 hS2 hCa hown3 hg3 hD hX hk3 hkf
        go_wp2_with fail
        go_roundw
        case rel => exact ⟨k + 1, _, rs ++ [(a2, A2, c2')], by omega, by go_num, HN, HR3, HSN⟩
        case measure => simp [intOf] <;> omega
    · have hkL : k = L := by omega
      subst hkL
      obtain ⟨A2, c2, rfl, hN⟩ := HB.out.own.tms
      have hrl : rs.length = k := by
        have := congrArg List.length HR.out
        rw [List.length_map, List.length_map, List.length_take, ← HL.out] at this; omega
      have hra : rs.map (fun x : TR => x.1) = t.args.map (ren (posI (accL t.args acc))) := by rw [HR.out, HL.out, List.take_length]
      rw [HL.out, List.take_length] at HS
      rw [hrl] at HB
      have k0 := HB.out.c0
      have k1 := HB.out.c1
      have k2 := HB.out.c2
      have k3 := HB.out.c3
      obtain ⟨v0, r0⟩ := HB.out.r0
      obtain ⟨v1, r1⟩ := HB.out.r1
      obtain ⟨v2, r2⟩ := HB.out.r2
      obtain ⟨v3, r3⟩ := HB.out.r3
      have f0 := HB.out.rf 0
      have f1 := HB.out.rf 1
      have f2 := HB.out.rf 2
      have f3 := HB.out.rf 3
      have HP := zq (HB.out.put (.int .i64 t.kind) (.int .i64 t.num) (.string t.name) (.slice A2 k c2))
      have HNA : Hid (NewT w ((((wr.setCell ⟨w.heap.size + 1, 0, none⟩ (.int .i64 t.kind)).setCell ⟨w.heap.size + 1, 1, none⟩ (.int .i64 t.num)).setCell ⟨w.heap.size + 1, 2, none⟩ (.string t.name)).setCell ⟨w.heap.size + 1, 3, none⟩ (.slice A2 k c2)) A2 (t.args.map (ren (posI (accL t.args acc))))) := zq (by
        obtain ⟨A3, c3, he, h3⟩ := HP.out.2.tms
        rw [hra] at h3
        injection he with he _ _
        subst he
        exact h3.keep (fun _ _ => rfl) fun b hb => ⟨by have := hb.1; omega, hb.2⟩)
      have HSF := zq (HS.out.blocks (w' := (((wr.setCell ⟨w.heap.size + 1, 0, none⟩ (.int .i64 t.kind)).setCell ⟨w.heap.size + 1, 1, none⟩ (.int .i64 t.num)).setCell ⟨w.heap.size + 1, 2, none⟩ (.string t.name)).setCell ⟨w.heap.size + 1, 3, none⟩ (.slice A2 k c2)) (by simp) (put4_block _ _ _ _ _ _ _ (by omega)) (put4_block _ _ _ _ _ _ _ (by omega)))
      clear hN hra hrl HS
      go_wp2_with fail
      exact bodyPost_ret (v := .agg #[.int .i64 t.kind, .int .i64 t.num, .string t.name, .slice A2 k c2]) (by simp [results, Tryz.results55, go_sem, r0, r1, r2, r3]) rfl ⟨A2, c2, by rw [HRN.out, HVN.out]; show _ = Ending.returned (.agg #[_, _, _, .slice _ (t.args.map _).length _]); rw [List.length_map, ← HL.out]; rfl, HP.out.1, by rw [HRN.out, HVN.out]; exact HNA.out, by rw [HVN.out]; exact HSF.out⟩
end Go.Proofs.YtpokpgkjaifccaaGreatDoorRR
namespace Hb
open Go Go.RowKit
theorem R4.bx {w0 w w':World} {g mb:Nat} (h:R4 w0 w g) (hB:Bx mb w.heap.size w w') (hm:w0.heap.size≤mb) (hg:g≠mb):R4 w0 w' g :=
 ⟨h.bel.trans ((hB.mono h.bel.size).new hm),h.le,Nat.lt_of_lt_of_le h.lt hB.size,h.r0.imp fun _ k=>(hB.cell (p:=⟨_,_,none⟩) h.lt hg).trans k,h.r1.imp fun _ k=>(hB.cell (p:=⟨_,_,none⟩) h.lt hg).trans k,h.r2.imp fun _ k=>(hB.cell (p:=⟨_,_,none⟩) h.lt hg).trans k,h.r3.imp fun _ k=>(hB.cell (p:=⟨_,_,none⟩) h.lt hg).trans k,fun o=>(hB.frozen (p:=⟨_,o,none⟩) h.lt hg).trans (h.fr o)⟩
end Hb
namespace Go.Proofs.YtpokpgkjaifccaaGreatDoorRR
open Go.RowKit Hb
set_option maxRecDepth 100000
theorem CnS.start (w:World):CnS ((w.alloc (.map #[] 0)).alloc (.cells #[.map (some w.heap.size)] 72)) w.heap.size (w.heap.size+1) []:=by
 have hB:Below (w.alloc (.map #[] 0)).heap.size (w.alloc (.map #[] 0)) ((w.alloc (.map #[] 0)).alloc (.cells #[.map (some w.heap.size)] 72)):=(Below.refl _ _).alloc (Nat.le_refl _) _
 have hs:(w.alloc (.map #[] 0)).heap.size=w.heap.size+1:=by simp
 exact ⟨⟨_,_,(MapIs.start w Tryz.prog 2 2).kept (row:=none) ⟨hB.os,hB.tape,hB.output,hB.size,fun k hk _=>hB.block k hk⟩ (by simp)⟩,by rw [←hs];exact World.cell?_alloc_new _ _ _ 0,by simp,by simp;omega,by omega⟩
set_option maxHeartbeats 3200000 in
theorem t_canon (t:Tm) (A:Option Addr) (cap:Nat) (w:World) (hT:TmsAt w.heap.size w A t.args) :
  Calls Tryz.prog 33 #[tmV t A cap] w fun e w'=>∃A' cap',e=.returned (tmV (canT t) A' cap')∧Below w.heap.size w w'∧NewT w w' A' (canT t).args:=by
 have hX0:=R4.start (w0:=w) (w:=w.alloc (.cells #[.int .i64 t.kind,.int .i64 t.num,.string t.name,.slice A t.args.length cap] 32)) ((Below.refl _ _).alloc (Nat.le_refl _) _) (.int .i64 0) (.int .i64 0) (.string ⟨#[]⟩) (.slice none 0 0) 32
 have hs:(w.alloc (.cells #[.int .i64 t.kind,.int .i64 t.num,.string t.name,.slice A t.args.length cap] 32)).heap.size=w.heap.size+1:=by simp
 rw [hs] at hX0
 have HX:=zq hX0
 have HB0:Hid (TBoxT w ((w.alloc (.cells #[.int .i64 t.kind,.int .i64 t.num,.string t.name,.slice A t.args.length cap] 32)).alloc (.cells #[.int .i64 0,.int .i64 0,.string ⟨#[]⟩,.slice none 0 0] 32)) t A cap) :=
  zq ((TBoxT.start w t A cap 32).call ((Below.refl _ _).alloc (Nat.le_refl _) _))
 have HCEL:=zq (fun (W:World) (h:TBoxT w W t A cap)=>(⟨h.c0,h.c1,h.c2,h.c3⟩:_∧_∧_∧_))
 have HV:=zq (fun (W:World) (h:R4 w W (w.heap.size+1))=>t_valid t A cap W ((hT.keep h.bel).mono h.bel.size))
 cases hv:validT t
 ·have HE:=zq (show canT t=tm0 by unfold canT;rw [hv];rfl)
  rw [hv] at HV
  clear hv HB0 hT HCEL
  rw [HE.out]
  unfold tmV at *
  generalize t.kind=a0 at *
  generalize t.num=a1 at *
  generalize t.name=a2 at *
  generalize t.args.length=a3 at *
  go_enter Tryz.func33,Tryz.ntmps33
  go_wp2_with fail
  refine (HV.out _ HX.out).mono ?_;rintro e w1 ⟨rfl,hB1⟩
  have hX1:=HX.out.call hB1
  obtain ⟨v0,r0⟩:=hX1.r0
  obtain ⟨v1,r1⟩:=hX1.r1
  obtain ⟨v2,r2⟩:=hX1.r2
  obtain ⟨v3,r3⟩:=hX1.r3
  have f0:=hX1.fr 0
  have f1:=hX1.fr 1
  have f2:=hX1.fr 2
  have f3:=hX1.fr 3
  have hput:=hX1.put (.int .i64 0) (.int .i64 0) (.string ⟨#[]⟩) (.slice none 0 0)
  go_wp2_with fail
  exact bodyPost_ret (v:=.agg #[.int .i64 0,.int .i64 0,.string ⟨#[]⟩,.slice none 0 0]) (by simp [results,Tryz.results33,go_sem,r0,r1,r2,r3]) rfl ⟨none,0,rfl,hput,TmsK.nil⟩
 ·obtain ⟨hnd,hok⟩:=(validT_iff t).1 hv
  have HE:=zq (show canT t=ren (posI (varsT t [])) t by unfold canT;rw [hv];rfl)
  rw [hv] at HV
  rw [HE.out]
  have HAP:=zq (fun (W:World) (h:Below w.heap.size w W) (mb m0:Nat) (hm:w.heap.size≤mb) (hS:CnS W mb m0 [])=>t_applyC mb m0 w.heap.size hm t A cap W [] (hT.keep h) hok hS (by simp;omega))
  obtain ⟨u,hu⟩:∃u,u=ren (posI (varsT t [])) t:=⟨_,rfl⟩
  rw [←hu] at HAP ⊢
  clear hv hT hX0 hs hu hok hnd HE
  have hmk:∀(w:World),(Instr.makeMap 72 none).run Tryz.prog w=.ok (.map (some w.heap.size)) (w.alloc (.map #[] 0)):=fun w=>run_makeMap _ w
  have hmf:∀(fn:Fn) (first cap:Array Value) (w:World),(Instr.makeFunc fn first cap).run Tryz.prog w=.ok (.func fn first cap) w:=fun _ _ _ _=>rfl
  unfold tmV at *
  generalize t.kind=a0 at *
  generalize t.num=a1 at *
  generalize t.name=a2 at *
  generalize t.args.length=a3 at *
  go_enter Tryz.func33,Tryz.ntmps33
  go_wp2_with fail
  refine (HV.out _ HX.out).mono ?_;rintro e w1 ⟨rfl,hB1⟩
  have HX1:=zq (HX.out.call hB1)
  obtain ⟨b0,b1,b2,b3⟩:=HCEL.out _ (HB0.out.call hB1)
  have hl1:w.heap.size+1<w1.heap.size:=HX1.out.lt
  have hl0:w.heap.size<w1.heap.size:=by omega
  clear HX HB0 hB1 HV
  go_wp2_with fail
  have hB2:Below w1.heap.size w1 ((w1.alloc (.map #[] 0)).alloc (.cells #[.map (some w1.heap.size)] 72)):=((Below.refl _ _).alloc (Nat.le_refl _) _).alloc (by simp) _
  have hX2:=HX1.out.call hB2
  have hwb:=hX2.bel
  refine (HAP.out _ hwb w1.heap.size (w1.heap.size+1) HX1.out.bel.size (CnS.start w1)).mono ?_;rintro e w3 ⟨A3,c3,rfl,hB3,hN3,-⟩
  have hX3:=hX2.bx hB3 HX1.out.bel.size (by omega)
  have HN:=zq hN3
  have hle:w.heap.size≤((w1.alloc (.map #[] 0)).alloc (.cells #[.map (some w1.heap.size)] 72)).heap.size:=hwb.size
  obtain ⟨v0,r0⟩:=hX3.r0
  obtain ⟨v1,r1⟩:=hX3.r1
  obtain ⟨v2,r2⟩:=hX3.r2
  obtain ⟨v3,r3⟩:=hX3.r3
  have f0:=hX3.fr 0
  have f1:=hX3.fr 1
  have f2:=hX3.fr 2
  have f3:=hX3.fr 3
  have HP:=zq (hX3.put (.int .i64 u.kind) (.int .i64 u.num) (.string u.name) (.slice A3 u.args.length c3))
  have HNA:Hid (NewT w ((((w3.setCell ⟨w.heap.size+1,0,none⟩ (.int .i64 u.kind)).setCell ⟨w.heap.size+1,1,none⟩ (.int .i64 u.num)).setCell ⟨w.heap.size+1,2,none⟩ (.string u.name)).setCell ⟨w.heap.size+1,3,none⟩ (.slice A3 u.args.length c3)) A3 u.args) :=
   zq (TmsK.keep hN3 (fun b hb=>put4_block w3 (w.heap.size+1) _ _ _ _ b (by have:=hX2.lt;omega)) (fun b hb=>⟨by omega,by rw [put4_size];exact hb.2⟩))
  clear hB2 hX2 hB3 hN3 hX3 hwb HAP hle
  go_wp2_with fail
  exact bodyPost_ret (v:=.agg #[.int .i64 u.kind,.int .i64 u.num,.string u.name,.slice A3 u.args.length c3]) (by simp [results,Tryz.results33,go_sem,r0,r1,r2,r3]) rfl ⟨A3,c3,rfl,HP.out,HNA.out⟩
set_option maxHeartbeats 6400000 in
theorem t_identical:∀(t u:Tm) (A B:Option Addr) (c d:Nat) (w:World),TmsAt w.heap.size w A t.args→TmsAt w.heap.size w B u.args →
  Calls Tryz.prog 54 #[tmV t A c,tmV u B d] w fun e w'=>e=.returned (.bool (eqT t u))∧Below w.heap.size w w':=by
 refine Tm.ind fun t ih=>?_
 intro u A B c d w hT hU
 have HX:=zq (TT.start w t u A B c d 32)
 have HT:=zq hT
 have HU:=zq hU
 have HIH:=zq ih
 have HEX:=zq (tm_ext (t:=t) (u:=u))
 have hm:=hT.len
 unfold maxLen at hm
 have HN0:=zq (fun (h:¬t.kind=u.kind)=>eqT_no (t:=t) (u:=u) fun e=>h (by rw [e]))
 have HN1:=zq (fun (h:¬t.num=u.num)=>eqT_no (t:=t) (u:=u) fun e=>h (by rw [e]))
 have HN2:=zq (fun (h:¬t.name=u.name)=>eqT_no (t:=t) (u:=u) fun e=>h (by rw [e]))
 have HN3:=zq (fun (h:¬t.args.length=u.args.length)=>eqT_no (t:=t) (u:=u) fun e=>h (by rw [e]))
 have HN4:=zq (fun (j:Nat) (h1:j<t.args.length) (h2:j<u.args.length) (h:¬t.args[j]=u.args[j])=>eqT_no (t:=t) (u:=u) fun e=>h (by simp only [e]))
 have HY:=zq (eqT_yes (t:=t) (u:=u))
 have hb0:=HX.out.bel
 clear hT hU ih
 unfold tmV at *
 generalize hq:eqT t u=q at *
 clear hq
 obtain ⟨L,HL⟩:∃L,Hid (t.args.length=L):=⟨_,zq rfl⟩
 obtain ⟨M,HM⟩:∃M,Hid (u.args.length=M):=⟨_,zq rfl⟩
 rw [HL.out] at HX hm hb0 HN3 ⊢
 rw [HM.out] at HX hb0 HN3 ⊢
 generalize t.kind=a0 at *
 generalize t.num=a1 at *
 generalize t.name=a2 at *
 generalize u.kind=b0 at *
 generalize u.num=b1 at *
 generalize u.name=b2 at *
 by_cases e0:a0=b0
 ·subst e0
  by_cases e1:a1=b1
  ·subst e1
   by_cases e2:a2=b2
   ·subst e2
    by_cases e3:L=M
    ·subst e3
     have HEQ:=zq (HEX.out rfl rfl rfl)
     clear HEX HN0 HN1 HN2 HN3
     go_enter Tryz.func54,Tryz.ntmps54
     go_wp2_with fail
     go_loopw [38] (fun i wr=>∃k:Nat,k≤L∧i=.int .i64 k∧Hid (TT w wr t u A B c d)∧Hid (∀j (h1:j<t.args.length) (h2:j<u.args.length),j<k→t.args[j]=u.args[j])) (fun i _=>L-(intOf i).toNat)
     case atStart=>exact ⟨0,Nat.zero_le _,rfl,HX,zq fun j _ _ h=>absurd h (by omega)⟩
     case round=>
      obtain ⟨k,hk,rfl,HB,HE⟩:=hrel
      have b3:=HB.out.a3
      have b4:=HB.out.b3
      rw [HL.out] at b3
      rw [HM.out] at b4
      have hbel:=HB.out.bel
      by_cases hlt:k<L
      ·have hkl:k<t.args.length:=by have:=HL.out;omega
       have hkm:k<u.args.length:=by have:=HM.out;omega
       obtain ⟨b,off,A',ca,rfl,hb,c0,c1,c2,c3,hs⟩:=(HT.out.keep hbel).get k hkl
       obtain ⟨b',off',B',cb,rfl,hb',d0,d1,d2,d3,hs'⟩:=(HU.out.keep hbel).get k hkm
       have hbs:=hbel.size
       have HN5:=zq (HN4.out k hkl hkm)
       have HE2:Hid (t.args[k]=u.args[k]→∀j (h1:j<t.args.length) (h2:j<u.args.length),j<k+1→t.args[j]=u.args[j]):=zq (fun he j h1 h2 hj=>by
        by_cases hjk:j=k
        ·subst hjk;exact he
        ·exact HE.out j h1 h2 (by omega))
       have HC:=zq (fun W (h:TT w W t u (some ⟨b,off,none⟩) (some ⟨b',off',none⟩) c d) (hT:TmsAt W.heap.size W A' t.args[k].args) (hU:TmsAt W.heap.size W B' u.args[k].args)=>HIH.out t.args[k] (List.getElem_mem hkl) u.args[k] A' B' ca cb W hT hU)
       have hBW:Below wr.heap.size wr (wr.alloc (.cells #[.int .i64 t.args[k].kind,.int .i64 t.args[k].num,.string t.args[k].name,.slice A' t.args[k].args.length ca] 32)).drew:=((Below.refl _ wr).alloc (Nat.le_refl _) _).drew
       have hd1:=((hs.keep (hBW.mono hbs)).mono (Nat.le_trans hbs hBW.size))
       have hd2:=((hs'.keep (hBW.mono hbs)).mono (Nat.le_trans hbs hBW.size))
       have HC2:=zq (HC.out (wr.alloc (.cells #[.int .i64 t.args[k].kind,.int .i64 t.args[k].num,.string t.args[k].name,.slice A' t.args[k].args.length ca] 32)).drew (HB.out.call hBW) hd1 hd2)
       have HEE:=zq (eqT_iff (t:=t.args[k]) (u:=u.args[k]))
       have hlb:w.heap.size+1<wr.heap.size:=HB.out.lt
       have hla:w.heap.size<wr.heap.size:=by omega
       have hlc:b'<wr.heap.size:=by omega
       have hk0:(0:Int)≤(k:Int):=by omega
       have hk1:(k:Int)<(L:Int):=by omega
       have HD:=zq (HB.out.call hBW)
       clear hs hs' hd1 hd2 HC hBW
       unfold tmV at HC2
       obtain ⟨x,hx⟩:∃x,x=t.args[k]:=⟨_,rfl⟩
       obtain ⟨y,hy⟩:∃y,y=u.args[k]:=⟨_,rfl⟩
       rw [←hx] at HD HC2 HN5 HE2 HEE c0 c1 c2 c3
       rw [←hy] at HC2 HN5 HE2 HEE d0 d1 d2 d3
       clear hx hy
       go_wp2_with fail
       go_region_law (first
        | (go_simp;go_at_call 54;(with_reducible refine HC2.out.mono ?_);rintro e w2 ⟨rfl,hB2⟩)
        | fail)
       all_goals
        have hX2:=HD.out.call hB2
        have hb2:=hX2.bel
        cases hq2:eqT x y
        ·have hne:¬x=y:=fun e=>by rw [HEE.out.2 e] at hq2;cases hq2
         have hr:=HN5.out hne
         subst hr
         go_wp2_with fail
         go_ret
         exact ⟨rfl,hb2⟩
        ·have he:=HEE.out.1 hq2
         go_wp2_with fail
         go_roundw
         case rel=>exact ⟨k+1,by omega,by go_num,zq hX2,zq (HE2.out he)⟩
         case measure=>simp [intOf] <;> omega
      ·have hr:=HY.out (HEQ.out (args_ext (by rw [HL.out,HM.out]) fun j h1 h2=>HE.out j h1 h2 (by have:=HL.out;omega)))
       subst hr
       go_wp2_with fail
       go_ret
       exact ⟨rfl,hbel⟩
    ·have hr:=HN3.out e3
     subst hr
     have f1:((L:Int)==(M:Int))=false:=by simp;omega
     have f2:¬(L:Int)=(M:Int):=by omega
     go_enter Tryz.func54,Tryz.ntmps54
     go_wp2_with fail
     go_ret
     exact ⟨rfl,hb0⟩
   ·have hr:=HN2.out e2
    subst hr
    have f1:¬a2.toList=b2.toList:=fun h=>e2 (ba_ext h)
    have f2:(a2.toList==b2.toList)=false:=by simpa using f1
    go_enter Tryz.func54,Tryz.ntmps54
    go_wp2_with fail
    go_ret
    exact ⟨rfl,hb0⟩
  ·have hr:=HN1.out e1
   subst hr
   have f1:(a1==b1)=false:=by simpa using e1
   go_enter Tryz.func54,Tryz.ntmps54
   go_wp2_with fail
   go_ret
   exact ⟨rfl,hb0⟩
 ·have hr:=HN0.out e0
  subst hr
  have f1:(a0==b0)=false:=by simpa using e0
  go_enter Tryz.func54,Tryz.ntmps54
  go_wp2_with fail
  go_ret
  exact ⟨rfl,hb0⟩
end Go.Proofs.YtpokpgkjaifccaaGreatDoorRR
namespace Hb
open Go Go.RowKit
noncomputable def sameT (t u:Tm):Bool:=validT t&&validT u&&eqT t u
end Hb
namespace Go.Proofs.YtpokpgkjaifccaaGreatDoorRR
open Go.RowKit Hb
set_option maxRecDepth 100000
set_option maxHeartbeats 1600000 in
theorem t_same (t u:Tm) (A B:Option Addr) (c d:Nat) (w:World) (hT:TmsAt w.heap.size w A t.args) (hU:TmsAt w.heap.size w B u.args) :
  Calls Tryz.prog 32 #[tmV t A c,tmV u B d] w fun e w'=>e=.returned (.bool (sameT t u))∧Below w.heap.size w w':=by
 have HX:=zq (TT.start w t u A B c d 32)
 have HV1:=zq (fun W (h:TT w W t u A B c d)=>t_valid t A c W ((hT.keep h.bel).mono h.bel.size))
 have HV2:=zq (fun W (h:TT w W t u A B c d)=>t_valid u B d W ((hU.keep h.bel).mono h.bel.size))
 have HID:=zq (fun W (h:TT w W t u A B c d)=>t_identical t u A B c d W ((hT.keep h.bel).mono h.bel.size) ((hU.keep h.bel).mono h.bel.size))
 have HCE:=zq (fun W (h:TT w W t u A B c d)=>(⟨h.a0,h.a1,h.a2,h.a3,h.b0,h.b1,h.b2,h.b3⟩:_∧_∧_∧_∧_∧_∧_∧_))
 have HS:Hid (sameT t u=(validT t&&validT u&&eqT t u)):=zq rfl
 clear hT hU
 unfold tmV at *
 generalize sameT t u=r at *
 generalize validT t=v1 at *
 generalize validT u=v2 at *
 generalize eqT t u=v3 at *
 generalize t.kind=a0 at *
 generalize t.num=a1 at *
 generalize t.name=a2 at *
 generalize t.args.length=a3 at *
 generalize u.kind=b0 at *
 generalize u.num=b1 at *
 generalize u.name=b2 at *
 generalize u.args.length=b3 at *
 go_enter Tryz.func32,Tryz.ntmps32
 go_wp2_with fail
 refine (HV1.out _ HX.out).mono ?_;rintro e w1 ⟨rfl,hB1⟩
 have HX1:=zq (HX.out.call hB1)
 obtain ⟨p0,p1,p2,p3,q0,q1,q2,q3⟩:=HCE.out _ HX1.out
 clear HX hB1 HV1
 cases v1
 ·have hb:=HX1.out.bel
  go_wp2_with fail
  go_ret
  exact ⟨ret_bool (by rw [HS.out];rfl),hb⟩
 ·go_wp2_with fail
  refine (HV2.out _ HX1.out).mono ?_;rintro e w2 ⟨rfl,hB2⟩
  have HX2:=zq (HX1.out.call hB2)
  clear p0 p1 p2 p3 q0 q1 q2 q3
  obtain ⟨p0,p1,p2,p3,q0,q1,q2,q3⟩:=HCE.out _ HX2.out
  clear HX1 hB2 HV2
  cases v2
  ·have hb:=HX2.out.bel
   go_wp2_with fail
   go_ret
   exact ⟨ret_bool (by rw [HS.out];rfl),hb⟩
  ·go_wp2_with fail
   refine (HID.out _ HX2.out).mono ?_;rintro e w3 ⟨rfl,hB3⟩
   have hb:=(HX2.out.call hB3).bel
   go_wp2_with fail
   go_ret
   exact ⟨ret_bool (by rw [HS.out];simp),hb⟩
set_option maxHeartbeats 1600000 in
theorem r3_same (t u:Tm) (A B:Option Addr) (c d:Nat) (w:World) (hT:TmsAt w.heap.size w A t.args) (hU:TmsAt w.heap.size w B u.args) :
  Calls Tryz.prog 37 #[tmV t A c,tmV u B d] w fun e w'=>e=.returned (.bool (sameT t u))∧Below w.heap.size w w':=by
 have HX:=zq (TT.start w t u A B c d 32)
 have HV1:=zq (fun W (h:TT w W t u A B c d)=>ref_tvalid t A c W ((hT.keep h.bel).mono h.bel.size))
 have HV2:=zq (fun W (h:TT w W t u A B c d)=>ref_tvalid u B d W ((hU.keep h.bel).mono h.bel.size))
 have HID:=zq (fun W (h:TT w W t u A B c d)=>r3_identical t u A B c d W ((hT.keep h.bel).mono h.bel.size) ((hU.keep h.bel).mono h.bel.size))
 have HCE:=zq (fun W (h:TT w W t u A B c d)=>(⟨h.a0,h.a1,h.a2,h.a3,h.b0,h.b1,h.b2,h.b3⟩:_∧_∧_∧_∧_∧_∧_∧_))
 have HS:Hid (sameT t u=(validT t&&validT u&&eqT t u)):=zq rfl
 clear hT hU
 unfold tmV at *
 generalize sameT t u=r at *
 generalize validT t=v1 at *
 generalize validT u=v2 at *
 generalize eqT t u=v3 at *
 generalize t.kind=a0 at *
 generalize t.num=a1 at *
 generalize t.name=a2 at *
 generalize t.args.length=a3 at *
 generalize u.kind=b0 at *
 generalize u.num=b1 at *
 generalize u.name=b2 at *
 generalize u.args.length=b3 at *
 go_enter Tryz.func37,Tryz.ntmps37
 go_wp2_with fail
 refine (HV1.out _ HX.out).mono ?_;rintro e w1 ⟨rfl,hB1⟩
 have HX1:=zq (HX.out.call hB1)
 obtain ⟨p0,p1,p2,p3,q0,q1,q2,q3⟩:=HCE.out _ HX1.out
 clear HX hB1 HV1
 cases v1
 ·have hb:=HX1.out.bel
  go_wp2_with fail
  go_ret
  exact ⟨ret_bool (by rw [HS.out];rfl),hb⟩
 ·go_wp2_with fail
  refine (HV2.out _ HX1.out).mono ?_;rintro e w2 ⟨rfl,hB2⟩
  have HX2:=zq (HX1.out.call hB2)
  clear p0 p1 p2 p3 q0 q1 q2 q3
  obtain ⟨p0,p1,p2,p3,q0,q1,q2,q3⟩:=HCE.out _ HX2.out
  clear HX1 hB2 HV2
  cases v2
  ·have hb:=HX2.out.bel
   go_wp2_with fail
   go_ret
   exact ⟨ret_bool (by rw [HS.out];rfl),hb⟩
  ·go_wp2_with fail
   refine (HID.out _ HX2.out).mono ?_;rintro e w3 ⟨rfl,hB3⟩
   have hb:=(HX2.out.call hB3).bel
   go_wp2_with fail
   go_ret
   exact ⟨ret_bool (by rw [HS.out];simp),hb⟩
end Go.Proofs.YtpokpgkjaifccaaGreatDoorRR
namespace Hb
open Go Go.RowKit
def cntF:Nat→(Nat→Bool)→Nat
 | 0,_=>0
 | n+1,S=>cntF n S+(if S n=true then 0 else 1)
def updF (S:Nat→Bool) (j:Nat):Nat→Bool:=fun i=>if i=j then true else S i
theorem updF_same (S:Nat→Bool) (j:Nat):updF S j j=true:=if_pos rfl
theorem updF_other (S:Nat→Bool) {j i:Nat} (h:i≠j):updF S j i=S i:=if_neg h
theorem cntF_ext:∀(n:Nat) (S T:Nat→Bool),(∀i,i<n→S i=T i)→cntF n S=cntF n T
 | 0,_,_,_=>rfl
 | n+1,S,T,h=>by
  unfold cntF
  rw [cntF_ext n S T (fun i hi=>h i (by omega)),h n (by omega)]
theorem cntF_upd:∀(n:Nat) (S:Nat→Bool) (j:Nat),j<n→S j=false→cntF n (updF S j)+1=cntF n S
 | 0,_,_,h,_=>absurd h (by omega)
 | n+1,S,j,hj,h=>by
  unfold cntF
  by_cases e:n=j
  ·subst e
   rw [cntF_ext n (updF S n) S (fun i hi=>updF_other S (by omega)),updF_same,h]
   simp
  ·rw [updF_other S e]
   have:=cntF_upd n S j (by omega) h
   omega
theorem cntF_zero:∀(n:Nat) (S:Nat→Bool),cntF n S=0→∀j,j<n→S j=true
 | 0,_,_,_,h=>absurd h (by omega)
 | n+1,S,h,j,hj=>by
  unfold cntF at h
  by_cases e:j=n
  ·subst e
   by_cases c:S j=true
   ·exact c
   ·rw [if_neg c] at h;omega
  ·exact cntF_zero n S (by omega) j (by omega)
theorem grown_trans {w0 w w':World} {b:Nat} (h:w0.grownBy w (some b)) (k:w.grownBy w' (some b)):w0.grownBy w' (some b) :=
 ⟨k.os.trans h.os,k.tape.trans h.tape,k.output.trans h.output,Nat.le_trans h.size k.size,fun i hi hne=>(k.block i (Nat.lt_of_lt_of_le hi h.size) hne).trans (h.block i hi hne)⟩
def anyVar (l:List Tm):Bool:=l.any fun t=>t.kind==0
variable {F:Fence} {n:Nat} {P:Program}
def SeqX {α : Type} (F : Fence) (n : Nat) (P : Program) (g : Nat) (lb : Array Value) (encs : α → Array Value) (X : α → World → Prop) (Kp : World → World → Prop) (S Sp : List α → Prop) (w : World) : Prop :=
 ∀ (l : Nat) (J Jx : List α → World → Prop) (W : World), Below w.heap.size w W → AbidesFrom W.heap.size J → AbidesFrom W.heap.size Jx →
  (∀ pre x W1, J pre W1 → X x W1 → Sp (pre ++ [x]) → YieldAt F (n - 1) P l (encs x) W1 fun e W' =>
   (e = .returned (.bool true) ∧ J (pre ++ [x]) W' ∧ Kp W1 W') ∨ (e = .returned (.bool false) ∧ Jx (pre ++ [x]) W')) →
  J [] W →
  CallsIn F n P g (#[.func (.yield l) #[] #[]] ++ lb) W fun e W' => (∃ v, e = .returned v) ∧ ((∃ xs, S xs ∧ J xs W') ∨ (∃ pre, Sp pre ∧ Jx pre W'))
theorem bx_put (W:World) (l:Nat) (o:Obj):Bx l W.heap.size W (W.putObj l o):=⟨rfl,rfl,rfl,by simp,fun _ _ hne=>World.putObj_heap_other hne⟩
theorem keeps_below {W W':World} (h:Below W.heap.size W W'):KeepsOthers W W':=⟨h.size,fun k _ hk _=>(h.block k (Array.getElem?_eq_some_iff.1 hk).1).trans hk⟩
structure RecAt (l D:Nat) (r:Loop) (W:World):Prop where
 rec_:W.heap[l]? = some (.loop r)
 dfr:W.heap[D]? = some (.deferred (some []))
theorem RecAt.keep {l D:Nat} {r:Loop} {W W':World} (h:RecAt l D r W) (k:KeepsOthers W W'):RecAt l D r W':=⟨k.same _ _ h.rec_ rfl,k.same _ _ h.dfr rfl⟩
theorem RecAt.put {l D:Nat} {r:Loop} {W:World} (h:RecAt l D r W) (hne:D≠l) (r':Loop):RecAt l D r' (W.putObj l (.loop r')) :=
 ⟨World.putObj_heap_same (Array.getElem?_eq_some_iff.1 h.rec_).1,(World.putObj_heap_other hne).trans h.dfr⟩
theorem RecAt.walk {l D B:Nat} {r:Loop}:AbidesFrom B (fun (_:Unit) W=>RecAt l D r W):=fun _ _ _ _ hs hg hr=>
 ⟨(grownBy_keeps hg (fun q e=>(hr q e).2) hs.rec_ rfl).trans hs.rec_,(grownBy_keeps hg (fun q e=>(hr q e).2) hs.dfr rfl).trans hs.dfr⟩
theorem wpIn_rangeX {α : Type} {g : Operand} {ps : Array Tmp} {assign body : Code} {Q : Exit → Act → World → Prop} {a : Act} {w : World}
  (hro : F.round = none) (h1 : 1 ≤ n) {gf : Nat} {lb : Array Value} (hg : a.eval g = .func (.func gf) #[] lb) (hFg : F.fn gf) (eg : ∀ args w, (callFunc gf args).run P w = .ok (.enter gf args) w)
  {encs : α → Array Value} {X : α → World → Prop} {Kp : World → World → Prop} {S Sp : List α → Prop} (hseq : SeqX F (n - 1) P gf lb encs X Kp S Sp w)
  (hKt : ∀ {A B C : World}, Kp A B → Kp B C → Kp A C) (hKb : ∀ (W : World) (l : Nat) (o o' : Obj), w.heap.size ≤ l → W.heap[l]? = some o → o.isCells = false → Kp W (W.putObj l o')) (hps : ∀ x, (encs x).size = ps.size)
  (I : List α → World → Prop) (Ix : Code → List α → World → Prop) (hI : OwnFrom w.heap.size I) (hIx : ∀ c, OwnFrom w.heap.size (Ix c)) (h0 : I [] w)
  (hround : ∀ (l : Nat) (pre : List α) (x : α) (W : World), w.heap.size ≤ l → l < W.heap.size → (∃ o : Obj, W.heap[l]? = some o ∧ o.isCells = false) → I pre W → X x W → Sp (pre ++ [x]) →
   assign.wpIn (F.inRound l) (n - 1 - 1) P (Exit.then (fun a' W' => KeepsOthers W W' ∧ Kp W W' ∧ ∀ W2, Bx l W'.heap.size W' W2 → body.wpIn (F.inRound l) (n - 1 - 1) P (ownPostK Kp I Ix (pre ++ [x]) W2) a' W2) (fun _ _ _ => False)) { tmps := (ps.zip (encs x)).foldl (fun t (p, v) => t.setIfInBounds p v) a.tmps, defers := [] } W)
  (hdone : ∀ (D : Nat) (xs : List α) (W : World), w.heap.size ≤ D → S xs → I xs W → W.heap[D]? = some (.deferred (some [])) → Q .normal { a with defers := { target := .collected D, args := #[] } :: a.defers } W)
  (hstop : ∀ (D : Nat) (c : Code) (pre : List α) (W : World), w.heap.size ≤ D → Sp pre → Ix c pre W → W.heap[D]? = some (.deferred (some [])) → c.wpIn F n P Q { a with defers := { target := .collected D, args := #[] } :: a.defers } W) :
  (Code.rangeFunc g ps assign body).wpIn F n P Q a w := by
 refine wpIn_rangeFunc fun fn hfn => ?_
 rw [hro]
 obtain ⟨rc, hrc⟩ : ∃ rc : LoopState → Option Code → Loop, rc = fun st pe => { state := st, pending := pe, fn, tmps := a.tmps, params := ps, assign, body, defers := w.heap.size } := ⟨_, rfl⟩
 have hB1 : Below w.heap.size w ((w.alloc (.deferred (some []))).alloc (.loop (rc .ready none))) := ((Below.refl _ _).alloc (Nat.le_refl _) _).alloc (by simp) _
 have hR1 : RecAt (w.heap.size + 1) w.heap.size (rc .ready none) ((w.alloc (.deferred (some []))).alloc (.loop (rc .ready none))) :=
  ⟨by have := World.alloc_heap_new (w.alloc (.deferred (some []))) (.loop (rc .ready none)); rwa [World.size_alloc] at this, (Below.heap_alloc _ _ _ (by simp)).trans (World.alloc_heap_new w _)⟩
 have hI1 : I [] ((w.alloc (.deferred (some []))).alloc (.loop (rc .ready none))) := hI.alloc _ (hI.alloc _ h0)
 have hW1 : ((w.alloc (.deferred (some []))).alloc (.loop (rc .ready none))).heap.size = w.heap.size + 2 := by simp
 obtain ⟨W1, hE⟩ : ∃ W1, W1 = (w.alloc (.deferred (some []))).alloc (.loop (rc .ready none)) := ⟨_, rfl⟩
 rw [← hE] at hB1 hR1 hI1 hW1
 refine ⟨w.heap.size + 1, [{ target := .collected w.heap.size, args := #[] }], W1, { target := .fn (.func gf) lb, args := #[.func (.yield (w.heap.size + 1)) #[] #[]] }, W1, gf, #[.func (.yield (w.heap.size + 1)) #[] #[]] ++ lb, W1, ?_, ?_, ?_, ?_, fun _ => h1, ?_⟩
 ·rw [hE, hrc]; exact run_enterLoop_outer _ _ _ _ _
 ·simp only [resolve, hg]
  simp [go_sem]
 ·intro f' hf'; simp [Target.leads] at hf'; subst hf'; exact hFg
 ·simp [invoke, go_sem, eg]
 clear hE
 have hne : w.heap.size ≠ w.heap.size + 1 := by omega
 have far : ∀ {A B : World} {row : Option Nat}, (∀ r, row = some r → W1.heap.size ≤ r ∧ ∃ o : Obj, A.heap[r]? = some o ∧ o.isWalk = true) → (∀ r, row = some r → w.heap.size ≤ r ∧ ∃ o : Obj, A.heap[r]? = some o ∧ o.isCells = false) :=
  fun hr r e => by obtain ⟨hB, o, ho, hw⟩ := hr r e; exact ⟨by omega, o, ho, Obj.not_cells_of_walk hw⟩
 refine (hseq (w.heap.size + 1) (fun pre W => I pre W ∧ RecAt (w.heap.size + 1) w.heap.size (rc .ready none) W) (fun pre W => ∃ c, Ix c pre W ∧ RecAt (w.heap.size + 1) w.heap.size (rc .done (some c)) W) W1 hB1
  (fun s A B row hs hg' hr => ⟨hI s A B row hs.1 hg' (far (B := B) hr), RecAt.walk () A B row hs.2 hg' hr⟩) (fun s A B row ⟨c, hc, hk⟩ hg' hr => ⟨c, hIx c s A B row hc hg' (far (B := B) hr), RecAt.walk () A B row hk hg' hr⟩) ?_ ⟨hI1, hR1⟩).mono ?_
 ·rintro pre x W ⟨hi, hR⟩ hx hlen
  have hlt : w.heap.size + 1 < W.heap.size := (Array.getElem?_eq_some_iff.1 hR.rec_).1
  have hy := run_yield (P := P) (args := encs x) hR.rec_ (by rw [hrc]; exact hps x)
  rw [hrc] at hy
  refine ⟨fn, _, assign, body, hy, roundIn_of_wpIn hfn (wpIn_mono (hround _ pre x W (by omega) hlt ⟨_, hR.rec_, rfl⟩ hi hx hlen) fun e a' W' hp => ?_)⟩
  cases e with
  | normal =>
   obtain ⟨hk, hkp, hb⟩ := hp
   have hR' := hR.keep hk
   refine ⟨_, run_beginRound hR'.rec_ (by rw [hrc]), wpIn_mono (hb _ (bx_put _ _ _)) ?_⟩
   have hR2 := hR'.put hne { rc .ready none with state := .busy }
   have hkp2 := hKt hkp (hKb W' (w.heap.size + 1) _ (.loop { rc .ready none with state := .busy }) (by omega) hR'.rec_ rfl)
   have fin : ∀ (jump : Option Code) (W3 : World), KeepsOthers (W'.putObj (w.heap.size + 1) (.loop { rc .ready none with state := .busy })) W3 →
     (Instr.endRound (w.heap.size + 1) jump).run P W3 = .ok (.bool jump.isNone) (W3.putObj (w.heap.size + 1) (.loop (rc (if jump.isNone then .ready else .done) jump))) ∧
     W3.heap[w.heap.size + 1]? = some (.loop { rc .ready none with state := .busy }) ∧ RecAt (w.heap.size + 1) w.heap.size (rc (if jump.isNone then .ready else .done) jump) (W3.putObj (w.heap.size + 1) (.loop (rc (if jump.isNone then .ready else .done) jump))) := fun jump W3 hk3 => by
    have hR3 := hR2.keep hk3
    have := run_endRound (P := P) jump hR3.rec_
    rw [hrc] at this ⊢
    exact ⟨this, by have := hR3.rec_; rw [hrc] at this; exact this, hR3.put hne _⟩
   rintro e3 a3 W3 hp3
   have out : ∀ c : Code, KeepsOthers (W'.putObj (w.heap.size + 1) (.loop { rc .ready none with state := .busy })) W3 ∧ Ix c (pre ++ [x]) W3 → ∃ v W4, (Instr.endRound (w.heap.size + 1) (some c)).run P W3 = .ok v W4 ∧
     ((Ending.returned v = .returned (.bool true) ∧ (I (pre ++ [x]) W4 ∧ RecAt (w.heap.size + 1) w.heap.size (rc .ready none) W4) ∧ Kp W W4) ∨ (Ending.returned v = .returned (.bool false) ∧ ∃ c, Ix c (pre ++ [x]) W4 ∧ RecAt (w.heap.size + 1) w.heap.size (rc .done (some c)) W4)) := fun c ⟨hk3, hi3⟩ => by
    obtain ⟨hr, hl3, hR4⟩ := fin (some c) W3 hk3
    exact ⟨_, _, hr, .inr ⟨rfl, c, (hIx c).putObj _ hi3 (by omega) hl3 rfl, hR4⟩⟩
   cases e3 with
   | normal =>
    obtain ⟨hk3, hkp3, hi3⟩ := hp3
    obtain ⟨hr, hl3, hR4⟩ := fin none W3 hk3
    exact ⟨_, _, hr, .inl ⟨rfl, ⟨hI.putObj _ hi3 (by omega) hl3 rfl, hR4⟩, hKt (hKt hkp2 hkp3) (hKb _ _ _ _ (by omega) hl3 rfl)⟩⟩
   | ret => exact out .ret hp3
   | exit id => exact out (.exit id) hp3
   | goto t => exact out (.goto t) hp3
   | panic ch => exact hp3.elim
   | outgrown => exact hp3.elim
  | ret => exact hp.elim
  | exit id => exact hp.elim
  | goto t => exact hp.elim
  | panic ch => exact hp.elim
  | outgrown => exact hp.elim
 ·rintro e W2 ⟨⟨v, rfl⟩, (⟨xs, hS, hi, hR⟩ | ⟨pre, hSp, c, hi, hR⟩)⟩
  ·have := run_endLoop (P := P) hR.rec_ (by rw [hrc]; simp)
   rw [hrc] at this
   exact ⟨none, _, this, hdone _ xs _ (Nat.le_refl _) hS (hI.putObj _ hi (by omega) hR.rec_ rfl) ((World.putObj_heap_other hne).trans hR.dfr)⟩
  ·have := run_endLoop (P := P) hR.rec_ (by rw [hrc]; simp)
   rw [hrc] at this
   exact ⟨some c, _, this, hstop _ c pre _ (Nat.le_refl _) hSp ((hIx c).putObj _ hi (by omega) hR.rec_ rfl) ((World.putObj_heap_other hne).trans hR.dfr)⟩
end Hb
namespace Hb
open Go Go.RowKit
def Bk (X:World) (g:Nat) (vs:List Value):Prop:=∃e,X.heap[g]? = some (.cells vs.toArray e)
theorem Bk.lt {X:World} {g:Nat} {vs:List Value} (h:Bk X g vs):g<X.heap.size:=by
 obtain ⟨e,h⟩:=h
 exact (Array.getElem?_eq_some_iff.1 h).1
theorem Bk.c {X:World} {g:Nat} {vs:List Value} (h:Bk X g vs) (j:Nat) (v:Value) (hv:vs[j]? = some v):X.cell? ⟨g,j,none⟩=some v:=by
 obtain ⟨e,h⟩:=h
 simp [World.cell?,h,hv]
theorem Bk.f {X:World} {g:Nat} {vs:List Value} (h:Bk X g vs) (o:Nat):X.frozen? ⟨g,o,none⟩=false:=by
 obtain ⟨e,h⟩:=h
 unfold World.frozen?
 rw [h]
 simp
theorem Bk.call {X X':World} {g:Nat} {vs:List Value} (h:Bk X g vs) (hB:Below X.heap.size X X'):Bk X' g vs:=by
 have hl:=h.lt
 obtain ⟨e,h⟩:=h
 exact ⟨e,(hB.block g hl).trans h⟩
theorem Bk.al {X:World} {g:Nat} {vs:List Value} (h:Bk X g vs) (o:Obj):Bk (X.alloc o) g vs:=h.call ((Below.refl _ _).alloc (Nat.le_refl _) o)
theorem Bk.dr {X:World} {g:Nat} {vs:List Value} (h:Bk X g vs):Bk X.drew g vs:=h.call (Below.refl _ _).drew
theorem Bk.new (X:World) (vs:List Value) (e:TypeId):Bk (X.alloc (.cells vs.toArray e)) X.heap.size vs:=⟨e,World.alloc_heap_new X _⟩
theorem Bk.other {X:World} {g:Nat} {vs:List Value} (h:Bk X g vs) {g':Nat} (hne:g≠g') (j:Nat) (v:Value):Bk (X.setCell ⟨g',j,none⟩ v) g vs:=by
 obtain ⟨e,h⟩:=h
 exact ⟨e,(heap_setCell_other X ⟨g',j,none⟩ g v hne).trans h⟩
theorem Bk.set {X:World} {g:Nat} {vs:List Value} (h:Bk X g vs) (j:Nat) (v:Value):Bk (X.setCell ⟨g,j,none⟩ v) g (vs.set j v):=by
 obtain ⟨e,h⟩:=h
 refine ⟨e,?_⟩
 have hl:=(Array.getElem?_eq_some_iff.1 h).1
 simp only [World.setCell,Array.getElem?_modify,h]
 simp
theorem Bk.keeps {X X':World} {g:Nat} {vs:List Value} (h:Bk X g vs) (hk:X'.heap[g]? = X.heap[g]?):Bk X' g vs:=by
 obtain ⟨e,h⟩:=h
 exact ⟨e,hk.trans h⟩
theorem Bk.grown {X Y:World} {g:Nat} {vs:List Value} {row:Option Nat} (h:Bk X g vs) (hg:X.grownBy Y row) (hr:∀r,row=some r→∃o:Obj,X.heap[r]? = some o∧o.isCells=false):Bk Y g vs:=by
 obtain ⟨e,he⟩:=h
 refine ⟨e,(hg.block g (Array.getElem?_eq_some_iff.1 he).1 (fun e'=>?_)).trans he⟩
 obtain ⟨o,ho,hc⟩:=hr g e'.symm
 rw [he] at ho;injection ho with ho;subst ho;cases hc
structure Bks (X:World) (l:List (Nat×List Value)):Prop where
 bk:∀x∈l,Bk X x.1 x.2
 ord:(l.map (·.1)).Pairwise (· > ·)
theorem Bks.nil (X:World):Bks X []:=⟨fun x hx=>(by cases hx),List.Pairwise.nil⟩
theorem Bks.at {X:World} {l:List (Nat×List Value)} (h:Bks X l) (j g:Nat) (vs:List Value) (hx:l[j]? = some (g,vs)):Bk X g vs:=h.bk (g,vs) (List.mem_of_getElem? hx)
theorem Bks.cell {X:World} {l:List (Nat×List Value)} (h:Bks X l) (j i:Nat) {g:Nat} {vs:List Value} {v:Value} (hx:l[j]? = some (g,vs)) (hv:vs[i]? = some v):X.cell? ⟨g,i,none⟩=some v:=(h.at j g vs hx).c i v hv
theorem Bks.fz {X:World} {l:List (Nat×List Value)} (h:Bks X l) (j i:Nat) {g:Nat} {vs:List Value} (hx:l[j]? = some (g,vs)):X.frozen? ⟨g,i,none⟩=false:=(h.at j g vs hx).f i
theorem Bks.lt {X:World} {l:List (Nat×List Value)} (h:Bks X l) (j:Nat) {g:Nat} {vs:List Value} (hx:l[j]? = some (g,vs)):g<X.heap.size:=(h.at j g vs hx).lt
theorem Bks.keep {X X':World} {l:List (Nat×List Value)} (h:Bks X l) (hk:∀x∈l,X'.heap[x.1]? = X.heap[x.1]?):Bks X' l:=⟨fun x hx=>(h.bk x hx).keeps (hk x hx),h.ord⟩
theorem Bks.call {X X':World} {l:List (Nat×List Value)} (h:Bks X l) (hB:Below X.heap.size X X'):Bks X' l:=⟨fun x hx=>(h.bk x hx).call hB,h.ord⟩
theorem Bks.al {X:World} {l:List (Nat×List Value)} (h:Bks X l) (o:Obj):Bks (X.alloc o) l:=h.call ((Below.refl _ _).alloc (Nat.le_refl _) o)
theorem Bks.new {X:World} {l:List (Nat×List Value)} (h:Bks X l) (vs:List Value) (e:TypeId) {g:Nat} (hg:X.heap.size=g):Bks (X.alloc (.cells vs.toArray e)) ((g,vs)::l):=by
 subst hg
 refine ⟨fun x hx=>?_,?_⟩
 ·rcases List.mem_cons.1 hx with rfl | hx
  ·exact Bk.new X vs e
  ·exact (h.bk x hx).al _
 ·rw [List.map_cons,List.pairwise_cons]
  refine ⟨fun g hg=>?_,h.ord⟩
  obtain ⟨x,hx,rfl⟩:=List.mem_map.1 hg
  exact (h.bk x hx).lt
theorem Bks.set {X:World} {l:List (Nat×List Value)} (h:Bks X l) (j i:Nat) {g:Nat} {vs:List Value} (hx:l[j]? = some (g,vs)) (v:Value):Bks (X.setCell ⟨g,i,none⟩ v) (l.set j (g,vs.set i v)):=by
 have hm:(l.set j (g,vs.set i v)).map (·.1)=l.map (·.1):=by
  rw [List.map_set]
  refine List.ext_getElem? fun k=>?_
  rw [List.getElem?_set]
  split
  ·rename_i e
   subst e
   split
   ·rw [List.getElem?_map,hx];rfl
   ·rename_i hn
    rw [List.getElem?_eq_none (by simpa using hn)]
  ·rfl
 refine ⟨fun x hx2=>?_,by rw [hm];exact h.ord⟩
 obtain ⟨k,hk⟩:=List.mem_iff_getElem?.1 hx2
 rw [List.getElem?_set] at hk
 split at hk
 ·split at hk
  ·injection hk with hk;subst hk
   exact (h.at j g vs hx).set i v
  ·cases hk
 ·rename_i hne
  have hkx:=h.bk x (List.mem_of_getElem? hk)
  refine hkx.other (fun e=>?_) i v
  have h1:(l.map (·.1))[k]? = some x.1:=by rw [List.getElem?_map,hk];rfl
  have h2:(l.map (·.1))[j]? = some g:=by rw [List.getElem?_map,hx];rfl
  obtain ⟨k1,e1⟩:=List.getElem?_eq_some_iff.1 h1
  obtain ⟨k2,e2⟩:=List.getElem?_eq_some_iff.1 h2
  have hp:=List.pairwise_iff_getElem.1 h.ord
  rcases Nat.lt_or_gt_of_ne (fun e=>hne e:j≠k) with hlt | hlt
  ·have:=hp j k k2 k1 hlt
   rw [e1,e2] at this;omega
  ·have:=hp k j k1 k2 hlt
   rw [e1,e2] at this;omega
theorem Bks.set4 {X:World} {l:List (Nat×List Value)} (h:Bks X l) (j:Nat) {g:Nat} {u0 u1 u2 u3:Value} (hx:l[j]? = some (g,[u0,u1,u2,u3])) (v0 v1 v2 v3:Value) :
  Bks ((((X.setCell ⟨g,0,none⟩ v0).setCell ⟨g,1,none⟩ v1).setCell ⟨g,2,none⟩ v2).setCell ⟨g,3,none⟩ v3) (l.set j (g,[v0,v1,v2,v3])):=by
 have hj:j<l.length:=(List.getElem?_eq_some_iff.1 hx).1
 have h1:=h.set j 0 hx v0
 have h2:=h1.set j 1 (g:=g) (vs:=[v0,u1,u2,u3]) (by rw [List.getElem?_set];simp [hj]) v1
 have h3:=h2.set j 2 (g:=g) (vs:=[v0,v1,u2,u3]) (by rw [List.getElem?_set];simp [hj]) v2
 have h4:=h3.set j 3 (g:=g) (vs:=[v0,v1,v2,u3]) (by rw [List.getElem?_set];simp [hj]) v3
 simpa using h4
theorem Bks.tl {X:World} {x:Nat×List Value} {l:List (Nat×List Value)} (h:Bks X (x::l)):Bks X l:=⟨fun y hy=>h.bk y (List.mem_cons_of_mem _ hy),by have:=h.ord;rw [List.map_cons,List.pairwise_cons] at this;exact this.2⟩
theorem Bx.under {l B:Nat} {X X':World} (h:Bx l X.heap.size X X') (hB:B≤l) (hs:B≤X.heap.size):Below B X X':=⟨h.os,h.tape,h.output,h.size,fun k hk=>h.block k (by omega) (by omega)⟩
theorem below_putO {B:Nat} {a X:World} (h:Below B a X) {D:Nat} (hD:B≤D) (o:Obj):Below B a (X.putObj D o):=⟨h.os,h.tape,h.output,by simpa using h.size,fun k hk=>(World.putObj_heap_other (by omega)).trans (h.block k hk)⟩
theorem TmsK.rows {K:Nat→Prop} {w:World} {rs:List TR} {e:TypeId} (hK:K w.heap.size) (hlen:rs.length≤maxLen) (h:∀x∈rs,TmsK K (w.alloc (.cells (rowsC rs).toArray e)) x.2.1 x.1.args) :
  TmsK K (w.alloc (.cells (rowsC rs).toArray e)) (some ⟨w.heap.size,0,none⟩) (rs.map (·.1)):=by
 have hget:∀(rs:List TR) (j:Nat) (hj:j<rs.length) (i:Nat),i<4→(rowsC rs)[j * 4+i]? = (rowC rs[j])[i]?:=by
  intro rs
  induction rs with
  | nil=>intro j hj;cases hj
  | cons x rs ih=>
   intro j hj i hi
   have hx:rowsC (x::rs)=rowC x++rowsC rs:=rfl
   have hl:(rowC x).length=4:=rfl
   rw [hx]
   cases j with
   | zero=>rw [List.getElem?_append_left (by omega)];simp
   | succ j=>
    rw [List.getElem?_append_right (by omega),hl,show (j+1) * 4+i-4=j * 4+i by omega,ih j (by simpa using hj) i hi]
    rfl
 refine .mk _ _ (fun j=>(rs[j]?.map (·.2.1)).getD none) (fun j=>(rs[j]?.map (·.2.2)).getD 0) (by simpa using hlen) (fun j hj=>?_) (fun j hj=>?_)
 ·have hj':j<rs.length:=by simpa using hj
  have hc:∀i u,i<4→(rowC rs[j])[i]? = some u→(w.alloc (.cells (rowsC rs).toArray e)).cell? ⟨w.heap.size,0+j * 4+i,none⟩=some u:=fun i u hi hu=>by
   rw [World.cell?_alloc_new,Nat.zero_add]
   simp [hget rs j hj' i hi,hu]
  refine ⟨w.heap.size,0,rfl,hK,?_,?_,?_,?_⟩
  ·have:=hc 0 _ (by omega) rfl
   simpa using this
  ·have:=hc 1 _ (by omega) rfl
   simpa using this
  ·have:=hc 2 _ (by omega) rfl
   simpa using this
  ·have:=hc 3 _ (by omega) rfl
   simpa [List.getElem?_eq_getElem hj'] using this
 ·have hj':j<rs.length:=by simpa using hj
  have:=h rs[j] (List.getElem_mem hj')
  simpa [List.getElem?_eq_getElem hj'] using this
end Hb
