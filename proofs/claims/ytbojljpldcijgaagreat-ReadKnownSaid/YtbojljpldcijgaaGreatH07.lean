/- Parts of the proof. -/
import Derived.Test.YtbojljpldcijgaaGreatH01
import Derived.Test.YtbojljpldcijgaaGreatH06
import Derived.Maps.OwnSet
namespace Hb
open Go Go.RowKit
structure R4 (w0 w:World) (g:Nat):Prop where
 bel:Below w0.heap.size w0 w
 le:w0.heap.size≤g
 lt:g<w.heap.size
 r0:∃v,w.cell? ⟨g,0,none⟩=some v
 r1:∃v,w.cell? ⟨g,1,none⟩=some v
 r2:∃v,w.cell? ⟨g,2,none⟩=some v
 r3:∃v,w.cell? ⟨g,3,none⟩=some v
 fr:∀o,w.frozen? ⟨g,o,none⟩=false
theorem R4.call {w0 w w':World} {g:Nat} (h:R4 w0 w g) (hB:Below w.heap.size w w'):R4 w0 w' g where
 bel:=h.bel.trans (hB.mono h.bel.size)
 le:=h.le
 lt:=Nat.lt_of_lt_of_le h.lt hB.size
 r0:=h.r0.imp fun _ hh=>(hB.cell (p:=⟨_,_,none⟩) h.lt).trans hh
 r1:=h.r1.imp fun _ hh=>(hB.cell (p:=⟨_,_,none⟩) h.lt).trans hh
 r2:=h.r2.imp fun _ hh=>(hB.cell (p:=⟨_,_,none⟩) h.lt).trans hh
 r3:=h.r3.imp fun _ hh=>(hB.cell (p:=⟨_,_,none⟩) h.lt).trans hh
 fr:=fun o=>(hB.frozen (p:=⟨_,o,none⟩) h.lt).trans (h.fr o)
theorem R4.start {w0 w:World} (hB:Below w0.heap.size w0 w) (x0 x1 x2 x3:Value) (e:TypeId):R4 w0 (w.alloc (.cells #[x0,x1,x2,x3] e)) w.heap.size where
 bel:=hB.trans ((Below.refl _ _).alloc hB.size _)
 le:=hB.size
 lt:=by simp
 r0:=⟨_,World.cell?_alloc_new _ _ _ 0⟩
 r1:=⟨_,World.cell?_alloc_new _ _ _ 1⟩
 r2:=⟨_,World.cell?_alloc_new _ _ _ 2⟩
 r3:=⟨_,World.cell?_alloc_new _ _ _ 3⟩
 fr:=fun o=>World.frozen?_alloc_new _ _ _ _
theorem R4.put {w0 w:World} {g:Nat} (h:R4 w0 w g) (x y z u:Value):Below w0.heap.size w0 ((((w.setCell ⟨g,0,none⟩ x).setCell ⟨g,1,none⟩ y).setCell ⟨g,2,none⟩ z).setCell ⟨g,3,none⟩ u) :=
 (((h.bel.setCell (p:=⟨_,_,none⟩) h.le _).setCell (p:=⟨_,_,none⟩) h.le _).setCell (p:=⟨_,_,none⟩) h.le _).setCell (p:=⟨_,_,none⟩) h.le _
theorem put4_block (w:World) (g:Nat) (x y z u:Value) (b:Nat) (hb:b≠g):((((w.setCell ⟨g,0,none⟩ x).setCell ⟨g,1,none⟩ y).setCell ⟨g,2,none⟩ z).setCell ⟨g,3,none⟩ u).heap[b]? = w.heap[b]?:=by
 rw [heap_setCell_other _ _ _ _ hb,heap_setCell_other _ _ _ _ hb,heap_setCell_other _ _ _ _ hb,heap_setCell_other _ _ _ _ hb]
theorem put4_size (w:World) (g:Nat) (x y z u:Value):((((w.setCell ⟨g,0,none⟩ x).setCell ⟨g,1,none⟩ y).setCell ⟨g,2,none⟩ z).setCell ⟨g,3,none⟩ u).heap.size=w.heap.size:=by simp
end Hb
namespace Go.Proofs.YtbojljpldcijgaaGreat
open Go.RowKit Hb
set_option maxRecDepth 100000
set_option maxHeartbeats 1600000 in
theorem clone_1 (t:Tm) (A:Option Addr) (cap:Nat) (w:World):Calls Tryz.prog 202 #[tmV t A cap] w fun e w'=>e=.returned (tmV t A cap)∧Below w.heap.size w w':=by
 unfold tmV
 generalize t.kind=a0 at *
 generalize t.num=a1 at *
 generalize t.name=a2 at *
 generalize t.args.length=a3 at *
 have hX:=R4.start (w0:=w) (w:=w.alloc (.cells #[.int .i64 a0,.int .i64 a1,.string a2,.slice A a3 cap] 30)) ((Below.refl _ _).alloc (Nat.le_refl _) _) (.int .i64 0) (.int .i64 0) (.string ⟨#[]⟩) (.slice none 0 0) 30
 have hs:(w.alloc (.cells #[.int .i64 a0,.int .i64 a1,.string a2,.slice A a3 cap] 30)).heap.size=w.heap.size+1:=by simp
 rw [hs] at hX
 have hp:=hX.put (.int .i64 a0) (.int .i64 a1) (.string a2) (.slice A a3 cap)
 go_enter Tryz.func202,Tryz.ntmps202
 go_wp2_with fail
 refine bodyPost_ret (v:=.agg #[.int .i64 a0,.int .i64 a1,.string a2,.slice A a3 cap]) (by simp [results,Tryz.results202,go_sem]) rfl ⟨rfl,?_⟩
 exact ((Below.refl _ _).alloc (Nat.le_refl _) _).alloc (by simp) _
def cloneF:Value:=.func (.func 202) #[] #[]
set_option maxHeartbeats 6400000 in
theorem t_apply : ∀ (t : Tm) (A : Option Addr) (cap : Nat) (w : World), TmsAt w.heap.size w A t.args → t.allOk = true →
    Calls Tryz.prog 201 #[tmV t A cap, cloneF] w fun e w' => ∃ A' cap', e = .returned (tmV t A' cap') ∧ Below w.heap.size w w' ∧ NewT w w' A' t.args := by
  refine Tm.ind fun t ih => ?_
  intro A cap w hT hok
  obtain ⟨i, hi, hz0, hz1, hz2⟩ := info_parts infoTm
  have HI := zq hi
  have HZ0 := zq hz0
  have HZ1 := zq hz1
  have HZ2 := zq hz2
  clear hi hz0 hz1 hz2
  have HT := zq hT
  have hm : t.args.length ≤ 8 := by
    rw [Tm.allOk_eq, Bool.and_eq_true] at hok
    have := hok.1
    unfold nodeOk at this
    grind
  have HOKA : Hid (∀ a ∈ t.args, a.allOk = true) := zq (by
    rw [Tm.allOk_eq, Bool.and_eq_true, List.all_eq_true] at hok
    exact hok.2)
  have HIH := zq ih
  obtain ⟨L, HL⟩ := lz (t.args.length)
  have HST := zq (CpH.start w t A cap L 30 HL.out)
  unfold tmV cloneF at *
  rw [← HL.out] at hm ⊢
  by_cases hk0 : t.kind = 0
  · have hl0 : t.args.length = 0 := by
      have h1 := hok
      rw [Tm.allOk_eq, Bool.and_eq_true] at h1
      have h2 := h1.1
      unfold nodeOk at h2
      rw [if_pos hk0] at h2
      simp at h2
      exact List.length_eq_zero_iff.2 h2.2
    have hnil : t.args = [] := List.eq_nil_of_length_eq_zero hl0
    have HC1 := zq (fun W => clone_1 t A cap W)
    unfold tmV at HC1
    rw [← HL.out] at HC1
    have HK := zq hk0
    have hX0 := R4.start (w0 := w) (w := w.alloc (.cells #[.int .i64 t.kind, .int .i64 t.num, .string t.name, .slice A L cap] 30)) ((Below.refl _ _).alloc (Nat.le_refl _) _) (.int .i64 0) (.int .i64 0) (.string ⟨#[]⟩) (.slice none 0 0) 30
    have hs : (w.alloc (.cells #[.int .i64 t.kind, .int .i64 t.num, .string t.name, .slice A L cap] 30)).heap.size = w.heap.size + 1 := by simp
    rw [hs] at hX0
    have HX0 := zq hX0
    have hb0 : (t.kind == 0) = true := by simp [hk0]
    clear hok hk0 hl0 hX0 hs ih hT HST HL
    generalize t.kind = a0 at *
    generalize t.num = a1 at *
    generalize t.name = a2 at *
    go_enter Tryz.func201, Tryz.ntmps201
    go_wp2_with fail
    refine (HC1.out _).mono ?_; rintro e w1 ⟨rfl, hB1⟩
    have hX1 := HX0.out.call hB1
    obtain ⟨v0, r0⟩ := hX1.r0
    obtain ⟨v1, r1⟩ := hX1.r1
    obtain ⟨v2, r2⟩ := hX1.r2
    obtain ⟨v3, r3⟩ := hX1.r3
    have f0 := hX1.fr 0
    have f1 := hX1.fr 1
    have f2 := hX1.fr 2
    have f3 := hX1.fr 3
    have hput := hX1.put (.int .i64 a0) (.int .i64 a1) (.string a2) (.slice A L cap)
    go_wp2_with fail
    exact bodyPost_ret (v := .agg #[.int .i64 a0, .int .i64 a1, .string a2, .slice A L cap]) (by simp [results, Tryz.results201, go_sem, r0, r1, r2, r3]) rfl ⟨A, cap, rfl, hput, by rw [hnil]; exact TmsK.nil⟩
  have hkb : (t.kind == 0) = false := by simp [hk0]
  clear ih hT hok
  go_enter Tryz.func201, Tryz.ntmps201
  go_wp2_with fail
  go_loopw [24] (fun i wr => ∃ k : Nat, ∃ v : Value, ∃ rs : List TR, k ≤ L ∧ i = .int .i64 k ∧ Hid (CpH w wr 30 t A cap v rs) ∧ Hid (rs.map (·.1) = t.args.take k)) (fun i _ => L - (intOf i).toNat)
  case atStart => exact ⟨0, _, [], Nat.zero_le _, rfl, HST, zq (by simp)⟩
  case round =>
    obtain ⟨k, v, rs, hk, rfl, HB, HR⟩ := hrel
    have b3 := HB.out.b3
    rw [← HL.out] at b3
    by_cases hlt : k < L
    · have hkl : k < t.args.length := by have := HL.out; omega
      obtain ⟨b, off, A', cap', rfl, hb, c0, c1, c2, c3, hs⟩ := (HT.out.keep HB.out.bel).get k hkl
      have hX := HB.out.call ((Below.refl _ _).alloc (Nat.le_refl _) (.cells #[.int .i64 t.args[k].kind, .int .i64 t.args[k].num, .string t.args[k].name, .slice A' t.args[k].args.length cap'] 30))
      have hD := hX.drew
      have HA := zq (HIH.out t.args[k] (List.getElem_mem hkl) A' cap' (wr.alloc (.cells #[.int .i64 t.args[k].kind, .int .i64 t.args[k].num, .string t.args[k].name, .slice A' t.args[k].args.length cap'] 30)).drew ((hs.keep ((Below.refl _ wr).alloc HB.out.bel.size _).drew).mono hX.bel.size) (HOKA.out _ (List.getElem_mem hkl)))
      have HC : Hid (Calls Tryz.prog 201 #[.agg #[.int .i64 t.args[k].kind, .int .i64 t.args[k].num, .string t.args[k].name, .slice A' t.args[k].args.length cap'], .func (.func 202) #[] #[]] (wr.alloc (.cells #[.int .i64 t.args[k].kind, .int .i64 t.args[k].num, .string t.args[k].name, .slice A' t.args[k].args.length cap'] 30)).drew fun e w' => ∃ A2 c2, e = .returned (.agg #[.int .i64 t.args[k].kind, .int .i64 t.args[k].num, .string t.args[k].name, .slice A2 t.args[k].args.length c2]) ∧ CpH w w' 30 t (some ⟨b, off, none⟩) cap v rs ∧ TmsK (fun b => w.heap.size + 3 ≤ b ∧ b < w'.heap.size ∧ v.ownBlock ≠ some b) w' A2 t.args[k].args) :=
        zq (HA.out.mono fun e w' hh => by
          obtain ⟨A2, c2, he, hB, hN⟩ := hh
          refine ⟨A2, c2, he, hD.call hB, hN.keep (fun _ _ => rfl) fun b hb => ⟨Nat.le_trans hD.lt hb.1, hb.2, fun ee => ?_⟩⟩
          have := (hD.own.own.lt b ee).2
          have h1 := hb.1
          omega)
      have hrl : rs.length = k := by
        have := congrArg List.length HR.out
        rw [List.length_map, List.length_take] at this; omega
      have HR2 : Hid ((rs ++ [((t.args[k], none, 0) : TR)]).map (fun x : TR => x.1) = t.args.take (k + 1)) := zq (by
        rw [List.map_append, HR.out, List.take_succ_eq_append_getElem hkl]; simp)
      have hk3 := hX.c3
      have hkf := hX.cf 3
      have hki : (0 : Int) ≤ (k : Int) := by omega
      have hk1 : (k : Int) < (L : Int) := by omega
      clear hs HA
      obtain ⟨a, HAE⟩ := lz (t.args[k])
      rw [← HAE.out] at HC HR2 c0 c1 c2 c3 hX hD hk3 hkf
      go_wp2_with fail
      go_region_law (first
        | (go_simp; go_at_call 201; (with_reducible refine HC.out.mono ?_); rintro e w2 ⟨A2, c2', rfl, hC2, hS2⟩; have k3 := hC2.c3; have kf := hC2.cf 3; have hCa := hC2.call ((Below.refl _ _).alloc (Nat.le_refl _) (.cells #[.int .i64 a.kind, .int .i64 a.num, .string a.name, .slice A2 a.args.length c2'] 30)); have k5 := hCa.c3; have kf5 := hCa.cf 3)
        | go_must (have q1 : rs.length + 1 ≤ maxLen := by unfold maxLen; omega
                   have q2 : (rs.length + 1) * 56 ≤ 140737488355328 := by omega
                   have q3 : w.heap.size + 3 ≤ (w2.alloc (.cells #[.int .i64 a.kind, .int .i64 a.num, .string a.name, .slice A2 a.args.length c2'] 30)).heap.size := hCa.lt
                   have q4 : ∀ j u, (rowC (a, A2, c2'))[j]? = some u → (w2.alloc (.cells #[.int .i64 a.kind, .int .i64 a.num, .string a.name, .slice A2 a.args.length c2'] 30)).cell? ((⟨w2.heap.size, 0, none⟩ : Addr).add j) = some u := World.news_of_block (heap_alloc_new w2 _)
                   have q5 : (w2.alloc (.cells #[.int .i64 a.kind, .int .i64 a.num, .string a.name, .slice A2 a.args.length c2'] 30)).heap.size = w2.heap.size + 1 := by simp
                   refine step_append_lies _ (by rfl) _ _ 28 (by rfl) (w.heap.size + 3) 30 i _ 4 56 Tryz.underlying28 HI.out HZ0.out HZ1.out HZ2.out (by rfl) (by decide) v rs.length (rowsC rs) (by rfl) hCa.own.own ⟨w2.heap.size, 0, none⟩ 1 1 (rowC (a, A2, c2')) (by rfl) (by rfl) q4 (rowC_one _) (by decide) q1 q2 q3 (w2.heap.size + 1) q5 ?_; intro g2 cp2 w3 hown3 hg3 hat3 hlt3; clear q1 q2 q3 q4 q5; have k4 := (hCa.far hg3 (w.heap.size + 2) 3 (by omega)).1.trans hCa.c3; have kf4 := (hCa.far hg3 (w.heap.size + 2) 3 (by omega)).2.trans (hCa.cf 3))
        | fail)
      all_goals
        have HN := zq (hCa.app (a, A2, c2') (hS2.keep (fun b hb => heap_alloc_old w2 _ hb.2.1) fun b hb => ⟨hb.1, by simp; omega, hb.2.2⟩) hown3 hg3 (by
          rcases hat3 with h' | h'
          · exact .inl h'.symm
          · exact .inr (by rw [h']; simp [Value.ownBlock])))
        rw [hrl] at HN
        have HR3 : Hid ((rs ++ [((a, A2, c2') : TR)]).map (fun x : TR => x.1) = t.args.take (k + 1)) := zq (by rw [← HR2.out]; simp)
        clear k3 kf k4 kf4 k5 kf5 hC2 hS2 hCa hown3 hg3 hD hX hk3 hkf
        go_wp2_with fail
        go_roundw
        case rel => exact ⟨k + 1, _, rs ++ [(a, A2, c2')], by omega, by go_num, HN, HR3⟩
        case measure => simp [intOf] <;> omega
    · have hkL : k = L := by omega
      subst hkL
      obtain ⟨A2, c2, rfl, hN⟩ := HB.out.own.tms
      have hrl : rs.length = k := by
        have := congrArg List.length HR.out
        rw [List.length_map, List.length_take, ← HL.out] at this; omega
      have hra : rs.map (fun x : TR => x.1) = t.args := by rw [HR.out, HL.out, List.take_length]
      rw [hrl] at HB
      have k0 := HB.out.c0
      have k1 := HB.out.c1
      have k2 := HB.out.c2
      have k3 := HB.out.c3
      obtain ⟨v0, r0⟩ := HB.out.r0
      obtain ⟨v1, r1⟩ := HB.out.r1
      obtain ⟨v2, r2⟩ := HB.out.r2
      obtain ⟨v3, r3⟩ := HB.out.r3
      have f0 := HB.out.rf 0
      have f1 := HB.out.rf 1
      have f2 := HB.out.rf 2
      have f3 := HB.out.rf 3
      have HP := zq (HB.out.put (.int .i64 t.kind) (.int .i64 t.num) (.string t.name) (.slice A2 k c2))
      have HNA : Hid (NewT w ((((wr.setCell ⟨w.heap.size + 1, 0, none⟩ (.int .i64 t.kind)).setCell ⟨w.heap.size + 1, 1, none⟩ (.int .i64 t.num)).setCell ⟨w.heap.size + 1, 2, none⟩ (.string t.name)).setCell ⟨w.heap.size + 1, 3, none⟩ (.slice A2 k c2)) A2 t.args) := zq (by
        obtain ⟨A3, c3, he, h3⟩ := HP.out.2.tms
        rw [hra] at h3
        injection he with he _ _
        subst he
        exact h3.keep (fun _ _ => rfl) fun b hb => ⟨by have := hb.1; omega, hb.2⟩)
      clear hN hra hrl
      go_wp2_with fail
      exact bodyPost_ret (v := .agg #[.int .i64 t.kind, .int .i64 t.num, .string t.name, .slice A2 k c2]) (by simp [results, Tryz.results201, go_sem, r0, r1, r2, r3]) rfl ⟨A2, c2, rfl, HP.out.1, HNA.out⟩
end Go.Proofs.YtbojljpldcijgaaGreat
namespace Hb
open Go Go.RowKit
theorem validT_iff (t:Tm):validT t=true↔t.nodes≤2000∧t.allOk=true:=by unfold validT;rw [Bool.and_eq_true,decide_eq_true_iff]
def cloneT (t:Tm):Tm:=if validT t=true then t else tm0
end Hb
namespace Go.Proofs.YtbojljpldcijgaaGreat
open Go.RowKit Hb
set_option maxRecDepth 100000
set_option maxHeartbeats 1600000 in
theorem t_clone (t:Tm) (A:Option Addr) (cap:Nat) (w:World) (hT:TmsAt w.heap.size w A t.args) :
  Calls Tryz.prog 197 #[tmV t A cap] w fun e w'=>∃A' cap',e=.returned (tmV (cloneT t) A' cap')∧Below w.heap.size w w'∧NewT w w' A' (cloneT t).args:=by
 have hX0:=R4.start (w0:=w) (w:=w.alloc (.cells #[.int .i64 t.kind,.int .i64 t.num,.string t.name,.slice A t.args.length cap] 30)) ((Below.refl _ _).alloc (Nat.le_refl _) _) (.int .i64 0) (.int .i64 0) (.string ⟨#[]⟩) (.slice none 0 0) 30
 have hs:(w.alloc (.cells #[.int .i64 t.kind,.int .i64 t.num,.string t.name,.slice A t.args.length cap] 30)).heap.size=w.heap.size+1:=by simp
 rw [hs] at hX0
 have HX:=zq hX0
 have HB0:Hid (TBoxT w ((w.alloc (.cells #[.int .i64 t.kind,.int .i64 t.num,.string t.name,.slice A t.args.length cap] 30)).alloc (.cells #[.int .i64 0,.int .i64 0,.string ⟨#[]⟩,.slice none 0 0] 30)) t A cap) :=
  zq ((TBoxT.start w t A cap 30).call ((Below.refl _ _).alloc (Nat.le_refl _) _))
 have HCEL:=zq (fun (W:World) (h:TBoxT w W t A cap)=>(⟨h.c0,h.c1,h.c2,h.c3⟩:_∧_∧_∧_))
 have HV:=zq (fun (W:World) (h:R4 w W (w.heap.size+1))=>t_valid t A cap W ((hT.keep h.bel).mono h.bel.size))
 have HAP:=zq (fun (W:World) (h:R4 w W (w.heap.size+1)) (ho:t.allOk=true)=>t_apply t A cap W ((hT.keep h.bel).mono h.bel.size) ho)
 clear hT hX0 hs
 unfold tmV cloneF at *
 cases hv:validT t
 ·have HE:=zq (show cloneT t=tm0 by unfold cloneT;rw [hv];rfl)
  rw [hv] at HV
  clear hv
  rw [HE.out]
  generalize t.kind=a0 at *
  generalize t.num=a1 at *
  generalize t.name=a2 at *
  generalize t.args.length=a3 at *
  go_enter Tryz.func197,Tryz.ntmps197
  go_wp2_with fail
  refine (HV.out _ HX.out).mono ?_;rintro e w1 ⟨rfl,hB1⟩
  have hX1:=HX.out.call hB1
  obtain ⟨v0,r0⟩:=hX1.r0
  obtain ⟨v1,r1⟩:=hX1.r1
  obtain ⟨v2,r2⟩:=hX1.r2
  obtain ⟨v3,r3⟩:=hX1.r3
  have f0:=hX1.fr 0
  have f1:=hX1.fr 1
  have f2:=hX1.fr 2
  have f3:=hX1.fr 3
  have hput:=hX1.put (.int .i64 0) (.int .i64 0) (.string ⟨#[]⟩) (.slice none 0 0)
  go_wp2_with fail
  exact bodyPost_ret (v:=.agg #[.int .i64 0,.int .i64 0,.string ⟨#[]⟩,.slice none 0 0]) (by simp [results,Tryz.results197,go_sem,r0,r1,r2,r3]) rfl ⟨none,0,rfl,hput,TmsK.nil⟩
 ·have hok:=((validT_iff t).1 hv).2
  have HE:=zq (show cloneT t=t by unfold cloneT;rw [hv];rfl)
  rw [hv] at HV
  clear hv
  rw [HE.out]
  have HAP2:=zq (fun W h=>HAP.out W h hok)
  clear HAP hok
  generalize t.kind=a0 at *
  generalize t.num=a1 at *
  generalize t.name=a2 at *
  generalize t.args.length=a3 at *
  go_enter Tryz.func197,Tryz.ntmps197
  go_wp2_with fail
  refine (HV.out _ HX.out).mono ?_;rintro e w1 ⟨rfl,hB1⟩
  have hX1:=HX.out.call hB1
  have hT1:=HB0.out.call hB1
  obtain ⟨c0,c1,c2,c3⟩:=HCEL.out _ hT1
  go_wp2_with fail
  refine (HAP2.out _ hX1).mono ?_;rintro e w2 ⟨A2,n2,rfl,hB2,hN⟩
  have hX2:=hX1.call hB2
  have hNN:=zq hN
  obtain ⟨v0,r0⟩:=hX2.r0
  obtain ⟨v1,r1⟩:=hX2.r1
  obtain ⟨v2,r2⟩:=hX2.r2
  obtain ⟨v3,r3⟩:=hX2.r3
  have f0:=hX2.fr 0
  have f1:=hX2.fr 1
  have f2:=hX2.fr 2
  have f3:=hX2.fr 3
  have HP:=zq (hX2.put (.int .i64 a0) (.int .i64 a1) (.string a2) (.slice A2 a3 n2))
  have HNA:Hid (NewT w ((((w2.setCell ⟨w.heap.size+1,0,none⟩ (.int .i64 a0)).setCell ⟨w.heap.size+1,1,none⟩ (.int .i64 a1)).setCell ⟨w.heap.size+1,2,none⟩ (.string a2)).setCell ⟨w.heap.size+1,3,none⟩ (.slice A2 a3 n2)) A2 t.args) :=
   zq (TmsK.keep hN (fun b hb=>put4_block w2 (w.heap.size+1) _ _ _ _ b (by have:=hX1.lt;omega)) (fun b hb=>⟨by have:=hX1.lt;omega,by rw [put4_size];exact hb.2⟩))
  clear hN c0 c1 c2 c3
  go_wp2_with fail
  exact bodyPost_ret (v:=.agg #[.int .i64 a0,.int .i64 a1,.string a2,.slice A2 a3 n2]) (by simp [results,Tryz.results197,go_sem,r0,r1,r2,r3]) rfl ⟨A2,n2,rfl,HP.out,HNA.out⟩
end Go.Proofs.YtbojljpldcijgaaGreat
