/- Parts of the proof. -/
import Derived.Test.YtbojljpldcijgaaGreatH01
import Derived.Test.YtbojljpldcijgaaGreatH13
import Derived.Deep.DeepCutAuto
import Derived.Deep.RegionHeld3
import Derived.Test.YtbojljpldcijgaaGreatH15
namespace Go.Proofs.YtbojljpldcijgaaGreat
open Go.RowKit Hb
attribute [local go_sem] Oper.semAt_some
set_option maxRecDepth 100000
set_option linter.unusedSimpArgs false
theorem TOut.bad {c:PC} {n:Nat} {nv:Value} {w0 w:World} {R:RR (Tm×Int×Nat)} {k:Nat} {e:Ending} (hR:R=.error k) (h:Bad c nv w0 k e w):TOut c n nv w0 R e w:=by rw [hR];exact h
structure RgR (c:PC) (n:Nat) (v:VS) (nv0:Value) (w0:World) (nv:Value) (L:List (Nat×List Value)) (g:Nat) (w:World):Prop where
 wk:Wk c n v nv0 w0 nv w L
 rb:∃u0 u1 u2 u3,Bk w g [u0,u1,u2,u3]
 gm:¬c.mine nv g
 gL:∀x∈L,x.1≠g
 gw:w0.heap.size≤g
theorem RgR.call {c:PC} {n:Nat} {v:VS} {nv0:Value} {w0:World} {nv:Value} {L:List (Nat×List Value)} {g:Nat} {w w':World} (h:RgR c n v nv0 w0 nv L g w) (hB:Below w.heap.size w w'):RgR c n v nv0 w0 nv L g w':=by
 obtain ⟨u0,u1,u2,u3,hb⟩:=h.rb
 exact ⟨h.wk.call hB,⟨u0,u1,u2,u3,hb.call hB⟩,h.gm,h.gL,h.gw⟩
theorem put4_belowF {B:Nat} {w0 w:World} (h:Below B w0 w) (g:Nat) (hg:B≤g) (x y z u:Value):Below B w0 ((((w.setCell ⟨g,0,none⟩ x).setCell ⟨g,1,none⟩ y).setCell ⟨g,2,none⟩ z).setCell ⟨g,3,none⟩ u) :=
 (((h.setCell (p:=⟨_,_,none⟩) hg _).setCell (p:=⟨_,_,none⟩) hg _).setCell (p:=⟨_,_,none⟩) hg _).setCell (p:=⟨_,_,none⟩) hg _
theorem RgR.put4 {c:PC} {n:Nat} {v:VS} {nv0:Value} {w0:World} {nv:Value} {L:List (Nat×List Value)} {g:Nat} {w:World} (h:RgR c n v nv0 w0 nv L g w) (x y z u:Value):RgR c n v nv0 w0 nv L g ((((w.setCell ⟨g,0,none⟩ x).setCell ⟨g,1,none⟩ y).setCell ⟨g,2,none⟩ z).setCell ⟨g,3,none⟩ u):=by
 obtain ⟨u0,u1,u2,u3,hb⟩:=h.rb
 have hk:∀k,k≠g→((((w.setCell ⟨g,0,none⟩ x).setCell ⟨g,1,none⟩ y).setCell ⟨g,2,none⟩ z).setCell ⟨g,3,none⟩ u).heap[k]? = w.heap[k]?:=fun k hk=>put4_block _ _ _ _ _ _ _ hk
 have hne:∀k,c.mine nv k→k≠g:=fun k hm e=>h.gm (e ▸ hm)
 have hlt:∀k,k<c.B1→k≠g:=fun k hm e=>by have:=h.gw;have:=h.wk.start0;omega
 have hp:=h.wk.p.keep (w':=((((w.setCell ⟨g,0,none⟩ x).setCell ⟨g,1,none⟩ y).setCell ⟨g,2,none⟩ z).setCell ⟨g,3,none⟩ u)) (by simp) (fun b hm=>hk b (hne b hm)) (fun b hb=>hk b (hlt b hb))
 refine ⟨⟨hp,⟨h.wk.s.os,h.wk.s.tape,h.wk.s.output,by simpa using h.wk.s.size,fun b hb hm=>(hk b (by have:=h.gw;omega)).trans (h.wk.s.block b hb hm),h.wk.s.own⟩,put4_belowF h.wk.low g (Nat.le_trans h.wk.start0 h.gw) _ _ _ _,⟨fun y hy=>?_,h.wk.b.ord⟩,h.wk.off,h.wk.start0⟩,⟨x,y,z,u,(((hb.set 0 x).set 1 y).set 2 z).set 3 u⟩,h.gm,h.gL,h.gw⟩
 have hkk:=h.wk.b.bk y hy
 refine hkk.keeps (hk _ ?_)
 rcases List.mem_append.1 hy with hy | hy
 ·exact h.gL y hy
 ·rw [List.mem_singleton] at hy;subst hy;exact hne _ (.inl rfl)
theorem Wk.sub {c : PC} {n : Nat} {v : VS} {nv0 : Value} {w0 : World} {nv : Value} {w : World} {L L' : List (Nat × List Value)} (h : Wk c n v nv0 w0 nv w L) (hs : L'.Sublist L) : Wk c n v nv0 w0 nv w L' :=
 ⟨h.p, h.s, h.low, ⟨fun x hx => h.b.bk x (by
  rcases List.mem_append.1 hx with hx | hx
  ·exact List.mem_append_left _ (hs.subset hx)
  ·exact List.mem_append_right _ hx), (h.b.ord).sublist ((hs.append_right _).map _)⟩, fun x hx => h.off x (hs.subset hx), h.start0⟩
theorem neg64 {m:Int} (h:-9223372036854775808≤m∧m≤9223372036854775807):wrap64 (-m)=if m=-9223372036854775808 then m else -m:=by
 split
 ·rename_i e;subst e;decide +kernel
 ·exact IntWalk.wrap64_in _ (by omega)
theorem op_prec_le (P:List OpR) (s:ByteArray) (c:Int):-9223372036854775808≤((findR P s c).getD op0).prec∧((findR P s c).getD op0).prec≤9223372036854775807:=by
 cases hf:findR P s c with
 | none=>exact ⟨by show (-9223372036854775808:Int)≤0;omega,by show (0:Int)≤9223372036854775807;omega⟩
 | some q=>
  unfold findR at hf
  split at hf
  ·rename_i hv
   have hm:=List.mem_of_find?_eq_some hf
   have hk:=valid_all hv q hm
   show _≤q.prec∧q.prec≤_
   unfold opOk at hk
   grind
  ·cases hf
set_option maxHeartbeats 6400000 in
theorem rd_named {c : PC} {S : PT} {k n i : Nat} {nv : Value} {w : World} (hS : TrmOk c S k) (hk : k ≤ i) (hni : n < i) (p : PsAt c i (vsAt c.E.T i) nv w) (t : NextR) (ht : t.r.text.length ≤ 100) (most : Int) :
  Calls Tryz.prog 144 #[.pointer (some ⟨c.P, 0, none⟩), tkV t, .int .i64 most] w (TOut c n nv w (nmdG c.E S t most i)) := by
 obtain ⟨R, HR⟩ := lz (nmdG c.E S t most i)
 rw [← HR.out]
 obtain ⟨oP, HOP⟩ := lz ((findR c.E.P t.txt 1).getD op0)
 obtain ⟨bP, HBP⟩ := lz (hasO c.E.P t.txt 1)
 have HP : Hid (∀ X nv', PsAt c i (vsAt c.E.T i) nv' X → Calls Tryz.prog 181 #[.slice c.OA c.on c.oc, .string t.txt] X fun e w' => e = .returned (.tuple #[.agg #[.string oP.name, .int .i64 oP.typ, .int .i64 oP.prec], .bool bP]) ∧ Below X.heap.size X w') := zq fun X nv' h => by
  rw [HOP.out, HBP.out]; exact ops_prefix c.OA c.on c.oc c.E.P t.txt X h.ok.opl (by have := h.ok.few; omega) h.ops
 have HSD : Hid (∀ X, Calls Tryz.prog 96 #[.agg #[.string oP.name, .int .i64 oP.typ, .int .i64 oP.prec]] X fun e w' => e = .returned (.tuple #[.int .i64 (sideL oP), .int .i64 (sideR oP)]) ∧ Below X.heap.size X w') := zq fun X => ops_sides oP X (by rw [HOP.out]; exact op_prec_le _ _ _)
 have HQ0 := zq (((Wk.start p).new [.int .i64 t.r.kind, .string t.txt, .int .i64 t.r.n, .int .i64 t.r.at_, .int .i64 t.r.end_, .bool t.lay] 76 rfl).new [.int .i64 0, .int .i64 0, .string ⟨#[]⟩, .slice none 0 0] 30 (g := w.heap.size + 1) (by simp))
 have HS := zq (fun (m : Int) nv' W (h : PsAt c i (vsAt c.E.T i) nv' W) => hS m i nv' W hk h)
 have HCP := zq (fun nv' W (h : PsAt c i (vsAt c.E.T i) nv' W) => rd_compound hS (by omega : k ≤ i + 1) h t.txt)
 have HAT := zq (fun W => rd_atom t.txt ht W)
 have HRS := zq (fun (A : Option Addr) (m cap : Nat) (W : World) => rd_structure t.txt A m cap W)
 have HPK := zq (fun nv' W (h : PsAt c i (vsAt c.E.T i) nv' W) => rd_peek h 0 (by decide))
 have HAL := zq (fun nv' W (h : PsAt c i (vsAt c.E.T i) nv' W) => rd_alone h)
 have HTX := zq (txt_is t [45])
 have HMO := zq p.more
 have HNN := zq (show -9223372036854775808 ≤ (c.E.at i).r.n ∧ (c.E.at i).r.n ≤ 9223372036854775807 from (p.ok.txt _ (by rw [c.E.at_get p.n1]; exact List.getElem_mem _)).2)
 have HNI := zq hni
 clear p hS hk ht hni
 have HE : Hid (R = match compG c.E S t.txt i with
  | .error e => .error e
  | .ok (some u, m) => .ok (u, 0, m)
  | .ok (none, _) =>
   if minusG c.E t i = true then .ok (inT (if (c.E.at i).r.n = -9223372036854775808 then (c.E.at i).r.n else -(c.E.at i).r.n), 0, i + 1)
   else if (bP && (decide (oP.prec ≤ most) && !aloneG c.E i)) = true then (match S (sideR oP) i with
    | .error e => .error e
    | .ok (u, _, m) => .ok (stT t.txt [u], oP.prec, m))
   else .ok (atT t.txt, 0, i)) := zq (by rw [HR.out, HOP.out, HBP.out]; rfl)
 clear HR
 have hX := HCP.out nv _ HQ0.out.p
 unfold tkV at *
 rcases hx : compG c.E S t.txt i with e | ⟨ou, m⟩
 ·skip
  rw [hx] at hX
  have HV : Hid (R = .error e) := zq (by rw [HE.out, hx])
  have HX := zq hX
  clear hX hx HE HP HSD HS HCP HAT HRS HPK HAL HTX HMO HNN HOP HBP
  go_enter Tryz.func144, Tryz.ntmps144
  go_wp2_with fail
  refine (HX.out).mono ?_; rintro e w9 ⟨rfl, hB9⟩
  exact ⟨rfl, TOut.bad HV.out ⟨rfl, HQ0.out.fall hB9⟩⟩
 rcases ou with _ | u
 rotate_left
 ·skip
  rw [hx] at hX
  have HV : Hid (R = .ok (u, 0, m)) := zq (by rw [HE.out, hx])
  have HX := zq hX
  clear hX hx HE HP HSD HS HCP HAT HRS HPK HAL HTX HMO HNN HOP HBP
  go_enter Tryz.func144, Tryz.ntmps144
  go_wp2_with fail
  refine (HX.out).mono ?_; rintro e w1 ⟨hnm, At, ct, nv1, rfl, hp, hs, ht⟩
  have HT0 := zq (Trm.sub (w0 := w) (F := [w.heap.size + 1, w.heap.size]) ht HQ0.out.s.size (by intro b hb; simp only [List.mem_cons, List.mem_nil_iff, or_false] at hb; rcases hb with rfl | rfl; exact HQ0.out.b.lt 0 rfl; exact HQ0.out.b.lt 1 rfl))
  have HNM := zq hnm
  clear ht hnm
  have HQ2 := zq (HQ0.out.step hp hs)
  clear HQ0
  clear hp hs
  clear HX
  unfold tmV
  have HQ3 := zq (HQ2.out.new [.int .i64 u.kind, .int .i64 u.num, .string u.name, .slice At u.args.length ct] 30 (g := w1.heap.size) (by simp))
  have HT0_3 := zq (HT0.out.new (.cells #[.int .i64 u.kind, .int .i64 u.num, .string u.name, .slice At u.args.length ct] 30) (g := w1.heap.size) (by simp))
  clear HQ2 HT0
  have cc4 := HQ3.out.b.all
  simp only [PC.cells, List.cons_append, List.nil_append, List.append_nil, bksAll, bkAll, Nat.zero_add, Nat.reduceAdd, and_true] at cc4
  go_wp2_with fail
  have hz := HQ3.out.put4 1 rfl (.int .i64 u.kind) (.int .i64 u.num) (.string u.name) (.slice At u.args.length ct) (Nat.le_succ _)
  have ht := HT0_3.out.put (g := w.heap.size + 1) (by simp) (fun b hb => put4_block _ _ (.int .i64 u.kind) (.int .i64 u.num) (.string u.name) (.slice At u.args.length ct) b hb) (by simp)
  refine bodyPost_ret (v := .tuple #[.agg #[.int .i64 u.kind, .int .i64 u.num, .string u.name, .slice At u.args.length ct], .int .i64 0]) (by simp [results, Tryz.results144, go_sem, cc4]) rfl ?_
  rw [HV.out]
  exact ⟨by have := HNM.out; have := HNI.out; omega, At, ct, nv1, rfl, hz.p, hz.s, ht.out⟩
 ·skip
  rw [hx] at hX
  have HE2 : Hid (R = if minusG c.E t i = true then .ok (inT (if (c.E.at i).r.n = -9223372036854775808 then (c.E.at i).r.n else -(c.E.at i).r.n), 0, i + 1)
     else if (bP && (decide (oP.prec ≤ most) && !aloneG c.E i)) = true then (match S (sideR oP) i with
      | .error e => .error e
      | .ok (u, _, m) => .ok (stT t.txt [u], oP.prec, m))
     else .ok (atT t.txt, 0, i)) := zq (by rw [HE.out, hx])
  have HX := zq hX
  clear hX hx HE HCP HOP HBP
  go_enter Tryz.func144, Tryz.ntmps144
  go_wp2_with fail
  refine (HX.out).mono ?_; rintro e w1 ⟨hmn, rfl, hp, hs⟩
  clear hmn HX
  have HQ2 := zq (HQ0.out.step hp hs)
  clear HQ0
  clear hp hs
  have HQ3 := zq (HQ2.out.new [.int .i64 0, .int .i64 0, .string ⟨#[]⟩, .slice none 0 0] 30 (g := w1.heap.size) (by simp))
  clear HQ2
  have cc4 := HQ3.out.b.all
  simp only [PC.cells, List.cons_append, List.nil_append, List.append_nil, bksAll, bkAll, Nat.zero_add, Nat.reduceAdd, and_true] at cc4
  go_upto_region 4 with fail
  obtain ⟨wa, HWA⟩ := lz ((w1.alloc (.cells #[.int .i64 0, .int .i64 0, .string ⟨#[]⟩, .slice none 0 0] 30)))
  obtain ⟨g1, HG1⟩ := lz (w1.heap.size)
  clear cc4
  rw [← HWA.out] at HQ3 ⊢
  rw [← HG1.out] at HQ3 ⊢
  go_wp2_with fail
  refine (HPK.out nv _ HQ3.out.p).mono ?_; rintro e w5 ⟨rfl, hB⟩
  have HQ6 := zq (HQ3.out.call hB)
  clear HQ3
  clear hB HPK HWA HG1
  obtain ⟨nt, HNT⟩ := lz ((c.E.at i))
  rw [Nat.add_zero, ← HNT.out]
  rw [← HNT.out] at HMO HNN HE2
  have HQ7 := zq (HQ6.out.new [.int .i64 nt.r.kind, .string nt.txt, .int .i64 nt.r.n, .int .i64 nt.r.at_, .int .i64 nt.r.end_, .bool nt.lay] 76 (g := w5.heap.size) (by simp))
  clear HQ6
  have cc8 := HQ7.out.b.all
  simp only [PC.cells, List.cons_append, List.nil_append, List.append_nil, bksAll, bkAll, Nat.zero_add, Nat.reduceAdd, and_true] at cc8
  go_upto_region 5 with fail
  obtain ⟨wb, HWB⟩ := lz ((w5.alloc (.cells #[.int .i64 nt.r.kind, .string nt.txt, .int .i64 nt.r.n, .int .i64 nt.r.at_, .int .i64 nt.r.end_, .bool nt.lay] 76)))
  obtain ⟨g2, HG2⟩ := lz (w5.heap.size)
  clear cc8
  rw [← HWB.out] at HQ7 ⊢
  rw [← HG2.out] at HQ7 ⊢
  clear HWB HG2
  obtain ⟨mi, HMI⟩ := lz ((t.r.kind == 1 && (t.r.text == [45] && (nt.r.kind == 4 && !nt.lay))))
  have HMG : Hid (minusG c.E t i = mi) := zq (by rw [HMI.out, HNT.out]; rfl)
  rw [HMG.out] at HE2
  clear HMG
  go_cut [45] from 28 to 45 (fun x wc => x = .bool mi ∧ wc = wb)
  case first =>
   have cc9 := HQ7.out.b.all
   simp only [PC.cells, List.cons_append, List.nil_append, List.append_nil, bksAll, bkAll, Nat.zero_add, Nat.reduceAdd, and_true] at cc9
   have hx := HTX.out
   have hmi := HMI.out
   rw [show (t.r.text == [45]) = decide (t.r.text = [45]) from by by_cases h : t.r.text = [45] <;> simp [h]] at hmi
   clear HE2 HP HSD HS HAT HRS HAL HMO HNN HTX HMI HNT
   generalize decide (t.r.text = [45]) = q2 at *
   by_cases h1 : t.r.kind = 1
   ·have b1 : (t.r.kind == 1) = true := by simpa using h1
    rw [b1] at hmi
    clear h1
    cases q2
    ·have hm : mi = false := hmi
     clear hmi
     subst hm
     go_wp2_with fail
     go_meet
     exact ⟨rfl, rfl⟩
    ·by_cases h4 : nt.r.kind = 4
     ·have b4 : (nt.r.kind == 4) = true := by simpa using h4
      rw [b4] at hmi
      clear h4
      have hm : mi = !nt.lay := hmi
      clear hmi
      subst hm
      go_wp2_with fail
      go_meet
      exact ⟨rfl, rfl⟩
     ·have b4 : (nt.r.kind == 4) = false := by simpa using h4
      rw [b4] at hmi
      clear h4
      have hm : mi = false := hmi
      clear hmi
      subst hm
      go_wp2_with fail
      go_meet
      exact ⟨rfl, rfl⟩
   ·have b1 : (t.r.kind == 1) = false := by simpa using h1
    rw [b1] at hmi
    clear h1
    have hm : mi = false := hmi
    clear hmi
    subst hm
    go_wp2_with fail
    go_meet
    exact ⟨rfl, rfl⟩
  case rest =>
   obtain ⟨rfl, rfl⟩ := hcut
   clear HTX
   cases mi
   rotate_left
   ·skip
    have hmi := HMI.out
    have h4 : nt.r.kind = 4 := by simp at hmi; exact hmi.2.2.1
    have hn64 := neg64 HNN.out
    obtain ⟨vm, HVM⟩ := lz (if nt.r.n = -9223372036854775808 then nt.r.n else -nt.r.n)
    rw [← HVM.out] at hn64 HE2
    have HV : Hid (R = .ok (inT vm, 0, i + 1)) := zq (by rw [HE2.out, if_pos rfl])
    have hm1 := HMO.out (by rw [h4]; decide)
    have HM1 := zq hm1
    have HV0 : Hid (isV (c.E.at i) = false) := zq (by rw [← HNT.out]; exact isV_kind h4 (by decide))
    have hi : wrap64 ((i : Int) + 1) = (i : Int) + 1 := inc64 (by have := HQ7.out.p.n1; have := HQ7.out.p.ok.len; omega)
    clear HE2 HP HSD HS HAT HRS HAL HMO HNN h4 hmi hm1 HMI
    have cc9 := HQ7.out.b.all
    simp only [PC.cells, List.cons_append, List.nil_append, List.append_nil, bksAll, bkAll, Nat.zero_add, Nat.reduceAdd, and_true] at cc9
    go_upto_region 7 with fail
    have hq := HQ7.out.inc HM1.out
    obtain ⟨wn, HWN⟩ := lz (wc.setCell ⟨c.P, 1, none⟩ (.int .i64 ((i : Int) + 1)))
    rw [← HWN.out] at hq ⊢
    have HQn := zq (hq.step (PsAt.skip HV0.out HQ7.out.p.n1 hq.p) (Stp.refl c nv wn))
    clear hq HWN HQ7 cc9 hi
    have cc10 := HQn.out.b.all
    simp only [PC.cells, List.cons_append, List.nil_append, List.append_nil, bksAll, bkAll, Nat.zero_add, Nat.reduceAdd, and_true] at cc10
    go_wp2_with fail
    rw [hn64]
    refine (t_int vm _).mono ?_; rintro e w11 ⟨rfl, hB⟩
    have HQ12 := zq (HQn.out.call hB)
    clear HQn cc10
    clear hB 
    have cc13 := HQ12.out.b.all
    simp only [PC.cells, List.cons_append, List.nil_append, List.append_nil, bksAll, bkAll, Nat.zero_add, Nat.reduceAdd, and_true] at cc13
    go_wp2_with fail
    have hz := HQ12.out.put4 2 rfl (.int .i64 1) (.int .i64 vm) (.string ⟨#[]⟩) (.slice none 0 0) (Nat.le_succ _)
    refine bodyPost_ret (v := .tuple #[.agg #[.int .i64 1, .int .i64 vm, .string ⟨#[]⟩, .slice none 0 0], .int .i64 0]) (by simp [results, Tryz.results144, go_sem, cc13]) rfl ?_
    rw [HV.out]
    exact ⟨Nat.lt_succ_of_lt HNI.out, none, 0, nv, rfl, hz.p, hz.s, TmsK.nil⟩
   have HE3 : Hid (R = if (bP && (decide (oP.prec ≤ most) && !aloneG c.E i)) = true then (match S (sideR oP) i with
       | .error e => .error e
       | .ok (u, _, m) => .ok (stT t.txt [u], oP.prec, m))
      else .ok (atT t.txt, 0, i)) := HE2
   clear HE2 HMO HNN HMI HNT
   go_wp2_with fail
   rename_i K8 hK8
   refine region_own (w0 := wc) [rPure [] [0] (fun | [v] => v = .pointer (some ⟨c.P, 0, none⟩) | _ => False),
    rPure [0] [1] (fun | [v] => v = .pointer (some ⟨c.P, 0, none⟩) | _ => False),
    rPure [0, 1] [2] (fun | [v] => v = .pointer (some ⟨c.P, 2, none⟩) | _ => False),
    rVal (List.range 3) [3] (fun | [v] => v = .slice c.OA c.on c.oc | _ => False),
    rPure [] [4] (fun | [v] => v = .pointer (some ⟨w.heap.size, 1, none⟩) | _ => False),
    rVal [4] [5] (fun | [v] => v = .string t.txt | _ => False),
    rVal (List.range 6) [6] (fun | [v] => v = .tuple #[.agg #[.string oP.name, .int .i64 oP.typ, .int .i64 oP.prec], .bool bP] | _ => False),
    rPure (List.range 7) [7] (fun | [v] => v = .tuple #[.agg #[.string oP.name, .int .i64 oP.typ, .int .i64 oP.prec], .bool bP] | _ => False),
    rPure (List.range 8) [8] (fun | [v] => v = .agg #[.string oP.name, .int .i64 oP.typ, .int .i64 oP.prec] | _ => False),
    rPure (List.range 8) [9] (fun | [v] => v = .bool bP | _ => False),
    rBox [] [.string ⟨#[]⟩, .int .i64 0, .int .i64 0] 11,
    rStore [0, 1, 2, 3, 4, 5, 6, 7, 8, 10] [] 10 (fun _ => [.string oP.name, .int .i64 oP.typ, .int .i64 oP.prec]),
    rPure (List.range 12) [12] (fun | [v] => v = .bool bP | _ => False)]
    [some 58, some 59, some 60, some 61, some 62, some 63, some 64, some 57, some 65, some 66, some 11, none, some 12] (fun _ => True) (wc.heap.size) (by kernel_rfl) (Nat.le_refl _) (by kernel_rfl) (by kernel_rfl) (by kernel_rfl) (fun j o ho => ?srv8) (fun val Y N hv HF => ?fin8)
   case srv8 =>
    have hlt : j < 13 := (Array.getElem?_eq_some_iff.1 ho).1
    rcases (show j = 0 ∨ j = 1 ∨ j = 2 ∨ j = 3 ∨ j = 4 ∨ j = 5 ∨ j = 6 ∨ j = 7 ∨ j = 8 ∨ j = 9 ∨ j = 10 ∨ j = 11 ∨ j = 12 by omega) with rfl | rfl | rfl | rfl | rfl | rfl | rfl | rfl | rfl | rfl | rfl | rfl | rfl
    ·cases ho
     refine srv_pure rfl rfl (fun val E hE hA => ?_)
     have e0 := hE.t 0 (.pointer (some ⟨c.P, 0, none⟩)) rfl
     exact ⟨.pointer (some ⟨c.P, 0, none⟩), fun X => by simp [execOp, go_sem, e0], rfl⟩
    ·cases ho
     refine srv_pure rfl rfl (fun val E hE hA => ?_)
     have e58 := hE.t 58 (val 0) rfl
     have h0 : val 0 = .pointer (some ⟨c.P, 0, none⟩) := hA 0 (oz rfl)
     exact ⟨.pointer (some ⟨c.P, 0, none⟩), fun X => by simp [execOp, go_sem, e58, h0], rfl⟩
    ·cases ho
     refine srv_pure rfl rfl (fun val E hE hA => ?_)
     have e59 := hE.t 59 (val 1) rfl
     have h1 : val 1 = .pointer (some ⟨c.P, 0, none⟩) := hA 1 (oz rfl)
     exact ⟨.pointer (some ⟨c.P, 2, none⟩), fun X => by simp [execOp, go_sem, e59, h1], rfl⟩
    ·cases ho
     refine srv_val rfl rfl (fun _ _ _ => trivial) (fun val E X hE hB hA => ?_)
     have e60 := hE.t 60 (val 2) rfl
     have h2 : val 2 = .pointer (some ⟨c.P, 2, none⟩) := hA 2 (oz rfl)
     have hk := (HQ7.out.call hB).p.bk.c 2 _ rfl
     exact ⟨.slice c.OA c.on c.oc, by simp [execOp, go_sem, e60, h2, hk], rfl⟩
    ·cases ho
     refine srv_pure rfl rfl (fun val E hE hA => ?_)
     have e4 := hE.t 4 (.pointer (some ⟨w.heap.size, 0, none⟩)) rfl
     exact ⟨.pointer (some ⟨w.heap.size, 1, none⟩), fun X => by simp [execOp, go_sem, e4], rfl⟩
    ·cases ho
     refine srv_val rfl rfl (fun _ _ _ => trivial) (fun val E X hE hB hA => ?_)
     have e62 := hE.t 62 (val 4) rfl
     have h4 : val 4 = .pointer (some ⟨w.heap.size, 1, none⟩) := hA 4 (oz rfl)
     have hk := ((HQ7.out.call hB).b.at 3 _ _ rfl).c 1 _ rfl
     exact ⟨.string t.txt, by simp [execOp, go_sem, e62, h4, hk], rfl⟩
    ·cases ho
     refine srv_calV rfl rfl (fun _ _ _ => trivial) (fun val E X hE hB hA => ?_)
     have e61 := hE.t 61 (val 3) rfl
     have h3 : val 3 = .slice c.OA c.on c.oc := hA 3 (oz rfl)
     have e63 := hE.t 63 (val 5) rfl
     have h5 : val 5 = .string t.txt := hA 5 (oz rfl)
     exact ⟨_, _, _, by simp [execOp, go_sem, hE.f, e61, h3, e63, h5] <;> rfl, HP.out X nv (HQ7.out.call hB).p, rfl⟩
    ·cases ho
     refine srv_pure rfl rfl (fun val E hE hA => ?_)
     have e64 := hE.t 64 (val 6) rfl
     have h6 : val 6 = .tuple #[.agg #[.string oP.name, .int .i64 oP.typ, .int .i64 oP.prec], .bool bP] := hA 6 (oz rfl)
     exact ⟨.tuple #[.agg #[.string oP.name, .int .i64 oP.typ, .int .i64 oP.prec], .bool bP], fun X => by simp [execOp, go_sem, e64, h6], rfl⟩
    ·cases ho
     refine srv_pure rfl rfl (fun val E hE hA => ?_)
     have e57 := hE.t 57 (val 7) rfl
     have h7 : val 7 = .tuple #[.agg #[.string oP.name, .int .i64 oP.typ, .int .i64 oP.prec], .bool bP] := hA 7 (oz rfl)
     exact ⟨.agg #[.string oP.name, .int .i64 oP.typ, .int .i64 oP.prec], fun X => by simp [execOp, go_sem, e57, h7], rfl⟩
    ·cases ho
     refine srv_pure rfl rfl (fun val E hE hA => ?_)
     have e57 := hE.t 57 (val 7) rfl
     have h7 : val 7 = .tuple #[.agg #[.string oP.name, .int .i64 oP.typ, .int .i64 oP.prec], .bool bP] := hA 7 (oz rfl)
     exact ⟨.bool bP, fun X => by simp [execOp, go_sem, e57, h7], rfl⟩
    ·cases ho
     exact srv_box rfl (fun _ => trivial) (trivial) 61 fun E X => by simp [execOp, go_sem]
    ·cases ho
     refine srv_store rfl rfl (fun _ => trivial) fun val E X b hE hA hb hk => ?_
     have e11 := hE.t 11 (val 10) rfl
     have e65 := hE.t 65 (val 8) rfl
     have h8 : val 8 = .agg #[.string oP.name, .int .i64 oP.typ, .int .i64 oP.prec] := hA 8 (oz rfl)
     have z0 := hk.c 0 (.string ⟨#[]⟩) rfl
     have f0 := hk.f 0
     have z1 := hk.c 1 (.int .i64 0) rfl
     have f1 := hk.f 1
     have z2 := hk.c 2 (.int .i64 0) rfl
     have f2 := hk.f 2
     exact ⟨(((X.setCell ⟨b, 0, none⟩ (.string oP.name)).setCell ⟨b, 1, none⟩ (.int .i64 oP.typ)).setCell ⟨b, 2, none⟩ (.int .i64 oP.prec)), [.string oP.name, .int .i64 oP.typ, .int .i64 oP.prec], by simp [execOp, go_sem, hb, e11, e65, h8, z0, f0, z1, f1, z2, f2], ((((PutTo.start hk).more 0 (.string oP.name)).more 1 (.int .i64 oP.typ)).more 2 (.int .i64 oP.prec)), rfl, trivial⟩
    ·cases ho
     refine srv_pure rfl rfl (fun val E hE hA => ?_)
     have e66 := hE.t 66 (val 9) rfl
     have h9 : val 9 = .bool bP := hA 9 (oz rfl)
     exact ⟨.bool bP, fun X => by simp [execOp, go_sem, e66, h9], rfl⟩
   case fin8 =>
    have h0 : val 0 = .pointer (some ⟨c.P, 0, none⟩) := hv 0 (by decide)
    have h1 : val 1 = .pointer (some ⟨c.P, 0, none⟩) := hv 1 (by decide)
    have h2 : val 2 = .pointer (some ⟨c.P, 2, none⟩) := hv 2 (by decide)
    have h3 : val 3 = .slice c.OA c.on c.oc := hv 3 (by decide)
    have h4 : val 4 = .pointer (some ⟨w.heap.size, 1, none⟩) := hv 4 (by decide)
    have h5 : val 5 = .string t.txt := hv 5 (by decide)
    have h6 : val 6 = .tuple #[.agg #[.string oP.name, .int .i64 oP.typ, .int .i64 oP.prec], .bool bP] := hv 6 (by decide)
    have h7 : val 7 = .tuple #[.agg #[.string oP.name, .int .i64 oP.typ, .int .i64 oP.prec], .bool bP] := hv 7 (by decide)
    have h8 : val 8 = .agg #[.string oP.name, .int .i64 oP.typ, .int .i64 oP.prec] := hv 8 (by decide)
    have h9 : val 9 = .bool bP := hv 9 (by decide)
    have h12 : val 12 = .bool bP := hv 12 (by decide)
    obtain ⟨e8, hb, hl, hk, _⟩ := HF.at_box 10 (by decide) rfl
    have hkk : Bk Y e8 [.string oP.name, .int .i64 oP.typ, .int .i64 oP.prec] := hk
    have HQ8 : Hid (Wk c i (vsAt c.E.T i) nv w nv Y [(e8, [.string oP.name, .int .i64 oP.typ, .int .i64 oP.prec]), (g2, [.int .i64 nt.r.kind, .string nt.txt, .int .i64 nt.r.n, .int .i64 nt.r.at_, .int .i64 nt.r.end_, .bool nt.lay]), (g1, [.int .i64 0, .int .i64 0, .string ⟨#[]⟩, .slice none 0 0]), (w.heap.size + 1, [.int .i64 0, .int .i64 0, .string ⟨#[]⟩, .slice none 0 0]), (w.heap.size, [.int .i64 t.r.kind, .string t.txt, .int .i64 t.r.n, .int .i64 t.r.at_, .int .i64 t.r.end_, .bool t.lay])]) := zq (HQ7.out.box HF.bel hl hkk)
    clear hv HF hk hkk hl HQ7
    refine hK8 _ _ ?_
    simp only [fillD, List.set_cons_zero, List.set_cons_succ, Nat.reduceAdd, Nat.zero_add, hb, h0, h1, h2, h3, h4, h5, h6, h7, h8, h9, h12]
    clear hK8 hb h0 h1 h2 h3 h4 h5 h6 h7 h8 h9 h12
    have HAX := zq (HAL.out nv Y HQ8.out.p)
    clear HP HAL
    obtain ⟨pr, HPR⟩ := lz ((bP && (decide (oP.prec ≤ most) && !aloneG c.E i)))
    rw [← HPR.out] at HE3
    go_upto_region 9 with fail
    go_cut [78] from 67 to 78 (fun x wc => x = .bool pr ∧ Hid (Wk c i (vsAt c.E.T i) nv w nv wc [(e8, [.string oP.name, .int .i64 oP.typ, .int .i64 oP.prec]), (g2, [.int .i64 nt.r.kind, .string nt.txt, .int .i64 nt.r.n, .int .i64 nt.r.at_, .int .i64 nt.r.end_, .bool nt.lay]), (g1, [.int .i64 0, .int .i64 0, .string ⟨#[]⟩, .slice none 0 0]), (w.heap.size + 1, [.int .i64 0, .int .i64 0, .string ⟨#[]⟩, .slice none 0 0]), (w.heap.size, [.int .i64 t.r.kind, .string t.txt, .int .i64 t.r.n, .int .i64 t.r.at_, .int .i64 t.r.end_, .bool t.lay])]))
    case first =>
     have cc101 := HQ8.out.b.all
     simp only [PC.cells, List.cons_append, List.nil_append, List.append_nil, bksAll, bkAll, Nat.zero_add, Nat.reduceAdd, and_true] at cc101
     have hpr := HPR.out
     clear HE3 HSD HS HAT HRS HPR
     generalize aloneG c.E i = al at *
     cases bP
     ·have hm : pr = false := hpr
      clear hpr
      subst hm
      go_wp2_with fail
      go_meet
      exact ⟨rfl, HQ8⟩
     ·by_cases hle : oP.prec ≤ most
      ·have d1 : decide (oP.prec ≤ most) = true := decide_eq_true hle
       rw [d1] at hpr
       have hm : pr = !al := hpr
       clear hpr hle
       subst hm
       go_wp2_with fail
       refine HAX.out.mono ?_; rintro e w9 ⟨rfl, hB9⟩
       have HQ9 := zq (HQ8.out.call hB9)
       clear hB9
       go_wp2_with fail
       go_meet
       exact ⟨rfl, HQ9⟩
      ·have d1 : decide (oP.prec ≤ most) = false := decide_eq_false hle
       rw [d1] at hpr
       have hm : pr = false := hpr
       clear hpr hle
       subst hm
       go_wp2_with fail
       go_meet
       exact ⟨rfl, HQ8⟩
    case rest =>
     obtain ⟨rfl, HQ20⟩ := hcut
     clear HQ8 HAX HPR
     cases pr
     ·skip
      have HV : Hid (R = .ok (atT t.txt, 0, i)) := HE3
      clear HE3 HSD HS HRS
      have cc201 := HQ20.out.b.all
      simp only [PC.cells, List.cons_append, List.nil_append, List.append_nil, bksAll, bkAll, Nat.zero_add, Nat.reduceAdd, and_true] at cc201
      go_wp2_with fail
      refine (HAT.out _).mono ?_; rintro e w202 ⟨Aa, ca, rfl, hB⟩
      have HQ203 := zq (HQ20.out.call hB)
      clear HQ20 cc201
      clear hB 
      have cc204 := HQ203.out.b.all
      simp only [PC.cells, List.cons_append, List.nil_append, List.append_nil, bksAll, bkAll, Nat.zero_add, Nat.reduceAdd, and_true] at cc204
      go_wp2_with fail
      have hz := HQ203.out.put4 3 rfl (.int .i64 2) (.int .i64 0) (.string t.txt) (.slice Aa 0 ca) (Nat.le_succ _)
      refine bodyPost_ret (v := .tuple #[.agg #[.int .i64 2, .int .i64 0, .string t.txt, .slice Aa 0 ca], .int .i64 0]) (by simp [results, Tryz.results144, go_sem, cc204]) rfl ?_
      rw [HV.out]
      exact ⟨HNI.out, Aa, ca, nv, rfl, hz.p, hz.s, TmsK.nil⟩
     ·skip
      have HE4 : Hid (R = match S (sideR oP) i with | .error e => .error e | .ok (u, _, m) => .ok (stT t.txt [u], oP.prec, m)) := HE3
      clear HE3 HAT
      have cc201 := HQ20.out.b.all
      simp only [PC.cells, List.cons_append, List.nil_append, List.append_nil, bksAll, bkAll, Nat.zero_add, Nat.reduceAdd, and_true] at cc201
      go_wp2_with fail
      refine (HSD.out _).mono ?_; rintro e w202 ⟨rfl, hB⟩
      have HQ203 := zq (HQ20.out.call hB)
      clear HQ20 cc201
      clear hB HSD
      have hX := HS.out (sideR oP) nv _ HQ203.out.p
      clear HS
      rcases hx : S (sideR oP) i with e | ⟨u, pu, m⟩
      ·skip
       rw [hx] at hX HE4
       clear hx
       have HV : Hid (R = .error e) := HE4
       have HX := zq hX
       clear hX
       go_wp2_with fail
       refine (HX.out).mono ?_; rintro e w9 ⟨rfl, hB9⟩
       exact ⟨rfl, TOut.bad HV.out ⟨rfl, HQ203.out.fall hB9⟩⟩
      ·skip
       rw [hx] at hX HE4
       clear hx
       have HV : Hid (R = .ok (stT t.txt [u], oP.prec, m)) := HE4
       have HX := zq hX
       clear hX HE4
       go_wp2_with fail
       refine (HX.out).mono ?_; rintro e w204 ⟨hnm, At, ct, nv1, rfl, hp, hs, ht⟩
       have HT0 := zq (Trm.sub (w0 := w) (F := [w.heap.size + 1]) ht HQ203.out.s.size (by intro b hb; rw [List.mem_singleton] at hb; subst hb; exact HQ203.out.b.lt 3 rfl))
       have HNM := zq hnm
       clear ht hnm
       have HQ205 := zq (HQ203.out.step hp hs)
       clear HQ203
       clear hp hs
       clear HX
       unfold tmV
       have HQb := zq (HQ205.out.new [.int .i64 u.kind, .int .i64 u.num, .string u.name, .slice At u.args.length ct] 30 (g := w204.heap.size) rfl)
       have HTb := zq (HT0.out.call ((Below.refl w204.heap.size w204).alloc (Nat.le_refl _) (.cells #[.int .i64 u.kind, .int .i64 u.num, .string u.name, .slice At u.args.length ct] 30)))
       obtain ⟨wd, HWD⟩ := lz (w204.alloc (.cells #[.int .i64 u.kind, .int .i64 u.num, .string u.name, .slice At u.args.length ct] 30))
       obtain ⟨g5, HG5⟩ := lz (w204.heap.size)
       go_upto_region 12 with fail
       rw [← HWD.out] at HQb HTb ⊢
       rw [← HG5.out] at HQb ⊢
       have cc := HQb.out.b.all
       simp only [PC.cells, List.cons_append, List.nil_append, List.append_nil, bksAll, bkAll, Nat.zero_add, Nat.reduceAdd, and_true] at cc
       clear HQ205 HT0 HWD HG5
       have HRG0 : Hid (RgR c m (vsAt c.E.T m) nv w nv1 [(g5, [.int .i64 u.kind, .int .i64 u.num, .string u.name, .slice At u.args.length ct]), (e8, [.string oP.name, .int .i64 oP.typ, .int .i64 oP.prec]), (g2, [.int .i64 nt.r.kind, .string nt.txt, .int .i64 nt.r.n, .int .i64 nt.r.at_, .int .i64 nt.r.end_, .bool nt.lay]), (g1, [.int .i64 0, .int .i64 0, .string ⟨#[]⟩, .slice none 0 0]), (w.heap.size, [.int .i64 t.r.kind, .string t.txt, .int .i64 t.r.n, .int .i64 t.r.at_, .int .i64 t.r.end_, .bool t.lay])] (w.heap.size + 1) wd) := zq ⟨HQb.out.sub (by
         refine List.Sublist.cons_cons _ (List.Sublist.cons_cons _ (List.Sublist.cons_cons _ (List.Sublist.cons_cons _ (List.Sublist.cons _ (List.Sublist.refl _)))))), ⟨_, _, _, _, HQb.out.b.at 4 _ _ rfl⟩, HQb.out.off (w.heap.size + 1, [.int .i64 0, .int .i64 0, .string ⟨#[]⟩, .slice none 0 0]) (by simp), by
         have hord := HQb.out.b.ord
         have h4 : g5 > w.heap.size + 1 ∧ e8 > w.heap.size + 1 ∧ g2 > w.heap.size + 1 ∧ g1 > w.heap.size + 1 := by
          simp only [List.cons_append, List.nil_append, List.map_cons, List.map_nil, List.pairwise_cons, List.mem_cons, List.mem_nil_iff, or_false, forall_eq_or_imp, forall_eq] at hord
          grind
         intro x hx
         simp only [List.mem_cons, List.mem_nil_iff, or_false] at hx
         rcases hx with rfl | rfl | rfl | rfl | rfl <;> simp only <;> omega, Nat.le_succ _⟩
       have HKEEP : Hid (∀ X, RgR c m (vsAt c.E.T m) nv w nv1 [(g5, [.int .i64 u.kind, .int .i64 u.num, .string u.name, .slice At u.args.length ct]), (e8, [.string oP.name, .int .i64 oP.typ, .int .i64 oP.prec]), (g2, [.int .i64 nt.r.kind, .string nt.txt, .int .i64 nt.r.n, .int .i64 nt.r.at_, .int .i64 nt.r.end_, .bool nt.lay]), (g1, [.int .i64 0, .int .i64 0, .string ⟨#[]⟩, .slice none 0 0]), (w.heap.size, [.int .i64 t.r.kind, .string t.txt, .int .i64 t.r.n, .int .i64 t.r.at_, .int .i64 t.r.end_, .bool t.lay])] (w.heap.size + 1) X → X.cell? ⟨w.heap.size, 1, none⟩ = some (.string t.txt) ∧ X.cell? ⟨g5, 0, none⟩ = some (.int .i64 u.kind) ∧ X.cell? ⟨g5, 1, none⟩ = some (.int .i64 u.num) ∧ X.cell? ⟨g5, 2, none⟩ = some (.string u.name) ∧ X.cell? ⟨g5, 3, none⟩ = some (.slice At u.args.length ct) ∧ X.cell? ⟨e8, 2, none⟩ = some (.int .i64 oP.prec) ∧ RgR c m (vsAt c.E.T m) nv w nv1 [(g5, [.int .i64 u.kind, .int .i64 u.num, .string u.name, .slice At u.args.length ct]), (e8, [.string oP.name, .int .i64 oP.typ, .int .i64 oP.prec]), (g2, [.int .i64 nt.r.kind, .string nt.txt, .int .i64 nt.r.n, .int .i64 nt.r.at_, .int .i64 nt.r.end_, .bool nt.lay]), (g1, [.int .i64 0, .int .i64 0, .string ⟨#[]⟩, .slice none 0 0]), (w.heap.size, [.int .i64 t.r.kind, .string t.txt, .int .i64 t.r.n, .int .i64 t.r.at_, .int .i64 t.r.end_, .bool t.lay])] (w.heap.size + 1) X) := zq fun X h => by
        have b0 := h.wk.b.at 0 _ _ rfl
        exact ⟨(h.wk.b.at 4 _ _ rfl).c 1 _ rfl, b0.c 0 _ rfl, b0.c 1 _ rfl, b0.c 2 _ rfl, b0.c 3 _ rfl, (h.wk.b.at 1 _ _ rfl).c 2 _ rfl, h⟩
       have HOF : Hid (∀ X, (X.cell? ⟨w.heap.size, 1, none⟩ = some (.string t.txt) ∧ X.cell? ⟨g5, 0, none⟩ = some (.int .i64 u.kind) ∧ X.cell? ⟨g5, 1, none⟩ = some (.int .i64 u.num) ∧ X.cell? ⟨g5, 2, none⟩ = some (.string u.name) ∧ X.cell? ⟨g5, 3, none⟩ = some (.slice At u.args.length ct) ∧ X.cell? ⟨e8, 2, none⟩ = some (.int .i64 oP.prec) ∧ RgR c m (vsAt c.E.T m) nv w nv1 [(g5, [.int .i64 u.kind, .int .i64 u.num, .string u.name, .slice At u.args.length ct]), (e8, [.string oP.name, .int .i64 oP.typ, .int .i64 oP.prec]), (g2, [.int .i64 nt.r.kind, .string nt.txt, .int .i64 nt.r.n, .int .i64 nt.r.at_, .int .i64 nt.r.end_, .bool nt.lay]), (g1, [.int .i64 0, .int .i64 0, .string ⟨#[]⟩, .slice none 0 0]), (w.heap.size, [.int .i64 t.r.kind, .string t.txt, .int .i64 t.r.n, .int .i64 t.r.at_, .int .i64 t.r.end_, .bool t.lay])] (w.heap.size + 1) X) → RgR c m (vsAt c.E.T m) nv w nv1 [(g5, [.int .i64 u.kind, .int .i64 u.num, .string u.name, .slice At u.args.length ct]), (e8, [.string oP.name, .int .i64 oP.typ, .int .i64 oP.prec]), (g2, [.int .i64 nt.r.kind, .string nt.txt, .int .i64 nt.r.n, .int .i64 nt.r.at_, .int .i64 nt.r.end_, .bool nt.lay]), (g1, [.int .i64 0, .int .i64 0, .string ⟨#[]⟩, .slice none 0 0]), (w.heap.size, [.int .i64 t.r.kind, .string t.txt, .int .i64 t.r.n, .int .i64 t.r.at_, .int .i64 t.r.end_, .bool t.lay])] (w.heap.size + 1) X) := zq fun X h => h.2.2.2.2.2.2
       have HDR : Hid (RgR c m (vsAt c.E.T m) nv w nv1 [(g5, [.int .i64 u.kind, .int .i64 u.num, .string u.name, .slice At u.args.length ct]), (e8, [.string oP.name, .int .i64 oP.typ, .int .i64 oP.prec]), (g2, [.int .i64 nt.r.kind, .string nt.txt, .int .i64 nt.r.n, .int .i64 nt.r.at_, .int .i64 nt.r.end_, .bool nt.lay]), (g1, [.int .i64 0, .int .i64 0, .string ⟨#[]⟩, .slice none 0 0]), (w.heap.size, [.int .i64 t.r.kind, .string t.txt, .int .i64 t.r.n, .int .i64 t.r.at_, .int .i64 t.r.end_, .bool t.lay])] (w.heap.size + 1) wd.drew) := zq (HRG0.out.call (Below.refl _ _).drew)
       have HAL4 : Hid (∀ X (o : Obj), RgR c m (vsAt c.E.T m) nv w nv1 [(g5, [.int .i64 u.kind, .int .i64 u.num, .string u.name, .slice At u.args.length ct]), (e8, [.string oP.name, .int .i64 oP.typ, .int .i64 oP.prec]), (g2, [.int .i64 nt.r.kind, .string nt.txt, .int .i64 nt.r.n, .int .i64 nt.r.at_, .int .i64 nt.r.end_, .bool nt.lay]), (g1, [.int .i64 0, .int .i64 0, .string ⟨#[]⟩, .slice none 0 0]), (w.heap.size, [.int .i64 t.r.kind, .string t.txt, .int .i64 t.r.n, .int .i64 t.r.at_, .int .i64 t.r.end_, .bool t.lay])] (w.heap.size + 1) X → RgR c m (vsAt c.E.T m) nv w nv1 [(g5, [.int .i64 u.kind, .int .i64 u.num, .string u.name, .slice At u.args.length ct]), (e8, [.string oP.name, .int .i64 oP.typ, .int .i64 oP.prec]), (g2, [.int .i64 nt.r.kind, .string nt.txt, .int .i64 nt.r.n, .int .i64 nt.r.at_, .int .i64 nt.r.end_, .bool nt.lay]), (g1, [.int .i64 0, .int .i64 0, .string ⟨#[]⟩, .slice none 0 0]), (w.heap.size, [.int .i64 t.r.kind, .string t.txt, .int .i64 t.r.n, .int .i64 t.r.at_, .int .i64 t.r.end_, .bool t.lay])] (w.heap.size + 1) (X.alloc o)) := zq fun X o h => h.call ((Below.refl _ _).alloc (Nat.le_refl _) o)
       have HAD : Hid (∀ X (o : Obj), RgR c m (vsAt c.E.T m) nv w nv1 [(g5, [.int .i64 u.kind, .int .i64 u.num, .string u.name, .slice At u.args.length ct]), (e8, [.string oP.name, .int .i64 oP.typ, .int .i64 oP.prec]), (g2, [.int .i64 nt.r.kind, .string nt.txt, .int .i64 nt.r.n, .int .i64 nt.r.at_, .int .i64 nt.r.end_, .bool nt.lay]), (g1, [.int .i64 0, .int .i64 0, .string ⟨#[]⟩, .slice none 0 0]), (w.heap.size, [.int .i64 t.r.kind, .string t.txt, .int .i64 t.r.n, .int .i64 t.r.at_, .int .i64 t.r.end_, .bool t.lay])] (w.heap.size + 1) X → RgR c m (vsAt c.E.T m) nv w nv1 [(g5, [.int .i64 u.kind, .int .i64 u.num, .string u.name, .slice At u.args.length ct]), (e8, [.string oP.name, .int .i64 oP.typ, .int .i64 oP.prec]), (g2, [.int .i64 nt.r.kind, .string nt.txt, .int .i64 nt.r.n, .int .i64 nt.r.at_, .int .i64 nt.r.end_, .bool nt.lay]), (g1, [.int .i64 0, .int .i64 0, .string ⟨#[]⟩, .slice none 0 0]), (w.heap.size, [.int .i64 t.r.kind, .string t.txt, .int .i64 t.r.n, .int .i64 t.r.at_, .int .i64 t.r.end_, .bool t.lay])] (w.heap.size + 1) (X.alloc o).drew) := zq fun X o h => (h.call ((Below.refl _ _).alloc (Nat.le_refl _) o)).call (Below.refl _ _).drew
       have HP4 : Hid (∀ X a b c' d, RgR c m (vsAt c.E.T m) nv w nv1 [(g5, [.int .i64 u.kind, .int .i64 u.num, .string u.name, .slice At u.args.length ct]), (e8, [.string oP.name, .int .i64 oP.typ, .int .i64 oP.prec]), (g2, [.int .i64 nt.r.kind, .string nt.txt, .int .i64 nt.r.n, .int .i64 nt.r.at_, .int .i64 nt.r.end_, .bool nt.lay]), (g1, [.int .i64 0, .int .i64 0, .string ⟨#[]⟩, .slice none 0 0]), (w.heap.size, [.int .i64 t.r.kind, .string t.txt, .int .i64 t.r.n, .int .i64 t.r.at_, .int .i64 t.r.end_, .bool t.lay])] (w.heap.size + 1) X → RgR c m (vsAt c.E.T m) nv w nv1 [(g5, [.int .i64 u.kind, .int .i64 u.num, .string u.name, .slice At u.args.length ct]), (e8, [.string oP.name, .int .i64 oP.typ, .int .i64 oP.prec]), (g2, [.int .i64 nt.r.kind, .string nt.txt, .int .i64 nt.r.n, .int .i64 nt.r.at_, .int .i64 nt.r.end_, .bool nt.lay]), (g1, [.int .i64 0, .int .i64 0, .string ⟨#[]⟩, .slice none 0 0]), (w.heap.size, [.int .i64 t.r.kind, .string t.txt, .int .i64 t.r.n, .int .i64 t.r.at_, .int .i64 t.r.end_, .bool t.lay])] (w.heap.size + 1) ((((X.setCell ⟨w.heap.size + 1, 0, none⟩ a).setCell ⟨w.heap.size + 1, 1, none⟩ b).setCell ⟨w.heap.size + 1, 2, none⟩ c').setCell ⟨w.heap.size + 1, 3, none⟩ d)) := zq fun X a b c' d h => h.put4 a b c' d
       go_region_held3 (fun X => X.cell? ⟨w.heap.size, 1, none⟩ = some (.string t.txt) ∧ X.cell? ⟨g5, 0, none⟩ = some (.int .i64 u.kind) ∧ X.cell? ⟨g5, 1, none⟩ = some (.int .i64 u.num) ∧ X.cell? ⟨g5, 2, none⟩ = some (.string u.name) ∧ X.cell? ⟨g5, 3, none⟩ = some (.slice At u.args.length ct) ∧ X.cell? ⟨e8, 2, none⟩ = some (.int .i64 oP.prec) ∧ RgR c m (vsAt c.E.T m) nv w nv1 [(g5, [.int .i64 u.kind, .int .i64 u.num, .string u.name, .slice At u.args.length ct]), (e8, [.string oP.name, .int .i64 oP.typ, .int .i64 oP.prec]), (g2, [.int .i64 nt.r.kind, .string nt.txt, .int .i64 nt.r.n, .int .i64 nt.r.at_, .int .i64 nt.r.end_, .bool nt.lay]), (g1, [.int .i64 0, .int .i64 0, .string ⟨#[]⟩, .slice none 0 0]), (w.heap.size, [.int .i64 t.r.kind, .string t.txt, .int .i64 t.r.n, .int .i64 t.r.at_, .int .i64 t.r.end_, .bool t.lay])] (w.heap.size + 1) X)
        (first
         | with_reducible exact HKEEP.out _ HDR.out
         | with_reducible exact HKEEP.out _ (RgR.call (HOF.out _ (by with_reducible assumption)) (by with_reducible assumption))
         | with_reducible exact HKEEP.out _ (HAL4.out _ _ (HOF.out _ (by with_reducible assumption)))
         | with_reducible exact HKEEP.out _ (HAD.out _ _ HRG0.out)
         | with_reducible exact HKEEP.out _ (HAD.out _ _ (HOF.out _ (by with_reducible assumption)))
         | with_reducible exact HKEEP.out _ (HP4.out _ _ _ _ _ (HOF.out _ (by with_reducible assumption)))
         | fail)
        (first
         | (go_at_call 97; (with_reducible refine (HRS.out _ _ _ _).mono ?_); rintro e wS ⟨rfl, hBS⟩; (have hRS := RgR.call (HOF.out _ (by with_reducible assumption)) hBS); (obtain ⟨q0, q1, q2, q3, hbk⟩ := hRS.rb); have r0 := hbk.c 0 _ rfl; have r1 := hbk.c 1 _ rfl; have r2 := hbk.c 2 _ rfl; have r3 := hbk.c 3 _ rfl; have f0 := hbk.f 0; have f1 := hbk.f 1; have f2 := hbk.f 2; have f3 := hbk.f 3; have hlt := hbk.lt)
         | fail)
       all_goals
        have hX := ((Below.refl wd.heap.size wd).alloc (Nat.le_refl _) (.cells #[.int .i64 u.kind, .int .i64 u.num, .string u.name, .slice At u.args.length ct] 30)).drew.trans (hBS.mono (by simp [World.drew]))
        have hz := (HQb.out.call hX).put4 4 rfl (.int .i64 3) (.int .i64 0) (.string t.txt) (.slice (some ⟨wd.heap.size, 0, none⟩) 1 1) (Nat.le_succ _)
        have hrow := Trm.row HQb.out.p HQb.out.s.size (F := [w.heap.size + 1]) (by intro b hb; rw [List.mem_singleton] at hb; subst hb; exact HQb.out.b.lt 4 rfl) 30 [(u, At, ct)] (by simp [maxLen]) (by intro q hq; rw [List.mem_singleton] at hq; subst hq; exact HTb.out)
        have hrow2 := (hrow.call (Below.refl _ _).drew).call hBS
        have HTZ := zq (hrow2.put (g := w.heap.size + 1) (by simp) (fun b hb => put4_block _ _ (.int .i64 3) (.int .i64 0) (.string t.txt) (.slice (some ⟨wd.heap.size, 0, none⟩) 1 1) b hb) (by simp))
        have HZ := zq hz
        clear hX hz hrow hrow2 hRS hBS cc HQb HTb HRG0 HKEEP HOF HDR HAL4 HAD HP4
        go_wp2_with fail
        refine bodyPost_ret (v := .tuple #[.agg #[.int .i64 3, .int .i64 0, .string t.txt, .slice (some ⟨wd.heap.size, 0, none⟩) 1 1], .int .i64 oP.prec]) (by simp [results, Tryz.results144, go_sem, r0, r1, r2, r3, hlt]) rfl ?_
        rw [HV.out]
        exact ⟨by have := HNM.out; have := HNI.out; omega, _, _, nv1, rfl, HZ.out.p, HZ.out.s, HTZ.out.out⟩
end Go.Proofs.YtbojljpldcijgaaGreat
