/- Parts of the proof. -/
import Derived.Test.YtbojljpldcijgaaGreatH12
import Derived.Shelf.SlLaysF0
import Derived.Ground.SlsfProg
import Derived.Test.YtbojljpldcijgaaGreatProg
import Derived.Test.YtbojljpldcijgaaGreatH01
import Derived.Laws.Rows
import Derived.Laws.Tables
import Derived.Laws.CopyOwn
import Derived.Shelf.SlSortCmp.WholeK
import Derived.Laws.OwnMore
import Derived.Laws.AppendOwnNone
import Derived.Lib.SliceRun
namespace Go.Proofs.YtbojljpldcijgaaGreat
open Go.RowKit Hb
set_option maxRecDepth 100000
set_option linter.unusedSimpArgs false
theorem BOut.bad {c:PC} {n:Nat} {nv:Value} {w0 w:World} {R:RR (Tm×Nat)} {k:Nat} {e:Ending} (hR:R=.error k) (h:Bad c nv w0 k e w):BOut c n nv w0 R e w:=by rw [hR];exact h
set_option maxHeartbeats 3200000 in
theorem rd_brackets {c:PC} {S:PT} {k n:Nat} {nv:Value} {w:World} (hS:TrmOk c S k) (hk:k≤n) (p:PsAt c n (vsAt c.E.T n) nv w) (s:ByteArray) (hs:s.data.toList=[40]∨s.data.toList=[91]∨s.data.toList=[123]) :
  Calls Tryz.prog 142 #[.pointer (some ⟨c.P,0,none⟩),.string s] w (BOut c n nv w (brkG c.E S s.data.toList n)):=by
 obtain ⟨R,HR⟩:=lz (brkG c.E S s.data.toList n)
 rw [←HR.out]
 have HQ0:=zq ((Wk.start p).new [.int .i64 0,.int .i64 0,.string ⟨#[]⟩,.slice none 0 0] 30 rfl)
 have HS:=zq (fun (most:Int) (i:Nat) nv' W (hi:n≤i) (h:PsAt c i (vsAt c.E.T i) nv' W)=>hS most i nv' W (Nat.le_trans hk hi) h)
 have HRW:=zq (fun nv' W (h:PsAt c n (vsAt c.E.T n) nv' W)=>rd_row hS hk h)
 have HCP:=zq (fun (f:ByteArray) nv' W (h:PsAt c (n+1) (vsAt c.E.T (n+1)) nv' W)=>rd_compound hS (by omega:k≤n+1+1) h f)
 have HAT:=zq (fun (f:ByteArray) h W=>rd_atom f h W)
 have HRS:=zq (fun (f:ByteArray) (A:Option Addr) (m cap:Nat) (W:World)=>rd_structure f A m cap W)
 clear p hS hk
 rcases hs with hs | hs | hs
 ·skip
  have x0:(s.toList==[40])=true:=by rw [tl_dataR,hs];rfl
  have x1:(s.toList==[91])=false:=by rw [tl_dataR,hs];rfl
  have x2:(s.toList==[123])=false:=by rw [tl_dataR,hs];rfl
  have HE:Hid (R=match S 1200 n with | .error e=>.error e | .ok (t,_,m)=>needG c.E [41] m (t)):=zq (by rw [HR.out,hs];rfl)
  clear hs HR HRW HCP
  rcases hx:S 1200 n with e | ⟨t,pr,m⟩
  ·skip
   have HV:Hid (R=.error e):=zq (by rw [HE.out,hx])
   have HX:∀W,PsAt c n (vsAt c.E.T n) nv W→Calls Tryz.prog 56 #[.pointer (some ⟨c.P,0,none⟩),.int .i64 1200] W (TOut c n nv W (.error e)):=fun W h=>by rw [←hx];exact HS.out 1200 n nv W (Nat.le_refl _) h
   have HX:=zq HX
   clear hx
   go_enter Tryz.func142,Tryz.ntmps142
   go_wp2_with fail
   refine (HX.out _ HQ0.out.p).mono ?_;rintro e w9 ⟨rfl,hB9⟩
   exact ⟨rfl,BOut.bad HV.out ⟨rfl,HQ0.out.fall hB9⟩⟩
  ·skip
   have HX:∀W,PsAt c n (vsAt c.E.T n) nv W→Calls Tryz.prog 56 #[.pointer (some ⟨c.P,0,none⟩),.int .i64 1200] W (TOut c n nv W (.ok (t,pr,m))):=fun W h=>by rw [←hx];exact HS.out 1200 n nv W (Nat.le_refl _) h
   have HE2:Hid (R=needG c.E [41] m (t)):=zq (by rw [HE.out,hx])
   have HX:=zq HX
   clear hx HE HS
   go_enter Tryz.func142,Tryz.ntmps142
   go_wp2_with fail
   refine (HX.out _ HQ0.out.p).mono ?_;rintro e w1 ⟨hnm,At,ct,nv1,rfl,hp,hs,ht⟩
   have HT0:=zq (Trm.sub (w0:=w) (F:=[w.heap.size]) ht HQ0.out.s.size (by intro b hb;rw [List.mem_singleton] at hb;subst hb;exact HQ0.out.b.lt 0 rfl))
   have HNM:=zq hnm
   clear ht hnm
   have HQ2:=zq (HQ0.out.step hp hs)
   clear HQ0
   clear hp hs
   clear HX
   have HQ3:=zq (HQ2.out.new [.int .i64 t.kind,.int .i64 t.num,.string t.name,.slice At t.args.length ct] 30 (g:=w1.heap.size) (by simp))
   have HT0_3:=zq (HT0.out.new (.cells #[.int .i64 t.kind,.int .i64 t.num,.string t.name,.slice At t.args.length ct] 30) (g:=w1.heap.size) (by simp))
   clear HQ2 HT0
   unfold tmV
   cases hc:isP (c.E.at m) [41]
   ·skip
    have HV:Hid (R=.error m):=zq (by rw [HE2.out];unfold needG;rw [hc];rfl)
    go_wp2_with fail
    refine (rd_need_no HQ3.out.p ⟨#[41]⟩ hc).mono ?_;rintro e w9 ⟨rfl,hB9⟩
    exact ⟨rfl,BOut.bad HV.out ⟨rfl,HQ3.out.fall hB9⟩⟩
   have HV:Hid (R=.ok (t,m+1)):=zq (by rw [HE2.out];unfold needG;rw [hc];rfl)
   have HV1:=zq (isV_punct hc)
   clear HE2
   go_wp2_with fail
   refine (rd_need_yes HQ3.out.p ⟨#[41]⟩ hc).mono ?_;rintro e w4 ⟨rfl,hp,hs⟩
   have HQ5:=zq (HQ3.out.step (PsAt.skip HV1.out HQ3.out.p.n1 hp) hs)
   have HT0_5:=zq (HT0_3.out.step hs)
   clear HQ3 HT0_3
   clear hp hs
   clear hc HV1
   have cc6:=HQ5.out.b.all
   simp only [PC.cells,List.cons_append,List.nil_append,List.append_nil,bksAll,bkAll,Nat.zero_add,Nat.reduceAdd,and_true] at cc6
   go_wp2_with fail
   have hz:=HQ5.out.put4 1 rfl (.int .i64 t.kind) (.int .i64 t.num) (.string t.name) (.slice At t.args.length ct) (Nat.le_refl _)
   have ht:=HT0_5.out.put (g:=w.heap.size) (by simp) (fun b hb=>put4_block _ _ (.int .i64 t.kind) (.int .i64 t.num) (.string t.name) (.slice At t.args.length ct) b hb) (by simp)
   refine bodyPost_ret (v:=.agg #[.int .i64 t.kind,.int .i64 t.num,.string t.name,.slice At t.args.length ct]) (by simp [results,Tryz.results142,go_sem,cc6]) rfl ?_
   rw [HV.out]
   exact ⟨by have:=HNM.out;omega,At,ct,nv1,rfl,hz.p,hz.s,ht.out⟩
 ·cases hcl:isP (c.E.at n) [93]
  rotate_left
  ·skip
   have x0:(s.toList==[40])=false:=by rw [tl_dataR,hs];rfl
   have x1:(s.toList==[91])=true:=by rw [tl_dataR,hs];rfl
   have x2:(s.toList==[123])=false:=by rw [tl_dataR,hs];rfl
   have HE:Hid (R=emptyG c.E S ⟨#[91,93]⟩ (n+1)):=zq (by rw [HR.out,hs];unfold brkG;simp [hcl])
   have HM:=zq (HQ0.out.p.more (isP_kind hcl))
   have HV1:=zq (isV_punct hcl)
   clear hs HR HS HRW HRS
   rcases hx:compG c.E S ⟨#[91,93]⟩ (n+1) with e | ⟨ou,m⟩
   ·skip
    have HV:Hid (R=.error e):=zq (by rw [HE.out];unfold emptyG;rw [hx])
    go_enter Tryz.func142,Tryz.ntmps142
    go_wp2_with fail
    refine (rd_take_yes HQ0.out.p ⟨#[93]⟩ hcl).mono ?_;rintro e w1 ⟨rfl,hp,hs⟩
    have HQ2:=zq (HQ0.out.step (PsAt.skip HV1.out HQ0.out.p.n1 hp) hs)
    clear HQ0
    clear hp hs
    have hX:=HCP.out ⟨#[91,93]⟩ nv _ HQ2.out.p
    rw [hx] at hX
    have HX:=zq hX
    clear hX hx
    go_wp2_with fail
    refine (HX.out).mono ?_;rintro e w9 ⟨rfl,hB9⟩
    exact ⟨rfl,BOut.bad HV.out ⟨rfl,HQ2.out.fall hB9⟩⟩
   ·skip
    go_enter Tryz.func142,Tryz.ntmps142
    go_wp2_with fail
    refine (rd_take_yes HQ0.out.p ⟨#[93]⟩ hcl).mono ?_;rintro e w1 ⟨rfl,hp,hs⟩
    have HQ2:=zq (HQ0.out.step (PsAt.skip HV1.out HQ0.out.p.n1 hp) hs)
    clear HQ0
    clear hp hs
    have hX:=HCP.out ⟨#[91,93]⟩ nv _ HQ2.out.p
    rw [hx] at hX
    have HX:=zq hX
    clear hX
    rcases ou with _ | u
    ·skip
     have HV:Hid (R=.ok (atT ⟨#[91,93]⟩,m)):=zq (by rw [HE.out];unfold emptyG;rw [hx])
     clear hx HE
     go_wp2_with fail
     refine (HX.out).mono ?_;rintro e w3 ⟨hmn,rfl,hp,hs⟩
     have HQ4:=zq (HQ2.out.step hp hs)
     clear HQ2
     clear hp hs
     have HMN:=zq hmn
     clear hmn HX
     have HQ5:=zq (HQ4.out.new [.int .i64 0,.int .i64 0,.string ⟨#[]⟩,.slice none 0 0] 30 (g:=w3.heap.size) (by simp))
     clear HQ4
     have cc6:=HQ5.out.b.all
     simp only [PC.cells,List.cons_append,List.nil_append,List.append_nil,bksAll,bkAll,Nat.zero_add,Nat.reduceAdd,and_true] at cc6
     go_wp2_with fail
     refine (HAT.out ⟨#[91,93]⟩ (by decide) _).mono ?_;rintro e w7 ⟨Aa,ca,rfl,hB⟩
     have HQ8:=zq (HQ5.out.call hB)
     clear HQ5 cc6
     clear hB 
     have cc9:=HQ8.out.b.all
     simp only [PC.cells,List.cons_append,List.nil_append,List.append_nil,bksAll,bkAll,Nat.zero_add,Nat.reduceAdd,and_true] at cc9
     go_wp2_with fail
     have hz:=HQ8.out.put4 1 rfl (.int .i64 2) (.int .i64 0) (.string ⟨#[91,93]⟩) (.slice Aa 0 ca) (Nat.le_refl _)
     refine bodyPost_ret (v:=.agg #[.int .i64 2,.int .i64 0,.string ⟨#[91,93]⟩,.slice Aa 0 ca]) (by simp [results,Tryz.results142,go_sem,cc9]) rfl ?_
     rw [HV.out]
     have hmn:=HMN.out
     subst hmn
     exact ⟨Nat.lt_succ_self _,Aa,ca,nv,rfl,hz.p,hz.s,TmsK.nil⟩
    ·skip
     have HV:Hid (R=.ok (u,m)):=zq (by rw [HE.out];unfold emptyG;rw [hx])
     clear hx HE
     go_wp2_with fail
     refine (HX.out).mono ?_;rintro e w3 ⟨hnm,At,ct,nv1,rfl,hp,hs,ht⟩
     have HT0:=zq (Trm.sub (w0:=w) (F:=[w.heap.size]) ht HQ2.out.s.size (by intro b hb;rw [List.mem_singleton] at hb;subst hb;exact HQ2.out.b.lt 0 rfl))
     have HNM:=zq hnm
     clear ht hnm
     have HQ4:=zq (HQ2.out.step hp hs)
     clear HQ2
     clear hp hs
     clear HX
     unfold tmV
     have HQ5:=zq (HQ4.out.new [.int .i64 u.kind,.int .i64 u.num,.string u.name,.slice At u.args.length ct] 30 (g:=w3.heap.size) (by simp))
     have HT0_5:=zq (HT0.out.new (.cells #[.int .i64 u.kind,.int .i64 u.num,.string u.name,.slice At u.args.length ct] 30) (g:=w3.heap.size) (by simp))
     clear HQ4 HT0
     have cc6:=HQ5.out.b.all
     simp only [PC.cells,List.cons_append,List.nil_append,List.append_nil,bksAll,bkAll,Nat.zero_add,Nat.reduceAdd,and_true] at cc6
     go_wp2_with fail
     have hz:=HQ5.out.put4 1 rfl (.int .i64 u.kind) (.int .i64 u.num) (.string u.name) (.slice At u.args.length ct) (Nat.le_refl _)
     have ht:=HT0_5.out.put (g:=w.heap.size) (by simp) (fun b hb=>put4_block _ _ (.int .i64 u.kind) (.int .i64 u.num) (.string u.name) (.slice At u.args.length ct) b hb) (by simp)
     refine bodyPost_ret (v:=.agg #[.int .i64 u.kind,.int .i64 u.num,.string u.name,.slice At u.args.length ct]) (by simp [results,Tryz.results142,go_sem,cc6]) rfl ?_
     rw [HV.out]
     exact ⟨by have:=HNM.out;omega,At,ct,nv1,rfl,hz.p,hz.s,ht.out⟩
  ·skip
   have x0:(s.toList==[40])=false:=by rw [tl_dataR,hs];rfl
   have x1:(s.toList==[91])=true:=by rw [tl_dataR,hs];rfl
   have x2:(s.toList==[123])=false:=by rw [tl_dataR,hs];rfl
   have HE:Hid (R=listG c.E S n):=zq (by rw [HR.out,hs];unfold brkG;simp [hcl])
   have hcur:=zq hcl
   clear hcl hs HR HCP HRS
   rcases hx:rowX c.E S n with e | ⟨l,m⟩
   ·skip
    have HV:Hid (R=.error e):=zq (by rw [HE.out];unfold listG;rw [hx])
    go_enter Tryz.func142,Tryz.ntmps142
    go_wp2_with fail
    refine (rd_take_no HQ0.out.p ⟨#[93]⟩ hcur.out).mono ?_;rintro e w1 ⟨rfl,hB⟩
    have HQ2:=zq (HQ0.out.call hB)
    clear HQ0
    clear hB 
    have hX:=HRW.out nv _ HQ2.out.p
    rw [hx] at hX
    have HX:=zq hX
    clear hX hx
    go_wp2_with fail
    refine (HX.out).mono ?_;rintro e w9 ⟨rfl,hB9⟩
    exact ⟨rfl,BOut.bad HV.out ⟨rfl,HQ2.out.fall hB9⟩⟩
   ·skip
    have HE2:Hid (R=match tailG c.E S m with | .error e=>.error e | .ok (t,i)=>needG c.E [93] i (lsT l t)):=zq (by rw [HE.out];unfold listG;rw [hx];rfl)
    go_enter Tryz.func142,Tryz.ntmps142
    go_wp2_with fail
    refine (rd_take_no HQ0.out.p ⟨#[93]⟩ hcur.out).mono ?_;rintro e w1 ⟨rfl,hB⟩
    have HQ2:=zq (HQ0.out.call hB)
    clear HQ0
    clear hB 
    have hX:=HRW.out nv _ HQ2.out.p
    rw [hx] at hX
    have HX:=zq hX
    clear hX hx HRW HE hcur
    go_wp2_with fail
    refine (HX.out).mono ?_;rintro e w3 ⟨hnm,A,cap,nv1,rfl,hp,hs,ht⟩
    have HL0:=zq (Trm.sub (w0:=w) (F:=[w.heap.size]) ht HQ2.out.s.size (by intro b hb;rw [List.mem_singleton] at hb;subst hb;exact HQ2.out.b.lt 0 rfl))
    have HNM:=zq hnm
    clear ht hnm
    have HQ4:=zq (HQ2.out.step hp hs)
    clear HQ2
    clear hp hs
    go_wp2_with fail
    refine (HAT.out ⟨#[91,93]⟩ (by decide) _).mono ?_;rintro e w5 ⟨Aa,ca,rfl,hB⟩
    have HQ6:=zq (HQ4.out.call hB)
    have HL0_6:=zq (HL0.out.call hB)
    clear HQ4 HL0
    clear hB HX
    obtain ⟨tb,HTB⟩:=lz (w5.heap.size)
    have HQ7:=zq (HQ6.out.new [.int .i64 2,.int .i64 0,.string ⟨#[91,93]⟩,.slice Aa 0 ca] 30 (g:=w5.heap.size) (by simp))
    have HL0_7:=zq (HL0_6.out.new (.cells #[.int .i64 2,.int .i64 0,.string ⟨#[91,93]⟩,.slice Aa 0 ca] 30) (g:=w5.heap.size) (by simp))
    clear HQ6 HL0_6
    have HTL:Hid (w.heap.size≤tb):=zq (by rw [HTB.out];have:=HQ7.out.b.lt 1 rfl;have:=HQ7.out.s.size;simp at *;omega)
    go_upto_region 16 with fail
    obtain ⟨wt,HWT⟩:=lz ((w5.alloc (.cells #[.int .i64 2,.int .i64 0,.string ⟨#[91,93]⟩,.slice Aa 0 ca] 30)))
    rw [←HWT.out] at HQ7 HL0_7 ⊢
    rw [←HTB.out] at HQ7 HL0_7 ⊢
    clear HWT HTB HAT
    cases hb:isP (c.E.at m) [124]
    ·skip
     have HE3:Hid (R=needG c.E [93] m (lsT l nilT)):=zq (by rw [HE2.out];unfold tailG;rw [hb];rfl)
     clear HE2 HS
     go_wp2_with fail
     refine (rd_take_no HQ7.out.p ⟨#[124]⟩ hb).mono ?_;rintro e w8 ⟨rfl,hB⟩
     have HQ9:=zq (HQ7.out.call hB)
     have HL0_9:=zq (HL0_7.out.call hB)
     clear HQ7 HL0_7
     clear hB hb
     cases hd:isP (c.E.at m) [93]
     ·skip
      have HV:Hid (R=.error m):=zq (by rw [HE3.out];unfold needG;rw [hd];rfl)
      go_wp2_with fail
      refine (rd_need_no HQ9.out.p ⟨#[93]⟩ hd).mono ?_;rintro e w9 ⟨rfl,hB9⟩
      exact ⟨rfl,BOut.bad HV.out ⟨rfl,HQ9.out.fall hB9⟩⟩
     have HV:Hid (R=.ok (lsT l nilT,m+1)):=zq (by rw [HE3.out];unfold needG;rw [hd];rfl)
     have HV1:=zq (isV_punct hd)
     clear HE3
     go_wp2_with fail
     refine (rd_need_yes HQ9.out.p ⟨#[93]⟩ hd).mono ?_;rintro e w10 ⟨rfl,hp,hs⟩
     have HQ11:=zq (HQ9.out.step (PsAt.skip HV1.out HQ9.out.p.n1 hp) hs)
     have HL0_11:=zq (HL0_9.out.step hs)
     clear HQ9 HL0_9
     clear hp hs
     clear hd HV1
     have cc12:=HQ11.out.b.all
     simp only [PC.cells,List.cons_append,List.nil_append,List.append_nil,bksAll,bkAll,Nat.zero_add,Nat.reduceAdd,and_true] at cc12
     have HLS:=zq (rd_list (fun b=>c.new nv1 w w10 b∧b ∉ [tb,w.heap.size]) l A l.length cap nilT Aa ca w10 rfl (fun b hb=>hb.1.2.1) HL0_11.out TmsK.nil)
     rw [show tmV nilT Aa ca=.agg #[.int .i64 2,.int .i64 0,.string ⟨#[91,93]⟩,.slice Aa 0 ca] from rfl] at HLS
     obtain ⟨RT,HRT⟩:=lz (lsT l nilT)
     rw [←HRT.out] at HLS HV
     clear HRT
     go_wp2_with fail
     refine HLS.out.mono ?_;rintro e w9 ⟨A9,c9,rfl,hB9,hT9⟩
     have hT9':TmsK (fun b=>c.new nv1 w w9 b∧b ∉ [w.heap.size]) w9 A9 RT.args:=hT9.keep (fun _ _=>rfl) fun b hb=>by
      rcases hb with hb | hb
      ·exact ⟨⟨hb.1.1,Nat.lt_of_lt_of_le hb.1.2.1 hB9.size,hb.1.2.2⟩,fun e=>hb.2 (by rw [List.mem_singleton] at e;rw [e];simp)⟩
      ·have h1:=HQ11.out.s.size
       have h2:=HQ11.out.b.lt 1 rfl
       exact ⟨⟨by omega,hb.2,fun hm=>by have:=HQ11.out.p.lts hm;omega⟩,fun e=>by rw [List.mem_singleton] at e;omega⟩
     have HT9:=zq (show Trm c nv1 w w9 [w.heap.size] A9 RT.args from hT9')
     have HQ9:=zq (HQ11.out.call hB9)
     clear hB9 hT9 hT9' HLS HQ11 HL0_11 cc12
     unfold tmV
     have cc13:=HQ9.out.b.all
     simp only [PC.cells,List.cons_append,List.nil_append,List.append_nil,bksAll,bkAll,Nat.zero_add,Nat.reduceAdd,and_true] at cc13
     go_wp2_with fail
     have hz:=HQ9.out.put4 1 rfl (.int .i64 RT.kind) (.int .i64 RT.num) (.string RT.name) (.slice A9 RT.args.length c9) (Nat.le_refl _)
     have ht:=HT9.out.put (g:=w.heap.size) (by simp) (fun b hb=>put4_block _ _ (.int .i64 RT.kind) (.int .i64 RT.num) (.string RT.name) (.slice A9 RT.args.length c9) b hb) (by simp)
     refine bodyPost_ret (v:=.agg #[.int .i64 RT.kind,.int .i64 RT.num,.string RT.name,.slice A9 RT.args.length c9]) (by simp [results,Tryz.results142,go_sem,cc13]) rfl ?_
     rw [HV.out]
     exact ⟨by have:=HNM.out;omega,A9,c9,nv1,rfl,hz.p,hz.s,ht.out⟩
    ·skip
     have HE3:Hid (R=match S 999 (m+1) with | .error e=>.error e | .ok (t,_,i)=>needG c.E [93] i (lsT l t)):=zq (by rw [HE2.out];unfold tailG;rw [hb,if_pos rfl];cases S 999 (m+1) <;> rfl)
     have HV1:=zq (isV_punct hb)
     clear HE2
     go_wp2_with fail
     refine (rd_take_yes HQ7.out.p ⟨#[124]⟩ hb).mono ?_;rintro e w8 ⟨rfl,hp,hs⟩
     have HQ9:=zq (HQ7.out.step (PsAt.skip HV1.out HQ7.out.p.n1 hp) hs)
     have HL0_9:=zq (HL0_7.out.step hs)
     clear HQ7 HL0_7
     clear hp hs
     have HX:=zq (HS.out 999 (m+1) nv1 _ (by have:=HNM.out;omega) HQ9.out.p)
     clear hb HV1 HS
     rcases hx:S 999 (m+1) with e | ⟨t,pr,i⟩
     ·skip
      rw [hx] at HX HE3
      clear hx
      have HV:Hid (R=.error e):=HE3
      go_wp2_with fail
      refine (HX.out).mono ?_;rintro e w9 ⟨rfl,hB9⟩
      exact ⟨rfl,BOut.bad HV.out ⟨rfl,HQ9.out.fall hB9⟩⟩
     ·skip
      rw [hx] at HX HE3
      clear hx
      have HE4:Hid (R=needG c.E [93] i (lsT l t)):=HE3
      clear HE3
      go_wp2_with fail
      refine (HX.out).mono ?_;rintro e w10 ⟨hnm,At,ct,nv2,rfl,hp,hs,ht⟩
      have HT0:=zq (Trm.sub (w0:=w) (F:=[tb,w.heap.size]) ht HQ9.out.s.size (by intro b hb;simp only [List.mem_cons,List.mem_nil_iff,or_false] at hb;rcases hb with rfl|rfl;exact HQ9.out.b.lt 0 rfl;exact HQ9.out.b.lt 1 rfl))
      have HNM2:=zq (Nat.lt_trans HNM.out (Nat.lt_of_succ_lt hnm))
      clear ht hnm HNM HX
      have HNM:=HNM2
      clear HNM2
      have HQ11:=zq (HQ9.out.step hp hs)
      have HL0_11:=zq (HL0_9.out.step hs)
      clear HQ9 HL0_9
      clear hp hs
      unfold tmV
      have cc12:=HQ11.out.b.all
      simp only [PC.cells,List.cons_append,List.nil_append,List.append_nil,bksAll,bkAll,Nat.zero_add,Nat.reduceAdd,and_true] at cc12
      go_upto_region 18 with fail
      have hz:=HQ11.out.put4 0 rfl (.int .i64 t.kind) (.int .i64 t.num) (.string t.name) (.slice At t.args.length ct) HTL.out
      have hl:=HL0_11.out.put (g:=tb) (by simp) (fun b hb=>put4_block _ _ (.int .i64 t.kind) (.int .i64 t.num) (.string t.name) (.slice At t.args.length ct) b hb) (by simp)
      have ht:=HT0.out.put (g:=tb) (by simp) (fun b hb=>put4_block _ _ (.int .i64 t.kind) (.int .i64 t.num) (.string t.name) (.slice At t.args.length ct) b hb) (by simp)
      obtain ⟨wu,HWU⟩:=lz ((((((w10.setCell ⟨tb,0,none⟩ (.int .i64 t.kind)).setCell ⟨tb,1,none⟩ (.int .i64 t.num)).setCell ⟨tb,2,none⟩ (.string t.name)).setCell ⟨tb,3,none⟩ (.slice At t.args.length ct))))
      rw [←HWU.out] at hz hl ht ⊢
      have HQu:Hid (Wk c i (vsAt c.E.T i) nv w nv2 wu [(tb,[.int .i64 t.kind,.int .i64 t.num,.string t.name,.slice At t.args.length ct]),(w.heap.size,[.int .i64 0,.int .i64 0,.string ⟨#[]⟩,.slice none 0 0])]):=zq hz
      have HL0_u:=zq hl
      have HT0_u:=zq ht
      clear hz hl ht HWU HL0_11 HT0 HQ11 cc12
      cases hd:isP (c.E.at i) [93]
      ·skip
       have HV:Hid (R=.error i):=zq (by rw [HE4.out];unfold needG;rw [hd];rfl)
       go_wp2_with fail
       refine (rd_need_no HQu.out.p ⟨#[93]⟩ hd).mono ?_;rintro e w9 ⟨rfl,hB9⟩
       exact ⟨rfl,BOut.bad HV.out ⟨rfl,HQu.out.fall hB9⟩⟩
      have HV:Hid (R=.ok (lsT l t,i+1)):=zq (by rw [HE4.out];unfold needG;rw [hd];rfl)
      have HV1:=zq (isV_punct hd)
      clear HE4
      go_wp2_with fail
      refine (rd_need_yes HQu.out.p ⟨#[93]⟩ hd).mono ?_;rintro e w13 ⟨rfl,hp,hs⟩
      have HQ14:=zq (HQu.out.step (PsAt.skip HV1.out HQu.out.p.n1 hp) hs)
      have HL0_14:=zq (HL0_u.out.step hs)
      have HT0_14:=zq (HT0_u.out.step hs)
      clear HQu HL0_u HT0_u
      clear hp hs
      clear hd HV1
      have cc15:=HQ14.out.b.all
      simp only [PC.cells,List.cons_append,List.nil_append,List.append_nil,bksAll,bkAll,Nat.zero_add,Nat.reduceAdd,and_true] at cc15
      have HLS:=zq (rd_list (fun b=>c.new nv2 w w13 b∧b ∉ [tb,w.heap.size]) l A l.length cap t At ct w13 rfl (fun b hb=>hb.1.2.1) HL0_14.out HT0_14.out)
      unfold tmV at HLS
      obtain ⟨RT,HRT⟩:=lz (lsT l t)
      rw [←HRT.out] at HLS HV
      clear HRT
      go_wp2_with fail
      refine HLS.out.mono ?_;rintro e w9 ⟨A9,c9,rfl,hB9,hT9⟩
      have hT9':TmsK (fun b=>c.new nv2 w w9 b∧b ∉ [w.heap.size]) w9 A9 RT.args:=hT9.keep (fun _ _=>rfl) fun b hb=>by
       rcases hb with hb | hb
       ·exact ⟨⟨hb.1.1,Nat.lt_of_lt_of_le hb.1.2.1 hB9.size,hb.1.2.2⟩,fun e=>hb.2 (by rw [List.mem_singleton] at e;rw [e];simp)⟩
       ·have h1:=HQ14.out.s.size
        have h2:=HQ14.out.b.lt 1 rfl
        exact ⟨⟨by omega,hb.2,fun hm=>by have:=HQ14.out.p.lts hm;omega⟩,fun e=>by rw [List.mem_singleton] at e;omega⟩
      have HT9:=zq (show Trm c nv2 w w9 [w.heap.size] A9 RT.args from hT9')
      have HQ9:=zq (HQ14.out.call hB9)
      clear hB9 hT9 hT9' HLS HQ14 HL0_14 HT0_14 cc15
      have cc16:=HQ9.out.b.all
      simp only [PC.cells,List.cons_append,List.nil_append,List.append_nil,bksAll,bkAll,Nat.zero_add,Nat.reduceAdd,and_true] at cc16
      go_wp2_with fail
      have hz:=HQ9.out.put4 1 rfl (.int .i64 RT.kind) (.int .i64 RT.num) (.string RT.name) (.slice A9 RT.args.length c9) (Nat.le_refl _)
      have ht:=HT9.out.put (g:=w.heap.size) (by simp) (fun b hb=>put4_block _ _ (.int .i64 RT.kind) (.int .i64 RT.num) (.string RT.name) (.slice A9 RT.args.length c9) b hb) (by simp)
      refine bodyPost_ret (v:=.agg #[.int .i64 RT.kind,.int .i64 RT.num,.string RT.name,.slice A9 RT.args.length c9]) (by simp [results,Tryz.results142,go_sem,cc16]) rfl ?_
      rw [HV.out]
      exact ⟨by have:=HNM.out;omega,A9,c9,nv2,rfl,hz.p,hz.s,ht.out⟩
 ·cases hcl:isP (c.E.at n) [125]
  rotate_left
  ·skip
   have x0:(s.toList==[40])=false:=by rw [tl_dataR,hs];rfl
   have x1:(s.toList==[91])=false:=by rw [tl_dataR,hs];rfl
   have x2:(s.toList==[123])=true:=by rw [tl_dataR,hs];rfl
   have HE:Hid (R=emptyG c.E S ⟨#[123,125]⟩ (n+1)):=zq (by rw [HR.out,hs];unfold brkG;simp [hcl])
   have HM:=zq (HQ0.out.p.more (isP_kind hcl))
   have HV1:=zq (isV_punct hcl)
   clear hs HR HS HRW HRS
   rcases hx:compG c.E S ⟨#[123,125]⟩ (n+1) with e | ⟨ou,m⟩
   ·skip
    have HV:Hid (R=.error e):=zq (by rw [HE.out];unfold emptyG;rw [hx])
    go_enter Tryz.func142,Tryz.ntmps142
    go_wp2_with fail
    refine (rd_take_yes HQ0.out.p ⟨#[125]⟩ hcl).mono ?_;rintro e w1 ⟨rfl,hp,hs⟩
    have HQ2:=zq (HQ0.out.step (PsAt.skip HV1.out HQ0.out.p.n1 hp) hs)
    clear HQ0
    clear hp hs
    have hX:=HCP.out ⟨#[123,125]⟩ nv _ HQ2.out.p
    rw [hx] at hX
    have HX:=zq hX
    clear hX hx
    go_wp2_with fail
    refine (HX.out).mono ?_;rintro e w9 ⟨rfl,hB9⟩
    exact ⟨rfl,BOut.bad HV.out ⟨rfl,HQ2.out.fall hB9⟩⟩
   ·skip
    go_enter Tryz.func142,Tryz.ntmps142
    go_wp2_with fail
    refine (rd_take_yes HQ0.out.p ⟨#[125]⟩ hcl).mono ?_;rintro e w1 ⟨rfl,hp,hs⟩
    have HQ2:=zq (HQ0.out.step (PsAt.skip HV1.out HQ0.out.p.n1 hp) hs)
    clear HQ0
    clear hp hs
    have hX:=HCP.out ⟨#[123,125]⟩ nv _ HQ2.out.p
    rw [hx] at hX
    have HX:=zq hX
    clear hX
    rcases ou with _ | u
    ·skip
     have HV:Hid (R=.ok (atT ⟨#[123,125]⟩,m)):=zq (by rw [HE.out];unfold emptyG;rw [hx])
     clear hx HE
     go_wp2_with fail
     refine (HX.out).mono ?_;rintro e w3 ⟨hmn,rfl,hp,hs⟩
     have HQ4:=zq (HQ2.out.step hp hs)
     clear HQ2
     clear hp hs
     have HMN:=zq hmn
     clear hmn HX
     have HQ5:=zq (HQ4.out.new [.int .i64 0,.int .i64 0,.string ⟨#[]⟩,.slice none 0 0] 30 (g:=w3.heap.size) (by simp))
     clear HQ4
     have cc6:=HQ5.out.b.all
     simp only [PC.cells,List.cons_append,List.nil_append,List.append_nil,bksAll,bkAll,Nat.zero_add,Nat.reduceAdd,and_true] at cc6
     go_wp2_with fail
     refine (HAT.out ⟨#[123,125]⟩ (by decide) _).mono ?_;rintro e w7 ⟨Aa,ca,rfl,hB⟩
     have HQ8:=zq (HQ5.out.call hB)
     clear HQ5 cc6
     clear hB 
     have cc9:=HQ8.out.b.all
     simp only [PC.cells,List.cons_append,List.nil_append,List.append_nil,bksAll,bkAll,Nat.zero_add,Nat.reduceAdd,and_true] at cc9
     go_wp2_with fail
     have hz:=HQ8.out.put4 1 rfl (.int .i64 2) (.int .i64 0) (.string ⟨#[123,125]⟩) (.slice Aa 0 ca) (Nat.le_refl _)
     refine bodyPost_ret (v:=.agg #[.int .i64 2,.int .i64 0,.string ⟨#[123,125]⟩,.slice Aa 0 ca]) (by simp [results,Tryz.results142,go_sem,cc9]) rfl ?_
     rw [HV.out]
     have hmn:=HMN.out
     subst hmn
     exact ⟨Nat.lt_succ_self _,Aa,ca,nv,rfl,hz.p,hz.s,TmsK.nil⟩
    ·skip
     have HV:Hid (R=.ok (u,m)):=zq (by rw [HE.out];unfold emptyG;rw [hx])
     clear hx HE
     go_wp2_with fail
     refine (HX.out).mono ?_;rintro e w3 ⟨hnm,At,ct,nv1,rfl,hp,hs,ht⟩
     have HT0:=zq (Trm.sub (w0:=w) (F:=[w.heap.size]) ht HQ2.out.s.size (by intro b hb;rw [List.mem_singleton] at hb;subst hb;exact HQ2.out.b.lt 0 rfl))
     have HNM:=zq hnm
     clear ht hnm
     have HQ4:=zq (HQ2.out.step hp hs)
     clear HQ2
     clear hp hs
     clear HX
     unfold tmV
     have HQ5:=zq (HQ4.out.new [.int .i64 u.kind,.int .i64 u.num,.string u.name,.slice At u.args.length ct] 30 (g:=w3.heap.size) (by simp))
     have HT0_5:=zq (HT0.out.new (.cells #[.int .i64 u.kind,.int .i64 u.num,.string u.name,.slice At u.args.length ct] 30) (g:=w3.heap.size) (by simp))
     clear HQ4 HT0
     have cc6:=HQ5.out.b.all
     simp only [PC.cells,List.cons_append,List.nil_append,List.append_nil,bksAll,bkAll,Nat.zero_add,Nat.reduceAdd,and_true] at cc6
     go_wp2_with fail
     have hz:=HQ5.out.put4 1 rfl (.int .i64 u.kind) (.int .i64 u.num) (.string u.name) (.slice At u.args.length ct) (Nat.le_refl _)
     have ht:=HT0_5.out.put (g:=w.heap.size) (by simp) (fun b hb=>put4_block _ _ (.int .i64 u.kind) (.int .i64 u.num) (.string u.name) (.slice At u.args.length ct) b hb) (by simp)
     refine bodyPost_ret (v:=.agg #[.int .i64 u.kind,.int .i64 u.num,.string u.name,.slice At u.args.length ct]) (by simp [results,Tryz.results142,go_sem,cc6]) rfl ?_
     rw [HV.out]
     exact ⟨by have:=HNM.out;omega,At,ct,nv1,rfl,hz.p,hz.s,ht.out⟩
  ·skip
   have x0:(s.toList==[40])=false:=by rw [tl_dataR,hs];rfl
   have x1:(s.toList==[91])=false:=by rw [tl_dataR,hs];rfl
   have x2:(s.toList==[123])=true:=by rw [tl_dataR,hs];rfl
   have HE:Hid (R=match S 1200 n with | .error e=>.error e | .ok (t,_,m)=>needG c.E [125] m (stT ⟨#[123,125]⟩ [t])):=zq (by rw [HR.out,hs];unfold brkG;simp [hcl];rfl)
   clear hs HR HRW HCP
   have hcur:=zq hcl
   clear hcl
   rcases hx:S 1200 n with e | ⟨t,pr,m⟩
   ·skip
    have HV:Hid (R=.error e):=zq (by rw [HE.out,hx])
    have HX:∀W,PsAt c n (vsAt c.E.T n) nv W→Calls Tryz.prog 56 #[.pointer (some ⟨c.P,0,none⟩),.int .i64 1200] W (TOut c n nv W (.error e)):=fun W h=>by rw [←hx];exact HS.out 1200 n nv W (Nat.le_refl _) h
    have HX:=zq HX
    clear hx
    go_enter Tryz.func142,Tryz.ntmps142
    go_wp2_with fail
    refine (rd_take_no HQ0.out.p ⟨#[125]⟩ hcur.out).mono ?_;rintro e w1 ⟨rfl,hB⟩
    have HQ2:=zq (HQ0.out.call hB)
    clear HQ0
    clear hB 
    go_wp2_with fail
    refine (HX.out _ HQ2.out.p).mono ?_;rintro e w9 ⟨rfl,hB9⟩
    exact ⟨rfl,BOut.bad HV.out ⟨rfl,HQ2.out.fall hB9⟩⟩
   ·skip
    have HX:∀W,PsAt c n (vsAt c.E.T n) nv W→Calls Tryz.prog 56 #[.pointer (some ⟨c.P,0,none⟩),.int .i64 1200] W (TOut c n nv W (.ok (t,pr,m))):=fun W h=>by rw [←hx];exact HS.out 1200 n nv W (Nat.le_refl _) h
    have HE2:Hid (R=needG c.E [125] m (stT ⟨#[123,125]⟩ [t])):=zq (by rw [HE.out,hx])
    have HX:=zq HX
    clear hx HE HS
    go_enter Tryz.func142,Tryz.ntmps142
    go_wp2_with fail
    refine (rd_take_no HQ0.out.p ⟨#[125]⟩ hcur.out).mono ?_;rintro e w1 ⟨rfl,hB⟩
    have HQ2:=zq (HQ0.out.call hB)
    clear HQ0
    clear hB 
    go_wp2_with fail
    refine (HX.out _ HQ2.out.p).mono ?_;rintro e w3 ⟨hnm,At,ct,nv1,rfl,hp,hs,ht⟩
    have HT0:=zq (Trm.sub (w0:=w) (F:=[w.heap.size]) ht HQ2.out.s.size (by intro b hb;rw [List.mem_singleton] at hb;subst hb;exact HQ2.out.b.lt 0 rfl))
    have HNM:=zq hnm
    clear ht hnm
    have HQ4:=zq (HQ2.out.step hp hs)
    clear HQ2
    clear hp hs
    clear HX
    have HQ5:=zq (HQ4.out.new [.int .i64 t.kind,.int .i64 t.num,.string t.name,.slice At t.args.length ct] 30 (g:=w3.heap.size) (by simp))
    have HT0_5:=zq (HT0.out.new (.cells #[.int .i64 t.kind,.int .i64 t.num,.string t.name,.slice At t.args.length ct] 30) (g:=w3.heap.size) (by simp))
    clear HQ4 HT0
    unfold tmV
    cases hc:isP (c.E.at m) [125]
    ·skip
     have HV:Hid (R=.error m):=zq (by rw [HE2.out];unfold needG;rw [hc];rfl)
     go_wp2_with fail
     refine (rd_need_no HQ5.out.p ⟨#[125]⟩ hc).mono ?_;rintro e w9 ⟨rfl,hB9⟩
     exact ⟨rfl,BOut.bad HV.out ⟨rfl,HQ5.out.fall hB9⟩⟩
    have HV:Hid (R=.ok (stT ⟨#[123,125]⟩ [t],m+1)):=zq (by rw [HE2.out];unfold needG;rw [hc];rfl)
    have HV1:=zq (isV_punct hc)
    clear HE2
    go_wp2_with fail
    refine (rd_need_yes HQ5.out.p ⟨#[125]⟩ hc).mono ?_;rintro e w6 ⟨rfl,hp,hs⟩
    have HQ7:=zq (HQ5.out.step (PsAt.skip HV1.out HQ5.out.p.n1 hp) hs)
    have HT0_7:=zq (HT0_5.out.step hs)
    clear HQ5 HT0_5
    clear hp hs
    clear hc HV1
    have cc8:=HQ7.out.b.all
    simp only [PC.cells,List.cons_append,List.nil_append,List.append_nil,bksAll,bkAll,Nat.zero_add,Nat.reduceAdd,and_true] at cc8
    go_wp2_with fail
    have HT9:=zq (Trm.row HQ7.out.p HQ7.out.s.size (F:=[w3.heap.size,w.heap.size]) (by intro b hb;simp only [List.mem_cons,List.mem_nil_iff,or_false] at hb;rcases hb with rfl|rfl;exact HQ7.out.b.lt 0 rfl;exact HQ7.out.b.lt 1 rfl) 30 [(t,At,ct)] (by simp [maxLen]) (by intro r hr;rw [List.mem_singleton] at hr;subst hr;exact HT0_7.out))
    have HQ9:=zq (HQ7.out.call ((Below.refl w6.heap.size w6).alloc (Nat.le_refl _) (.cells (rowsC [(t,At,ct)]).toArray 30)))
    clear HT0_7 HQ7 cc8
    refine (HRS.out _ _ _ _ _).mono ?_;rintro e w9 ⟨rfl,hB⟩
    have HQ10:=zq (HQ9.out.call hB)
    have HT9_10:=zq (HT9.out.call hB)
    clear HQ9 HT9
    clear hB 
    have cc11:=HQ10.out.b.all
    simp only [PC.cells,List.cons_append,List.nil_append,List.append_nil,bksAll,bkAll,Nat.zero_add,Nat.reduceAdd,and_true] at cc11
    go_wp2_with fail
    have hz:=HQ10.out.put4 1 rfl (.int .i64 3) (.int .i64 0) (.string ⟨#[123,125]⟩) (.slice (some ⟨w6.heap.size,0,none⟩) 1 1) (Nat.le_refl _)
    have ht:=HT9_10.out.put (g:=w.heap.size) (by simp) (fun b hb=>put4_block _ _ (.int .i64 3) (.int .i64 0) (.string ⟨#[123,125]⟩) (.slice (some ⟨w6.heap.size,0,none⟩) 1 1) b hb) (by simp)
    refine bodyPost_ret (v:=.agg #[.int .i64 3,.int .i64 0,.string ⟨#[123,125]⟩,.slice (some ⟨w6.heap.size,0,none⟩) 1 1]) (by simp [results,Tryz.results142,go_sem,cc11]) rfl ?_
    rw [HV.out]
    exact ⟨by have:=HNM.out;omega,_,_,nv1,rfl,hz.p,hz.s,ht.out⟩
end Go.Proofs.YtbojljpldcijgaaGreat
namespace Go.Proofs
open Go.Shelf
def Tryz.sortOps_ren:Go.Shelf.Ren:=⟨fun | 6=>74 | 15=>117 | 14=>116 | 28=>163 | 29=>164 | 20=>155 | 21=>156 | 22=>157 | 23=>158 | 24=>159 | 25=>160 | 26=>161 | 27=>162 | 46=>188 | 47=>189 | 48=>190 | 49=>191 | 50=>192 | 57=>200 | n=>n,fun | 22=>22 | 24=>61 | 25=>121 | 3=>3 | 39=>153 | 0=>0 | 53=>193 | 55=>195 | 4=>4 | 46=>187 | 45=>186 | 50=>127 | 5=>5 | 9=>9 | 66=>205 | 70=>209 | 76=>214 | 77=>111 | n=>n,fun | n=>n⟩
theorem Tryz.sortOps:Go.Proofs.SlLaysF0.n6 Tryz.prog Tryz.sortOps_ren:={
 mixed:=by kernel_rfl
 f6:=⟨Tryz.f74.name,by decide,Tryz.func74.trans (congrArg some (by kernel_rfl))⟩
 f14:=⟨Tryz.f116.name,by decide,Tryz.func116.trans (congrArg some (by kernel_rfl))⟩
 f15:=Tryz.func117.trans (congrArg some (by kernel_rfl))
 f20:=⟨Tryz.f155.name,by decide,Tryz.func155.trans (congrArg some (by kernel_rfl))⟩
 f21:=⟨Tryz.f156.name,by decide,Tryz.func156.trans (congrArg some (by kernel_rfl))⟩
 f22:=⟨Tryz.f157.name,by decide,Tryz.func157.trans (congrArg some (by kernel_rfl))⟩
 f23:=⟨Tryz.f158.name,by decide,Tryz.func158.trans (congrArg some (by kernel_rfl))⟩
 f24:=⟨Tryz.f159.name,by decide,Tryz.func159.trans (congrArg some (by kernel_rfl))⟩
 f25:=⟨Tryz.f160.name,by decide,Tryz.func160.trans (congrArg some (by kernel_rfl))⟩
 f26:=⟨Tryz.f161.name,by decide,Tryz.func161.trans (congrArg some (by kernel_rfl))⟩
 f27:=⟨Tryz.f162.name,by decide,Tryz.func162.trans (congrArg some (by kernel_rfl))⟩
 f28:=Tryz.func163.trans (congrArg some (by kernel_rfl))
 f29:=Tryz.func164.trans (congrArg some (by kernel_rfl))
 f46:=⟨Tryz.f188.name,by decide,Tryz.func188.trans (congrArg some (by kernel_rfl))⟩
 f47:=Tryz.func189.trans (congrArg some (by kernel_rfl))
 f48:=Tryz.func190.trans (congrArg some (by kernel_rfl))
 f49:=⟨Tryz.f191.name,by decide,Tryz.func191.trans (congrArg some (by kernel_rfl))⟩
 f50:=⟨Tryz.f192.name,by decide,Tryz.func192.trans (congrArg some (by kernel_rfl))⟩
 f57:=⟨Tryz.f200.name,by decide,Tryz.func200.trans (congrArg some (by kernel_rfl))⟩
 t0:=Tryz.underlying0
 a0:=Tryz.isAgg0
 z0:=Tryz.sizeOf0
 v0:=Tryz.zeroValue0
 t3:=Tryz.underlying3
 a3:=Tryz.isAgg3
 z3:=Tryz.sizeOf3
 v3:=Tryz.zeroValue3
 t4:=Tryz.underlying4
 a4:=Tryz.isAgg4
 z4:=Tryz.sizeOf4
 v4:=Tryz.zeroValue4
 t5:=Tryz.underlying5
 a5:=Tryz.isAgg5
 z5:=Tryz.sizeOf5
 v5:=Tryz.zeroValue5
 t9:=Tryz.underlying9
 a9:=Tryz.isAgg9
 z9:=Tryz.sizeOf9
 v9:=Tryz.zeroValue9
 t22:=Tryz.underlying22
 a22:=Tryz.isAgg22
 z22:=Tryz.sizeOf22
 v22:=Tryz.zeroValue22
 t25:=Tryz.underlying121
 a25:=Tryz.isAgg121
 z25:=Tryz.sizeOf121
 v25:=Tryz.zeroValue121
 t39:=Tryz.underlying153
 a39:=Tryz.isAgg153
 z39:=Tryz.sizeOf153
 v39:=Tryz.zeroValue153
 t45:=Tryz.underlying186
 a45:=Tryz.isAgg186
 z45:=Tryz.sizeOf186
 v45:=Tryz.zeroValue186
 t46:=Tryz.underlying187
 a46:=Tryz.isAgg187
 z46:=Tryz.sizeOf187
 v46:=Tryz.zeroValue187
 t50:=Tryz.underlying127
 a50:=Tryz.isAgg127
 z50:=Tryz.sizeOf127
 v50:=Tryz.zeroValue127
 t53:=Tryz.underlying193
 a53:=Tryz.isAgg193
 z53:=Tryz.sizeOf193
 v53:=Tryz.zeroValue193
 t55:=Tryz.underlying195
 a55:=Tryz.isAgg195
 z55:=Tryz.sizeOf195
 v55:=Tryz.zeroValue195
 t66:=Tryz.underlying205
 a66:=Tryz.isAgg205
 z66:=Tryz.sizeOf205
 v66:=Tryz.zeroValue205
 t70:=Tryz.underlying209
 a70:=Tryz.isAgg209
 z70:=Tryz.sizeOf209
 v70:=Tryz.zeroValue209
 t76:=Tryz.underlying214
 a76:=Tryz.isAgg214
 z76:=Tryz.sizeOf214
 v76:=Tryz.zeroValue214
 t77:=Tryz.underlying111
 a77:=Tryz.isAgg111
 z77:=Tryz.sizeOf111
 v77:=Tryz.zeroValue111 }
end Go.Proofs
namespace Hb
open Go Go.RowKit
def grs:List (Int×Int×List ByteArray):=[(1200,1,[⟨#[58,45]⟩,⟨#[45,45,62]⟩]),(1200,5,[⟨#[58,45]⟩,⟨#[63,45]⟩]),(1100,2,[⟨#[59]⟩]),(1050,2,[⟨#[45,62]⟩]),(1000,2,[⟨#[44]⟩]),(900,4,[⟨#[92,43]⟩]),(700,1,[⟨#[61]⟩,⟨#[92,61]⟩,⟨#[61,61]⟩,⟨#[92,61,61]⟩,⟨#[64,60]⟩,⟨#[64,61,60]⟩,⟨#[64,62]⟩,⟨#[64,62,61]⟩,⟨#[61,46,46]⟩,⟨#[105,115]⟩,⟨#[61,58,61]⟩,⟨#[61,92,61]⟩,⟨#[60]⟩,⟨#[61,60]⟩,⟨#[62]⟩,⟨#[62,61]⟩]),(500,3,[⟨#[43]⟩,⟨#[45]⟩,⟨#[47,92]⟩,⟨#[92,47]⟩]),(400,3,[⟨#[42]⟩,⟨#[47]⟩,⟨#[47,47]⟩,⟨#[114,101,109]⟩,⟨#[109,111,100]⟩,⟨#[100,105,118]⟩,⟨#[60,60]⟩,⟨#[62,62]⟩]),(200,1,[⟨#[42,42]⟩]),(200,2,[⟨#[94]⟩]),(200,4,[⟨#[43]⟩,⟨#[45]⟩,⟨#[92]⟩])]
def grP (k:Nat):Int:=(grs.getD k (0,0,[])).1
def grT (k:Nat):Int:=(grs.getD k (0,0,[])).2.1
def grN (k:Nat):List ByteArray:=(grs.getD k (0,0,[])).2.2
def grA (k:Nat):Array Value:=((grN k).map Value.string).toArray
def grV (b:Nat→Nat) (k:Nat):Value:=.slice (some ⟨b k,0,none⟩) (grN k).length (grN k).length
def grCells (b:Nat→Nat):Array Value:=((List.range 12).flatMap fun k=>[Value.int .i64 (grP k),.int .i64 (grT k),grV b k]).toArray
def gr0:Array Value:=((List.range 12).flatMap fun _=>[Value.int .i64 0,.int .i64 0,.slice none 0 0]).toArray
theorem grCells_size (b:Nat→Nat):(grCells b).size=36:=rfl
theorem grCells_one (b:Nat→Nat):(grCells b).all (·.oneCell')=true:=by kernel_rfl
structure BS (w w1:World) (b:Nat) (k:Nat):Prop where
 bel:Below w.heap.size w w1
 lt:b<w1.heap.size
 le:w.heap.size≤b
 cells:∀j v,(grA k)[j]? = some v→w1.cell? ⟨b,j,none⟩=some v
theorem BS.start (w:World) (k:Nat) (t:TypeId):BS w (w.alloc (.cells (grA k) t)) w.heap.size k where
 bel:=(Below.refl _ _).alloc (Nat.le_refl _) _
 lt:=by simp
 le:=Nat.le_refl _
 cells:=fun j v h=>(World.cell?_alloc_new _ _ _ j).trans h
theorem grA_get (k j:Nat) (h:j<(grN k).length):(grA k)[j]? = some (.string (grN k)[j]):=by
 unfold grA
 simp [h]
theorem BS.out {w w1 wb:World} {b k:Nat} (h:BS w w1 b k) (c:Below w1.heap.size w1 wb):b<wb.heap.size∧∀(j:Nat) (hj:j<(grN k).length),wb.cell? ⟨b,j,none⟩=some (.string (grN k)[j]) :=
 ⟨Nat.lt_of_lt_of_le h.lt c.size,fun j hj=>(c.cell (p:=⟨b,j,none⟩) h.lt).trans (h.cells j _ (grA_get k j hj))⟩
def opsCells (l:List OpR):List Value:=l.flatMap opCells
theorem opsCells_app (a b:List OpR):opsCells (a++b)=opsCells a++opsCells b:=by unfold opsCells;rw [List.flatMap_append]
def grO (k:Nat):List OpR:=(grN k).map fun s=>⟨s,grT k,grP k⟩
def preL (k:Nat):List OpR:=(List.range k).flatMap grO
theorem preL_succ (k:Nat):preL (k+1)=preL k++grO k:=by unfold preL;rw [List.range_succ,List.flatMap_append];simp
theorem preL_len:(preL 12).length=41:=by decide +kernel
theorem preL_le (k:Nat) (h:k≤12):(preL k).length≤41:=by
 have:∀d j,(preL j).length≤(preL (j+d)).length:=by
  intro d
  induction d with
  | zero=>intro j;exact Nat.le_refl _
  | succ d ih=>intro j;refine Nat.le_trans (ih j) ?_;rw [show j+(d+1)=(j+d)+1 by omega,preL_succ,List.length_append];omega
 have h2:=this (12-k) k
 rw [show k+(12-k)=12 by omega,preL_len] at h2
 exact h2
theorem grO_le (k:Nat) (h:k<12):(preL k).length+(grN k).length≤41:=by
 have:=preL_le (k+1) (by omega)
 rw [preL_succ,List.length_append] at this
 unfold grO at this
 rw [List.length_map] at this
 exact this
theorem own_some {w:World} {base e size:Nat} {v:Value} {n:Nat} {xs:List Value} (h:w.ownsRow base e size v n xs) (hn:0<n):∃g cap,v=.slice (some ⟨g,0,none⟩) n cap:=by
 rcases h.2 with ⟨_,h0⟩ | ⟨g,cap,cur,rfl,_⟩
 ·omega
 ·exact ⟨g,cap,rfl⟩
def insO (o:OpR):List OpR→List OpR
 | []=>[o]
 | a::l=>if cmpOp o a<0 then o::a::l else a::insO o l
theorem insO_perm (o:OpR):∀l:List OpR,(insO o l).Perm (o::l)
 | []=>List.Perm.refl _
 | a::l=>by
  unfold insO
  split
  ·exact List.Perm.refl _
  ·exact ((insO_perm o l).cons a).trans (List.Perm.swap o a l)
def insAll (acc l:List OpR):List OpR:=l.foldl (fun t o=>insO o t) acc
theorem insAll_perm:∀(l acc:List OpR),(insAll acc l).Perm (acc++l)
 | [],acc=>by unfold insAll;simp
 | o::l,acc=>by
  have h1:=insAll_perm l (insO o acc)
  have h2:(insO o acc++l).Perm (acc++o::l):=((insO_perm o acc).append_right l).trans (by simpa using (List.perm_middle (a:=o) (l₁:=acc) (l₂:=l)).symm)
  exact h1.trans h2
def defL:List OpR:=insAll [] (preL 12)
theorem defL_perm:defL.Perm (preL 12):=by
 have:=insAll_perm (preL 12) []
 rw [List.nil_append] at this
 exact this
theorem own_ne_type {w:World} {base e size:Nat} {v:Value} {n:Nat} {xs:List Value} {g:Nat} {cs:Array Value} {t:TypeId} {fr:Nat×Nat} (h:w.ownsRow base e size v n xs) (hg:w.heap[g]? = some (.cells cs t fr)) (ht:t≠e):some g≠v.ownBlock:=by
 rcases h.2 with ⟨rfl,_⟩ | ⟨g',cap,cur,rfl,_,hh,_⟩
 ·simp [Value.ownBlock]
 ·intro heq
  have:g=g':=by simpa [Value.ownBlock] using heq
  subst this
  rw [hh] at hg
  injection hg with hg
  injection hg with _ h2 _
  exact ht h2.symm
theorem cell_of_heap {w:World} {g:Nat} {cs:Array Value} {t:TypeId} {fr:Nat×Nat} (hg:w.heap[g]? = some (.cells cs t fr)) (j:Nat):w.cell? ⟨g,j,none⟩=cs[j]?:=by
 simp [World.cell?,hg]
end Hb
namespace Go.Proofs.YtbojljpldcijgaaGreat
open Go.RowKit Hb
set_option maxRecDepth 100000
theorem infoGr:(Tryz.prog.info? 119).map (·.size)=some 36:=by kernel_rfl
theorem infoOp:(Tryz.prog.info? 61).map (fun i=>(i.zero,i.size,i.bytes))=some (some (.agg #[.string ⟨#[]⟩,.int .i64 0,.int .i64 0]),3,32):=by kernel_rfl
theorem at_appOO {ops:Array Oper} {rest:List Oper} {a:Act} {Q:Exit→Act→World→Prop} {w:World} {d t p f x g} (h:wpList Tryz.prog ops Q (⟨d,.call { callee:=.builtin .append,args:=x,argTypes:=#[22,22] },t,p,f,g⟩::rest) a w):wpList Tryz.prog ops Q (⟨d,.call { callee:=.builtin .append,args:=x,argTypes:=#[22,22] },t,p,f,g⟩::rest) a w:=h
theorem wpList_append_op {w:World} {ops:Array Oper} {rest:List Oper} {o:Oper} {a:Act} {Q:Exit→Act→World→Prop} (hgd:o.guard=none) (s x:Operand)
  (ho:o.op=.call { callee:=.builtin .append,args:=#[s,x],argTypes:=#[22,22] })
  (base:Nat) (v:Value) (m:Nat) (l:List OpR) (hs:a.eval s=v) (W:World) (hown:W.ownsRow base 61 3 v m (opsCells l)) (r:OpR)
  (hw:w=W.alloc (.cells #[.string r.name,.int .i64 r.typ,.int .i64 r.prec] 61)) (hx:a.eval x=.slice (some ⟨W.heap.size,0,none⟩) 1 1) (h63:m≤70368744) (hbase:base≤W.heap.size)
  (h:∀v' w',w'.ownsRow base 61 3 v' (m+1) (opsCells (l++[r]))→Below base W w'→w.grownBy w' v.ownBlock→wpList Tryz.prog ops Q rest (a.put o.dst v') w'):wpList Tryz.prog ops Q (o::rest) a w:=by
 refine wpList_append_one hgd s x 22 61 ho Tryz.underlying22 _ 3 32 infoOp rfl (by decide) base v m _ hs W hown #[.string r.name,.int .i64 r.typ,.int .i64 r.prec] rfl (by simp [Value.oneCell']) hw hx (by omega) (by omega) hbase fun v' w' ho' hb' hg'=>h v' w' ?_ hb' hg'
 rw [opsCells_app]
 exact ho'
theorem at_bs {ops:Array Oper} {rest:List Oper} {a:Act} {Q:Exit→Act→World→Prop} {w:World} {d n t p f x g} (h:wpList Tryz.prog ops Q (⟨d,.buildSlice 116 n x,t,p,f,g⟩::rest) a w):wpList Tryz.prog ops Q (⟨d,.buildSlice 116 n x,t,p,f,g⟩::rest) a w:=h
theorem at_bgr {ops:Array Oper} {rest:List Oper} {a:Act} {Q:Exit→Act→World→Prop} {w:World} {d t p f x g} (h:wpList Tryz.prog ops Q (⟨d,.build 119 x,t,p,f,g⟩::rest) a w):wpList Tryz.prog ops Q (⟨d,.build 119 x,t,p,f,g⟩::rest) a w:=h
theorem at_agr {ops:Array Oper} {rest:List Oper} {a:Act} {Q:Exit→Act→World→Prop} {w:World} {d t p f g} (h:wpList Tryz.prog ops Q (⟨d,.alloc 119,t,p,f,g⟩::rest) a w):wpList Tryz.prog ops Q (⟨d,.alloc 119,t,p,f,g⟩::rest) a w:=h
theorem at_sgr {ops:Array Oper} {rest:List Oper} {a:Act} {Q:Exit→Act→World→Prop} {w:World} {d t p f x y g} (h:wpList Tryz.prog ops Q (⟨d,.store 119 x y,t,p,f,g⟩::rest) a w):wpList Tryz.prog ops Q (⟨d,.store 119 x y,t,p,f,g⟩::rest) a w:=h
theorem at_lgr {ops:Array Oper} {rest:List Oper} {a:Act} {Q:Exit→Act→World→Prop} {w:World} {d t p f x g} (h:wpList Tryz.prog ops Q (⟨d,.load 119 x,t,p,f,g⟩::rest) a w):wpList Tryz.prog ops Q (⟨d,.load 119 x,t,p,f,g⟩::rest) a w:=h
theorem at_igr {ops:Array Oper} {rest:List Oper} {a:Act} {Q:Exit→Act→World→Prop} {w:World} {d t p f x y g} (h:wpList Tryz.prog ops Q (⟨d,.index 119 x y,t,p,f,g⟩::rest) a w):wpList Tryz.prog ops Q (⟨d,.index 119 x y,t,p,f,g⟩::rest) a w:=h
theorem wpList_bs {ops:Array Oper} {rest:List Oper} {o:Oper} {a:Act} {Q:Exit→Act→World→Prop} {w:World} (hgd:o.guard=none) (k n:Nat) (parts:List (Nat×Operand)) (parts':List (Nat×Value))
  (ho:o.op=.buildSlice 116 n parts.toArray) (hm:parts.map (fun x=>(x.fst,a.eval x.snd))=parts')
  (hr:∀w:World,(Instr.buildSlice 116 n parts'.toArray).run Tryz.prog w=.ok (.slice (some ⟨w.heap.size,0,none⟩) n n) (w.alloc (.cells (grA k) 9)))
  (h:∀b w1,BS w w1 b k→wpList Tryz.prog ops Q rest (a.put o.dst (.slice (some ⟨b,0,none⟩) n n)) w1):wpList Tryz.prog ops Q (o::rest) a w:=by
 refine wpList_plain hgd fun K hK=>?_
 have e:(execOp a.eval o).run Tryz.prog w=.ok (.value (.slice (some ⟨w.heap.size,0,none⟩) n n)) (w.alloc (.cells (grA k) 9)):=by
  unfold execOp
  rw [ho]
  simp only [List.map_toArray,hm]
  rw [Sem.run_bind,hr]
  rfl
 unfold Oper.wp
 rw [e]
 exact hK _ _ (h _ _ (BS.start w k _))
theorem wpList_bgr {ops:Array Oper} {rest:List Oper} {o:Oper} {a:Act} {Q:Exit→Act→World→Prop} {w:World} (hgd:o.guard=none) (b:Nat→Nat) (parts:List (Nat×Operand)) (parts':List (Nat×Value))
  (ho:o.op=.build 119 parts.toArray) (hm:parts.map (fun x=>(x.fst,a.eval x.snd))=parts')
  (hr:∀w:World,(Instr.build 119 parts'.toArray).run Tryz.prog w=.ok (.agg (grCells b)) w)
  (h:∀f:Nat→Nat,Hid (f=b)→wpList Tryz.prog ops Q rest (a.put o.dst (.agg (grCells f))) w):wpList Tryz.prog ops Q (o::rest) a w:=by
 refine wpList_plain hgd fun K hK=>?_
 have e:(execOp a.eval o).run Tryz.prog w=.ok (.value (.agg (grCells b))) w:=by
  unfold execOp
  rw [ho]
  simp only [List.map_toArray,hm]
  rw [Sem.run_bind,hr]
  rfl
 unfold Oper.wp
 rw [e]
 exact hK _ _ (h b (zq rfl))
theorem alloc_gr (w:World):(Instr.alloc 119 true (.tuple #[])).run Tryz.prog w=.ok (.pointer (some ⟨w.heap.size,0,none⟩)) (w.alloc (.cells gr0 119)):=by kernel_rfl
theorem wpList_agr {ops:Array Oper} {rest:List Oper} {o:Oper} {a:Act} {Q:Exit→Act→World→Prop} {w:World} (hgd:o.guard=none) (ho:o.op=.alloc 119)
  (h:∀b w1,w1.heap[b]? = some (.cells gr0 119)→w.heap.size≤b→Below w.heap.size w w1→wpList Tryz.prog ops Q rest (a.put o.dst (.pointer (some ⟨b,0,none⟩))) w1):wpList Tryz.prog ops Q (o::rest) a w:=by
 refine wpList_plain hgd fun K hK=>?_
 have e:(execOp a.eval o).run Tryz.prog w=.ok (.value (.pointer (some ⟨w.heap.size,0,none⟩))) (w.alloc (.cells gr0 119)):=by
  unfold execOp
  rw [ho]
  simp only []
  rw [Sem.run_bind,alloc_gr]
  rfl
 unfold Oper.wp
 rw [e]
 exact hK _ _ (h _ _ (heap_alloc_new w _) (Nat.le_refl _) ((Below.refl _ _).alloc (Nat.le_refl _) _))
theorem wpList_sgr {ops:Array Oper} {rest:List Oper} {o:Oper} {a:Act} {Q:Exit→Act→World→Prop} {w:World} (hgd:o.guard=none) (x y:Operand) {b:Nat} {f:Nat→Nat}
  (ho:o.op=.store 119 x y) (hx:a.eval x=.pointer (some ⟨b,0,none⟩)) (hy:a.eval y=.agg (grCells f)) (T:w.heap[b]? = some (.cells gr0 119))
  (h:∀w1,w1.heap[b]? = some (.cells (grCells f) 119)→(∀B w0,Below B w0 w→B≤b→Below B w0 w1)→wpList Tryz.prog ops Q rest (a.put o.dst undef) w1):wpList Tryz.prog ops Q (o::rest) a w :=
 wpList_store_row hgd _ x y ho b (grCells f) hx hy _ _ T (by rw [infoGr,grCells_size]) rfl (grCells_one f)
  (h _ (setRow_heap w b _ _ _ _ T) fun B w0 hB hb=>below_setRow hB hb _)
theorem wpList_lgr {ops:Array Oper} {rest:List Oper} {o:Oper} {a:Act} {Q:Exit→Act→World→Prop} {w:World} (hgd:o.guard=none) (x:Operand) {b:Nat} {f:Nat→Nat}
  (ho:o.op=.load 119 x) (hx:a.eval x=.pointer (some ⟨b,0,none⟩)) (T:w.heap[b]? = some (.cells (grCells f) 119))
  (h:wpList Tryz.prog ops Q rest (a.put o.dst (.agg (grCells f))) w):wpList Tryz.prog ops Q (o::rest) a w :=
 wpList_load_row hgd _ x ho b hx _ _ _ _ T Tryz.underlying119 rfl (by rw [infoGr,grCells_size]) h
theorem bs_0 (w:World):(Instr.buildSlice 116 2 #[(0,.string ⟨#[58,45]⟩),(1,.string ⟨#[45,45,62]⟩)]).run Tryz.prog w=.ok (.slice (some ⟨w.heap.size,0,none⟩) 2 2) (w.alloc (.cells (grA 0) 9)):=by kernel_rfl
theorem bs_1 (w:World):(Instr.buildSlice 116 2 #[(0,.string ⟨#[58,45]⟩),(1,.string ⟨#[63,45]⟩)]).run Tryz.prog w=.ok (.slice (some ⟨w.heap.size,0,none⟩) 2 2) (w.alloc (.cells (grA 1) 9)):=by kernel_rfl
theorem bs_2 (w:World):(Instr.buildSlice 116 1 #[(0,.string ⟨#[59]⟩)]).run Tryz.prog w=.ok (.slice (some ⟨w.heap.size,0,none⟩) 1 1) (w.alloc (.cells (grA 2) 9)):=by kernel_rfl
theorem bs_3 (w:World):(Instr.buildSlice 116 1 #[(0,.string ⟨#[45,62]⟩)]).run Tryz.prog w=.ok (.slice (some ⟨w.heap.size,0,none⟩) 1 1) (w.alloc (.cells (grA 3) 9)):=by kernel_rfl
theorem bs_4 (w:World):(Instr.buildSlice 116 1 #[(0,.string ⟨#[44]⟩)]).run Tryz.prog w=.ok (.slice (some ⟨w.heap.size,0,none⟩) 1 1) (w.alloc (.cells (grA 4) 9)):=by kernel_rfl
theorem bs_5 (w:World):(Instr.buildSlice 116 1 #[(0,.string ⟨#[92,43]⟩)]).run Tryz.prog w=.ok (.slice (some ⟨w.heap.size,0,none⟩) 1 1) (w.alloc (.cells (grA 5) 9)):=by kernel_rfl
theorem bs_6 (w:World):(Instr.buildSlice 116 16 #[(0,.string ⟨#[61]⟩),(1,.string ⟨#[92,61]⟩),(2,.string ⟨#[61,61]⟩),(3,.string ⟨#[92,61,61]⟩),(4,.string ⟨#[64,60]⟩),(5,.string ⟨#[64,61,60]⟩),(6,.string ⟨#[64,62]⟩),(7,.string ⟨#[64,62,61]⟩),(8,.string ⟨#[61,46,46]⟩),(9,.string ⟨#[105,115]⟩),(10,.string ⟨#[61,58,61]⟩),(11,.string ⟨#[61,92,61]⟩),(12,.string ⟨#[60]⟩),(13,.string ⟨#[61,60]⟩),(14,.string ⟨#[62]⟩),(15,.string ⟨#[62,61]⟩)]).run Tryz.prog w=.ok (.slice (some ⟨w.heap.size,0,none⟩) 16 16) (w.alloc (.cells (grA 6) 9)):=by kernel_rfl
theorem bs_7 (w:World):(Instr.buildSlice 116 4 #[(0,.string ⟨#[43]⟩),(1,.string ⟨#[45]⟩),(2,.string ⟨#[47,92]⟩),(3,.string ⟨#[92,47]⟩)]).run Tryz.prog w=.ok (.slice (some ⟨w.heap.size,0,none⟩) 4 4) (w.alloc (.cells (grA 7) 9)):=by kernel_rfl
theorem bs_8 (w:World):(Instr.buildSlice 116 8 #[(0,.string ⟨#[42]⟩),(1,.string ⟨#[47]⟩),(2,.string ⟨#[47,47]⟩),(3,.string ⟨#[114,101,109]⟩),(4,.string ⟨#[109,111,100]⟩),(5,.string ⟨#[100,105,118]⟩),(6,.string ⟨#[60,60]⟩),(7,.string ⟨#[62,62]⟩)]).run Tryz.prog w=.ok (.slice (some ⟨w.heap.size,0,none⟩) 8 8) (w.alloc (.cells (grA 8) 9)):=by kernel_rfl
theorem bs_9 (w:World):(Instr.buildSlice 116 1 #[(0,.string ⟨#[42,42]⟩)]).run Tryz.prog w=.ok (.slice (some ⟨w.heap.size,0,none⟩) 1 1) (w.alloc (.cells (grA 9) 9)):=by kernel_rfl
theorem bs_10 (w:World):(Instr.buildSlice 116 1 #[(0,.string ⟨#[94]⟩)]).run Tryz.prog w=.ok (.slice (some ⟨w.heap.size,0,none⟩) 1 1) (w.alloc (.cells (grA 10) 9)):=by kernel_rfl
theorem bs_11 (w:World):(Instr.buildSlice 116 3 #[(0,.string ⟨#[43]⟩),(1,.string ⟨#[45]⟩),(2,.string ⟨#[92]⟩)]).run Tryz.prog w=.ok (.slice (some ⟨w.heap.size,0,none⟩) 3 3) (w.alloc (.cells (grA 11) 9)):=by kernel_rfl
theorem build_gr (b0 b1 b2 b3 b4 b5 b6 b7 b8 b9 b10 b11:Nat) (w:World):(Instr.build 119 #[(0,.agg #[.int .i64 1200,.int .i64 1,.slice (some ⟨b0,0,none⟩) 2 2]),(1,.agg #[.int .i64 1200,.int .i64 5,.slice (some ⟨b1,0,none⟩) 2 2]),(2,.agg #[.int .i64 1100,.int .i64 2,.slice (some ⟨b2,0,none⟩) 1 1]),(3,.agg #[.int .i64 1050,.int .i64 2,.slice (some ⟨b3,0,none⟩) 1 1]),(4,.agg #[.int .i64 1000,.int .i64 2,.slice (some ⟨b4,0,none⟩) 1 1]),(5,.agg #[.int .i64 900,.int .i64 4,.slice (some ⟨b5,0,none⟩) 1 1]),(6,.agg #[.int .i64 700,.int .i64 1,.slice (some ⟨b6,0,none⟩) 16 16]),(7,.agg #[.int .i64 500,.int .i64 3,.slice (some ⟨b7,0,none⟩) 4 4]),(8,.agg #[.int .i64 400,.int .i64 3,.slice (some ⟨b8,0,none⟩) 8 8]),(9,.agg #[.int .i64 200,.int .i64 1,.slice (some ⟨b9,0,none⟩) 1 1]),(10,.agg #[.int .i64 200,.int .i64 2,.slice (some ⟨b10,0,none⟩) 1 1]),(11,.agg #[.int .i64 200,.int .i64 4,.slice (some ⟨b11,0,none⟩) 3 3])]).run Tryz.prog w=.ok (.agg (grCells (fun k=>[b0,b1,b2,b3,b4,b5,b6,b7,b8,b9,b10,b11].getD k 0))) w:=by kernel_rfl
theorem idx_gr (b:Nat→Nat) (w:World):∀(k:Nat),k<12→(Instr.index 119 (.agg (grCells b)) (.int .i64 k)).run Tryz.prog w=.ok (.agg #[.int .i64 (grP k),.int .i64 (grT k),grV b k]) w
 | 0,_=>by kernel_rfl
 | 1,_=>by kernel_rfl
 | 2,_=>by kernel_rfl
 | 3,_=>by kernel_rfl
 | 4,_=>by kernel_rfl
 | 5,_=>by kernel_rfl
 | 6,_=>by kernel_rfl
 | 7,_=>by kernel_rfl
 | 8,_=>by kernel_rfl
 | 9,_=>by kernel_rfl
 | 10,_=>by kernel_rfl
 | 11,_=>by kernel_rfl
 | _+12,h=>absurd h (by omega)
theorem wpList_igr {ops:Array Oper} {rest:List Oper} {o:Oper} {a:Act} {Q:Exit→Act→World→Prop} {w:World} (hgd:o.guard=none) (x y:Operand) (b:Nat→Nat) (k:Nat) (hk:k<12)
  (ho:o.op=.index 119 x y) (hx:a.eval x=.agg (grCells b)) (hy:a.eval y=.int .i64 k)
  (h:wpList Tryz.prog ops Q rest (a.put o.dst (.agg #[.int .i64 (grP k),.int .i64 (grT k),.slice (some ⟨b k,0,none⟩) (grN k).length (grN k).length])) w):wpList Tryz.prog ops Q (o::rest) a w:=by
 refine wpList_plain hgd fun K hK=>?_
 have e:(execOp a.eval o).run Tryz.prog w=.ok (.value (.agg #[.int .i64 (grP k),.int .i64 (grT k),grV b k])) w:=by
  unfold execOp
  rw [ho]
  simp only [hx,hy]
  rw [Sem.run_bind,idx_gr b w k hk]
  rfl
 unfold Oper.wp
 rw [e]
 exact hK _ _ h
def SortSaid:Prop:=∀(W:World) (g cap B:Nat) (w0:World),W.ownsRow B 61 3 (.slice (some ⟨g,0,none⟩) 41 cap) 41 (opsCells (preL 12))→Below B w0 W →
  Calls Tryz.prog 74 #[.slice (some ⟨g,0,none⟩) 41 cap,.func (.func 75) #[] #[]] W fun e w'=>e=.returned (.tuple #[])∧Below B w0 w'∧OpsAt w' (some ⟨g,0,none⟩) defL
set_option maxHeartbeats 3200000 in
theorem ops_default (HS:SortSaid) (w:World) :
  Calls Tryz.prog 47 #[] w fun e w'=>∃g cap,e=.returned (.slice (some ⟨g,0,none⟩) 41 cap)∧Below w.heap.size w w'∧OpsAt w' (some ⟨g,0,none⟩) defL:=by
 go_enter Tryz.func47,Tryz.ntmps47
 go_wp2_with (first
  | ((with_reducible refine at_bs ?_);have _m:=h10;refine wpList_bs rfl 11 _ _ _ rfl rfl bs_11 ?_;intro b11 w11 h11)
  | ((with_reducible refine at_bs ?_);have _m:=h9;refine wpList_bs rfl 10 _ _ _ rfl rfl bs_10 ?_;intro b10 w10 h10)
  | ((with_reducible refine at_bs ?_);have _m:=h8;refine wpList_bs rfl 9 _ _ _ rfl rfl bs_9 ?_;intro b9 w9 h9)
  | ((with_reducible refine at_bs ?_);have _m:=h7;refine wpList_bs rfl 8 _ _ _ rfl rfl bs_8 ?_;intro b8 w8 h8)
  | ((with_reducible refine at_bs ?_);have _m:=h6;refine wpList_bs rfl 7 _ _ _ rfl rfl bs_7 ?_;intro b7 w7 h7)
  | ((with_reducible refine at_bs ?_);have _m:=h5;refine wpList_bs rfl 6 _ _ _ rfl rfl bs_6 ?_;intro b6 w6 h6)
  | ((with_reducible refine at_bs ?_);have _m:=h4;refine wpList_bs rfl 5 _ _ _ rfl rfl bs_5 ?_;intro b5 w5 h5)
  | ((with_reducible refine at_bs ?_);have _m:=h3;refine wpList_bs rfl 4 _ _ _ rfl rfl bs_4 ?_;intro b4 w4 h4)
  | ((with_reducible refine at_bs ?_);have _m:=h2;refine wpList_bs rfl 3 _ _ _ rfl rfl bs_3 ?_;intro b3 w3 h3)
  | ((with_reducible refine at_bs ?_);have _m:=h1;refine wpList_bs rfl 2 _ _ _ rfl rfl bs_2 ?_;intro b2 w2 h2)
  | ((with_reducible refine at_bs ?_);have _m:=h0;refine wpList_bs rfl 1 _ _ _ rfl rfl bs_1 ?_;intro b1 w1 h1)
  | ((with_reducible refine at_bs ?_);refine wpList_bs rfl 0 _ _ _ rfl rfl bs_0 ?_;intro b0 w0 h0)
  | ((with_reducible refine at_bgr ?_);refine wpList_bgr rfl _ _ _ rfl rfl (build_gr b0 b1 b2 b3 b4 b5 b6 b7 b8 b9 b10 b11) ?_;intro f HF)
  | ((with_reducible refine at_agr ?_);refine wpList_agr rfl rfl ?_;intro g wa hga hgl hBa)
  | ((with_reducible refine at_sgr ?_);refine wpList_sgr rfl _ _ rfl rfl rfl hga ?_;intro wb hgb hBb)
  | ((with_reducible refine at_lgr ?_);refine wpList_lgr rfl _ rfl rfl hgb ?_))
 have c11:=hBb _ _ hBa hgl
 have c10:=h11.bel.trans (c11.mono h11.bel.size)
 have c9:=h10.bel.trans (c10.mono h10.bel.size)
 have c8:=h9.bel.trans (c9.mono h9.bel.size)
 have c7:=h8.bel.trans (c8.mono h8.bel.size)
 have c6:=h7.bel.trans (c7.mono h7.bel.size)
 have c5:=h6.bel.trans (c6.mono h6.bel.size)
 have c4:=h5.bel.trans (c5.mono h5.bel.size)
 have c3:=h4.bel.trans (c4.mono h4.bel.size)
 have c2:=h3.bel.trans (c3.mono h3.bel.size)
 have c1:=h2.bel.trans (c2.mono h2.bel.size)
 have c0:=h1.bel.trans (c1.mono h1.bel.size)
 have cw:=h0.bel.trans (c0.mono h0.bel.size)
 have HGh:Hid (∀k,k<12→f k<wb.heap.size∧∀(j:Nat) (hj:j<(grN k).length),wb.cell? ⟨f k,j,none⟩=some (.string (grN k)[j])):=by
  refine zq ?_
  rw [HF.out]
  exact fun
  | 0,_=>h0.out c0
  | 1,_=>h1.out c1
  | 2,_=>h2.out c2
  | 3,_=>h3.out c3
  | 4,_=>h4.out c4
  | 5,_=>h5.out c5
  | 6,_=>h6.out c6
  | 7,_=>h7.out c7
  | 8,_=>h8.out c8
  | 9,_=>h9.out c9
  | 10,_=>h10.out c10
  | 11,_=>h11.out c11
  | _+12,h=>absurd h (by omega)
 clear HF hgb hga hBa hBb hgl c0 c1 c2 c3 c4 c5 c6 c7 c8 c9 c10 c11 h0 h1 h2 h3 h4 h5 h6 h7 h8 h9 h10 h11
 go_loopw [0,32] (fun v0 i wr=>∃k:Nat,k≤12∧i=.int .i64 k∧Below wb.heap.size wb wr∧wr.ownsRow wb.heap.size 61 3 v0 (preL k).length (opsCells (preL k))) (fun _ i _=>12-(intOf i).toNat)
 case atStart=>exact ⟨0,Nat.zero_le _,rfl,Below.refl _ _,World.ownsRow_nil _ _ _ _⟩
 case round=>
  obtain ⟨k,hk,rfl,hB,hown⟩:=hrel
  have hbs:=hB.size
  by_cases hlt:k<12
  ·go_wp2_with ((with_reducible refine at_igr ?_);refine wpList_igr rfl _ _ f k hlt rfl rfl rfl ?_)
   obtain ⟨hfk,hcl⟩:=HGh.out k hlt
   have hO:=grO_le k hlt
   have HGO:=zq (show grO k=(grN k).map fun s=>(⟨s,grT k,grP k⟩:OpR) from rfl)
   have HCL:=zq hcl
   clear hcl
   generalize grN k=N at *
   generalize grT k=T at *
   generalize grP k=P at *
   have hTO:(118:Nat)≠61:=by decide
   go_loopw [0,38] (fun v0 i wi=>∃j:Nat,j≤N.length∧i=.int .i64 j∧Below wb.heap.size wb wi∧wr.heap.size<wi.heap.size∧wi.heap[wr.heap.size]? = some (.cells #[.int .i64 P,.int .i64 T,.slice (some ⟨f k,0,none⟩) N.length N.length] 118)∧wi.ownsRow wb.heap.size 61 3 v0 ((preL k).length+j) (opsCells (preL k++(N.take j).map fun s=>(⟨s,T,P⟩:OpR)))) (fun _ i _=>N.length-(intOf i).toNat)
   case atStart=>exact ⟨0,Nat.zero_le _,rfl,hB.alloc hbs _,by simp,heap_alloc_new _ _,by simpa using hown.alloc _⟩
   case round=>
    obtain ⟨j,hj,rfl,hBi,hgl,hg3,howni⟩:=hrel
    have hbi:=hBi.size
    by_cases hlj:j<N.length
    ·have x0:_=some (Value.int .i64 P):=cell_of_heap hg3 0
     have x1:_=some (Value.int .i64 T):=cell_of_heap hg3 1
     have cc:=(hBi.cell (p:=⟨f k,j,none⟩) hfk).trans (HCL.out j hlj)
     have HTk:=zq (List.take_succ_eq_append_getElem hlj)
     have hl63:(preL k).length+j≤70368744:=by omega
     have HOw:=zq howni
     have HG3:=zq hg3
     clear howni hg3
     generalize N[j]=s at *
     go_wp2_with ((with_reducible refine at_appOO ?_);go_must (refine wpList_append_op rfl _ _ rfl wb.heap.size _ _ _ rfl _ HOw.out ⟨s,T,P⟩ rfl rfl hl63 hbi ?_;intro v1 w4 hown4 hB4 hg4))
     go_roundw
     case rel=>
      refine ⟨j+1,by omega,by go_num,hBi.trans hB4,?_,?_,?_⟩
      ·have:=hg4.size;simp at this;omega
      ·rw [hg4.block _ (by simp;omega) (own_ne_type HOw.out HG3.out hTO),←HG3.out]
       exact (World.grownBy_alloc _ _ none).block _ hgl (by simp)
      ·rw [HTk.out,List.map_append,←List.append_assoc]
       exact hown4
     case measure=>simp [intOf] <;> omega
    ·have hjn:j=N.length:=by omega
     subst hjn
     go_wp2_with fail
     go_roundw
     case rel=>
      refine ⟨k+1,by omega,by go_num,hBi,?_⟩
      rw [preL_succ,HGO.out,List.length_append,List.length_map]
      rw [List.take_length] at howni
      exact howni
     case measure=>simp [intOf] <;> omega
  ·have hk12:k=12:=by omega
   subst hk12
   rw [preL_len] at hown
   obtain ⟨g2,cap,rfl⟩:=own_some hown (by omega)
   have HC:=zq (HS wr g2 cap wb.heap.size wb hown hB)
   clear hown hlt hk
   go_wp2_with fail
   refine HC.out.mono ?_;rintro e w7 ⟨rfl,hB7,hO7⟩
   have HO7:=zq hO7
   clear hO7
   go_wp2_with fail
   go_ret
   first | exact ⟨g2,cap,rfl,cw.trans (hB7.mono cw.size),HO7.out⟩ | exact ⟨g2,⟨cap,rfl⟩,cw.trans (hB7.mono cw.size),HO7.out⟩
end Go.Proofs.YtbojljpldcijgaaGreat
namespace Hb
open Go Go.RowKit Go.Sort Go.Proofs
theorem befOp_iff (a b:OpR):befOp a b=true↔a.name.toList<b.name.toList∨(a.name.toList=b.name.toList∧clsOp a.typ<clsOp b.typ):=by
 unfold befOp
 by_cases h:a.name.toList=b.name.toList
 ·have hi:¬b.name.toList<b.name.toList:=List.lt_irrefl _
  simp [h,hi]
 ·have h2:(a.name.toList==b.name.toList)=false:=by simpa using h
  rw [h2,if_neg (by simp),bytesLess_eq]
  simp [h]
theorem ltOf_bef (a b:OpR):ltOf cmpOp a b=befOp a b:=(befOp_cmp a b).symm
theorem swo_op:SWO (ltOf cmpOp) where
 irrefl x:=by
  rw [ltOf_bef,←Bool.not_eq_true,befOp_iff]
  rintro (h | ⟨_,h⟩)
  ·exact List.lt_irrefl _ h
  ·omega
 trans x y z h1 h2:=by
  rw [ltOf_bef,befOp_iff] at *
  rcases h1 with h1 | ⟨e1,h1⟩ <;> rcases h2 with h2 | ⟨e2,h2⟩
  ·exact .inl (List.lt_trans h1 h2)
  ·exact .inl (e2 ▸ h1)
  ·exact .inl (e1 ▸ h2)
  ·exact .inr ⟨e1.trans e2,by omega⟩
 ntrans x y z h1 h2:=by
  rw [ltOf_bef,←Bool.not_eq_true,befOp_iff] at *
  rintro h
  have a1:y.name.toList≤x.name.toList:=fun h=>h1 (.inl h)
  have a2:z.name.toList≤y.name.toList:=fun h=>h2 (.inl h)
  rcases h with h | ⟨e,h⟩
  ·exact List.lt_irrefl _ (List.lt_of_le_of_lt (List.le_trans a2 a1) h)
  ·have e1:y.name.toList=x.name.toList:=List.le_antisymm a1 (by rw [e];exact a2)
   have c1:¬clsOp x.typ<clsOp y.typ:=fun hh=>h1 (.inr ⟨e1.symm,hh⟩)
   have c2:¬clsOp y.typ<clsOp z.typ:=fun hh=>h2 (.inr ⟨e1.trans e,hh⟩)
   omega
theorem defL_sorted:defL.Pairwise fun a b=>befOp b a=false:=by decide +kernel
theorem defL_apart:∀a∈defL,∀b∈defL,befOp b a=false→befOp a b=false→a=b:=by decide +kernel
theorem defL_len:defL.length=41:=by decide +kernel
theorem sorted_defL (d:Array OpR) (h:d.toList.Perm (preL 12)) (hs:∀i j,i<j→j<41→ltOf cmpOp d[j]! d[i]! = false):d.toList=defL:=by
 have hp:d.toList.Perm defL:=h.trans defL_perm.symm
 have hl:d.size=41:=by
  have:=hp.length_eq
  rw [defL_len] at this
  simpa using this
 have hpw:d.toList.Pairwise fun a b=>befOp b a=false:=by
  rw [List.pairwise_iff_getElem]
  intro i j hi hj hij
  have:=hs i j hij (by simp at hj;omega)
  rw [ltOf_bef] at this
  have e1:d[j]! = d.toList[j]:=by rw [getElem!_pos d j (by simpa using hj)];simp
  have e2:d[i]! = d.toList[i]:=by rw [getElem!_pos d i (by simpa using hi)];simp
  rw [e1,e2] at this
  exact this
 exact hp.eq_of_pairwise (fun a b ha hb h1 h2=>defL_apart a (hp.subset ha) b hb h1 h2) hpw defL_sorted
theorem opsCells_get:∀(l:List OpR) (j:Nat),j<l.length * 3→(opsCells l)[j]? = some ((opCells l[j / 3]!)[j % 3]!)
 | [],j,h=>absurd h (by simp)
 | o::l,j,h=>by
  have e:opsCells (o::l)=opCells o++opsCells l:=rfl
  rw [e]
  by_cases hj:j<3
  ·have:j=0∨j=1∨j=2:=by omega
   rcases this with rfl|rfl|rfl <;> rfl
  ·have ih:=opsCells_get l (j-3) (by simp at h;omega)
   rw [List.getElem?_append_right (by simp [opCells];omega)]
   have e1:(opCells o).length=3:=rfl
   have e2:j / 3=(j-3) / 3+1:=by omega
   have e3:j % 3=(j-3) % 3:=by omega
   rw [e1,ih,e2,e3]
   simp
theorem grows_of {w w':World} (h:Below w.heap.size w w') (hd:w.drawn≤w'.drawn):∃q os',w'=Sort.grow (w.drewN q) os':=by
 refine ⟨w'.drawn-w.drawn,w'.heap.extract w.heap.size w'.heap.size,?_⟩
 have hh:w'.heap=w.heap++w'.heap.extract w.heap.size w'.heap.size:=by
  apply Array.ext_getElem?
  intro i
  by_cases hi:i<w.heap.size
  ·rw [h.block i hi,Array.getElem?_append_left hi]
  ·rw [Array.getElem?_append_right (by omega),Array.getElem?_extract]
   have:=h.size
   by_cases h2:i<w'.heap.size
   ·rw [if_pos (by omega)];congr 1;omega
   ·rw [if_neg (by omega),Array.getElem?_eq_none (by omega)]
 obtain ⟨H',t',d',o',u'⟩:=w'
 obtain ⟨H,t,d,o,u⟩:=w
 have e1:=h.os
 have e2:=h.tape
 have e3:=h.output
 simp only [] at e1 e2 e3 hh hd
 subst e1 e2 e3
 unfold Sort.grow World.drewN
 simp only []
 rw [←hh]
 congr 1
 omega
end Hb
namespace Go.Proofs.YtbojljpldcijgaaGreat
open Go.RowKit Hb Go.Sort
set_option maxRecDepth 100000
theorem sorted_heap (W:World) (g n:Nat) (d:Array OpR) (os:Array Obj):(sortWorldK opCells 3 W g 0 n d os).heap=W.heap.modify g (onCells (putCells id 0 (flatK opCells 3 d)))++os:=rfl
theorem below_sorted {B g n:Nat} {w0 W:World} (hB:Below B w0 W) (hg:B≤g) (hW:g<W.heap.size) (d:Array OpR) (os:Array Obj):Below B w0 (sortWorldK opCells 3 W g 0 n d os):=by
 refine hB.trans ⟨rfl,rfl,rfl,?_,fun k hk=>?_⟩
 ·rw [sorted_heap];simp
 ·rw [sorted_heap,Array.getElem?_append_left (by simp;omega),Array.getElem?_modify,if_neg (by omega)]
theorem sort_said:SortSaid:=by
 intro W g cap B w0 hown hB
 obtain ⟨hBg,hlt⟩:=hown.lt g rfl
 have hsz:(preL 12).toArray.size=41:=by rw [List.size_toArray,preL_len]
 have eg:∀args w,(callFunc 75 args).run Tryz.prog w=.ok (.enter 75 args) w:=enters_of Tryz.func75 (by kernel_rfl) rfl
 have aE:∀w,(isAgg 61).run Tryz.prog w=.ok true w:=fun w=>by kernel_rfl
 have zE:∀w,(Go.sizeOf 61).run Tryz.prog w=.ok 3 w:=fun w=>by kernel_rfl
 have hH:HoldsK opCells 3 W g 0 (preL 12).toArray:=fun j hj=>by
  have hj':j<(preL 12).toArray.size * 3:=by rw [size_flatK] at hj;exact hj
  have hj2:j<(preL 12).length * 3:=by rw [preL_len];rw [hsz] at hj';exact hj'
  refine ⟨?_,hown.frozenAt _⟩
  rw [Nat.zero_add,hown.cellAt j (by rw [preL_len] at hj2;exact hj2),opsCells_get _ j hj2,get_flatK _ _ _ _ hj']
  simp
 have hc:CmpLays Tryz.prog 75 #[] opCells 3 cmpOp g 0 (preL 12).toArray.size W:=fun m os dk _ x y=>
  (op_compare_up x y _).mono fun _ _ ⟨he,hb,hdr⟩=>⟨he,grows_of hb hdr⟩
 have H:=AnyQ.slices_SortFunc Tryz.sortOps 3 aE zE opCells (fun _=>rfl) (fun x v hv=>by simp [opCells] at hv;rcases hv with rfl|rfl|rfl <;> rfl) cmpOp swo_op 75 #[] g 0 cap (preL 12).toArray W eg hc hH hlt (by rw [hsz];decide)
 rw [hsz] at H
 refine H.mono ?_
 rintro e w' ⟨rfl,d',n,os,hp,hs,rfl⟩
 have hd41:d'.size=41:=hp.1.trans hsz
 have hperm:d'.toList.Perm (preL 12):=by
  have:=hp.2.2
  rw [Array.extract_eq_self_of_le (by omega),Array.extract_eq_self_of_le (by omega)] at this
  simpa using this
 have hdl:=sorted_defL d' hperm (fun i j hij hj=>hs i j (Nat.zero_le _) hij hj)
 have hK:HoldsK opCells 3 (sortWorldK opCells 3 W g 0 n d' os) g 0 d':=by
  have h1:HoldsK opCells 3 (Sort.ahead W n) g 0 (preL 12).toArray:=holdsK_ahead _ _ _ _ _ _ _ hH
  have h2:HoldsK opCells 3 (putRowK opCells 3 (Sort.ahead W n) g 0 d') g 0 d':=holdsK_putRowK _ _ _ _ _ _ _ h1 (by rw [hd41,hsz])
  exact holdsK_grow _ _ _ os _ _ _ (by show g<(putRowK opCells 3 (Sort.ahead W n) g 0 d').heap.size;simp [putRowK,putRow,mapBlock,Sort.ahead,hlt]) h2
 have hbel:=below_sorted (n:=n) hB hBg hlt d' os
 refine ⟨rfl,hbel,fun j hj=>?_⟩
 have hj41:j<41:=by rw [defL_len] at hj;exact hj
 have hjd:j<d'.size:=by omega
 have e0:d'[j]! = defL[j]:=by
  rw [getElem!_pos d' j hjd]
  have:d'.toList[j]'(by simpa using hjd)=defL[j]:=by simp only [hdl]
  rw [←this];simp
 have k0:=(hK.cell hjd (c:=0) (by omega)).1
 have k1:=(hK.cell hjd (c:=1) (by omega)).1
 have k2:=(hK.cell hjd (c:=2) (by omega)).1
 rw [e0] at k0 k1 k2
 refine ⟨g,0,rfl,?_,k0,k1,k2⟩
 rw [sorted_heap];simp;omega
end Go.Proofs.YtbojljpldcijgaaGreat
