/- Parts of the proof. -/
import Derived.Test.YtbojljpldcijgaaGreatR12
import Derived.Shelf.SlLaysF0
import Derived.Ground.SlsfProg
import Derived.Test.YtbojljpldcijgaaGreatProg
import Derived.Test.YtbojljpldcijgaaGreatR01
import Derived.Laws.Rows
import Derived.Laws.Tables
import Derived.Laws.CopyOwn
import Derived.Shelf.SlSortCmp.WholeK
import Derived.Laws.OwnMore
import Derived.Laws.AppendOwnNone
import Derived.Lib.SliceRun
set_option maxHeartbeats 12800000
set_option maxRecDepth 100000
set_option linter.unusedSimpArgs false
open Array renaming getElem?_append_left -> eu
open Go renaming Calls -> aU, Operand -> eG, Value -> aC, World -> au, bodyPost_ret -> aw, execOp -> aL, wpList -> cq, wpList_plain -> gk
open Go.Instr renaming buildSlice -> dD
open Go.IntKind renaming i64 -> ab
open Go.Proofs.Tryz renaming func142 -> fD, ntmps142 -> fg, prog -> am, results142 -> fw
open Go.RowKit renaming Below -> aB
open Go.RowKit.Below renaming refl -> ap
open Go.Sem renaming run_bind -> fE
open Go.Sort renaming grow -> dm
open Go.Value renaming agg -> aV, int -> aa, int -> dA, ownBlock -> eJ, pointer -> ar, string -> ac
open List renaming append_nil -> aj, cons_append -> ag, flatMap_append -> eZ, length_append -> bC, length_map -> bZ, mem_cons -> bh, mem_nil_iff -> be, mem_singleton -> aK, nil_append -> ai, range -> aM
open Nat renaming le_refl -> ae, le_trans -> aQ, lt_of_lt_of_le -> aA, lt_succ_self -> bK, reduceAdd -> af, zero_add -> ah, zero_le -> bc
namespace Go.Proofs.YtbojljpldcijgaaGreat
open Go.RowKit Hb
theorem BOut.bad {c:PC} {n:Nat} {a:aC} {w0 w:au} {R:RR (Tm×Nat)} {k:Nat} {e:Ending} (b:R=.error k) (h:AG c a w0 k e w):BOut c n a w0 R e w:=by rw [b];exact h
theorem lR {c:PC} {S:PT} {k n:Nat} {N:aC} {w:au} (hS:qi c S k) (hk:k<=n) (p:PsAt c n (bv c.E.T n) N w) (s:ByteArray) (a:s.data.toList=[40]\/s.data.toList=[91]\/s.data.toList=[123]) :
  aU am 142 #[ar (some ⟨c.P,0,none⟩),ac s] w (BOut c n N w (lB c.E S s.data.toList n)):=by
 obtain ⟨R,HR⟩:=lz (lB c.E S s.data.toList n)
 rw [<-HR.out]
 have x:=zq ((Wk.start p).new [aa ab 0,aa ab 0,ac ⟨#[]⟩,.slice none 0 0] 30 rfl)
 have HS:=zq (fun (f5:Int) (i:Nat) nv' W (hi:n<=i) (h:PsAt c i (bv c.E.T i) nv' W)=>hS f5 i nv' W (aQ hk hi) h)
 have b0:=zq (fun nv' W (h:PsAt c n (bv c.E.T n) nv' W)=>yh hS hk h)
 have a9:=zq (fun (f:ByteArray) nv' W (h:PsAt c (n+1) (bv c.E.T (n+1)) nv' W)=>oq hS (by omega:k<=n+1+1) h f)
 have c6:=zq (fun (f:ByteArray) h W=>oX f h W)
 have c7:=zq (fun (f:ByteArray) (A:Option Addr) (m c8:Nat) (W:au)=>iV f A m c8 W)
 clear p hS hk
 rcases a with a | a | a
 ·skip
  have x0:(s.toList==[40])=true:=by rw [eM,a];rfl
  have x1:(s.toList==[91])=false:=by rw [eM,a];rfl
  have x2:(s.toList==[123])=false:=by rw [eM,a];rfl
  have J:Hid (R=match S 1200 n with | .error e=>.error e | .ok (t,_,m)=>gy c.E [41] m (t)):=zq (by rw [HR.out,a];rfl)
  clear a HR b0 a9
  rcases hx:S 1200 n with e | ⟨t,pr,m⟩
  ·skip
   have y:Hid (R=.error e):=zq (by rw [J.out,hx])
   have q:∀W,PsAt c n (bv c.E.T n) N W->aU am 56 #[ar (some ⟨c.P,0,none⟩),aa ab 1200] W (TOut c n N W (.error e)):=fun W h=>by rw [<-hx];exact HS.out 1200 n N W (ae _) h
   have q:=zq q
   clear hx
   go_enter fD,fg
   go_wp2_with fail
   refine (q.out _ x.out.p).mono ?_;rintro e U ⟨rfl,H⟩
   exact ⟨rfl,BOut.bad y.out ⟨rfl,x.out.fall H⟩⟩
  ·skip
   have q:∀W,PsAt c n (bv c.E.T n) N W->aU am 56 #[ar (some ⟨c.P,0,none⟩),aa ab 1200] W (TOut c n N W (.ok (t,pr,m))):=fun W h=>by rw [<-hx];exact HS.out 1200 n N W (ae _) h
   have a3:Hid (R=gy c.E [41] m (t)):=zq (by rw [J.out,hx])
   have q:=zq q
   clear hx J HS
   go_enter fD,fg
   go_wp2_with fail
   refine (q.out _ x.out.p).mono ?_;rintro e w1 ⟨X,B,C,a2,rfl,j,a,z⟩
   have a0:=zq (Trm.sub (w0:=w) (F:=[w.heap.size]) z x.out.s.size (by intro b d;rw [aK] at d;subst d;exact x.out.b.lt 0 rfl))
   have Z:=zq X
   clear z X
   have o:=zq (x.out.step j a)
   clear x
   clear j a
   clear q
   have b3:=zq (o.out.new [aa ab t.kind,aa ab t.num,ac t.name,.slice B t.args.length C] 30 (g:=w1.heap.size) (by simp))
   have e2:=zq (a0.out.new (.cells #[aa ab t.kind,aa ab t.num,ac t.name,.slice B t.args.length C] 30) (g:=w1.heap.size) (by simp))
   clear o a0
   unfold fI
   cases hc:dp (c.E.at m) [41]
   ·skip
    have y:Hid (R=.error m):=zq (by rw [a3.out];unfold gy;rw [hc];rfl)
    go_wp2_with fail
    refine (kb b3.out.p ⟨#[41]⟩ hc).mono ?_;rintro e U ⟨rfl,H⟩
    exact ⟨rfl,BOut.bad y.out ⟨rfl,b3.out.fall H⟩⟩
   have y:Hid (R=.ok (t,m+1)):=zq (by rw [a3.out];unfold gy;rw [hc];rfl)
   have O:=zq (dP hc)
   clear a3
   go_wp2_with fail
   refine (jw b3.out.p ⟨#[41]⟩ hc).mono ?_;rintro e w4 ⟨rfl,j,a⟩
   have K:=zq (b3.out.step (PsAt.skip O.out b3.out.p.n1 j) a)
   have a8:=zq (e2.out.step a)
   clear b3 e2
   clear j a
   clear hc O
   have a1:=K.out.b.all
   simp only [PC.cells,ag,ai,aj,aH,aP,ah,af,and_true] at a1
   go_wp2_with fail
   have I:=K.out.put4 1 rfl (aa ab t.kind) (aa ab t.num) (ac t.name) (.slice B t.args.length C) (ae _)
   have z:=a8.out.put (g:=w.heap.size) (by simp) (fun b d=>bH _ _ (aa ab t.kind) (aa ab t.num) (ac t.name) (.slice B t.args.length C) b d) (by simp)
   refine aw (v:=aV #[aa ab t.kind,aa ab t.num,ac t.name,.slice B t.args.length C]) (by simp [results,fw,go_sem,a1]) rfl ?_
   rw [y.out]
   exact ⟨by have:=Z.out;omega,B,C,a2,rfl,I.p,I.s,z.out⟩
 ·cases hcl:dp (c.E.at n) [93]
  rotate_left
  ·skip
   have x0:(s.toList==[40])=false:=by rw [eM,a];rfl
   have x1:(s.toList==[91])=true:=by rw [eM,a];rfl
   have x2:(s.toList==[123])=false:=by rw [eM,a];rfl
   have J:Hid (R=jE c.E S ⟨#[91,93]⟩ (n+1)):=zq (by rw [HR.out,a];unfold lB;simp [hcl])
   have HM:=zq (x.out.p.more (jA hcl))
   have O:=zq (dP hcl)
   clear a HR HS b0 c7
   rcases hx:ky c.E S ⟨#[91,93]⟩ (n+1) with e | ⟨ou,m⟩
   ·skip
    have y:Hid (R=.error e):=zq (by rw [J.out];unfold jE;rw [hx])
    go_enter fD,fg
    go_wp2_with fail
    refine (it x.out.p ⟨#[93]⟩ hcl).mono ?_;rintro e w1 ⟨rfl,j,a⟩
    have o:=zq (x.out.step (PsAt.skip O.out x.out.p.n1 j) a)
    clear x
    clear j a
    have M:=a9.out ⟨#[91,93]⟩ N _ o.out.p
    rw [hx] at M
    have q:=zq M
    clear M hx
    go_wp2_with fail
    refine (q.out).mono ?_;rintro e U ⟨rfl,H⟩
    exact ⟨rfl,BOut.bad y.out ⟨rfl,o.out.fall H⟩⟩
   ·skip
    go_enter fD,fg
    go_wp2_with fail
    refine (it x.out.p ⟨#[93]⟩ hcl).mono ?_;rintro e w1 ⟨rfl,j,a⟩
    have o:=zq (x.out.step (PsAt.skip O.out x.out.p.n1 j) a)
    clear x
    clear j a
    have M:=a9.out ⟨#[91,93]⟩ N _ o.out.p
    rw [hx] at M
    have q:=zq M
    clear M
    rcases ou with _ | u
    ·skip
     have y:Hid (R=.ok (qj ⟨#[91,93]⟩,m)):=zq (by rw [J.out];unfold jE;rw [hx])
     clear hx J
     go_wp2_with fail
     refine (q.out).mono ?_;rintro e w3 ⟨a7,rfl,j,a⟩
     have V:=zq (o.out.step j a)
     clear o
     clear j a
     have d2:=zq a7
     clear a7 q
     have K:=zq (V.out.new [aa ab 0,aa ab 0,ac ⟨#[]⟩,.slice none 0 0] 30 (g:=w3.heap.size) (by simp))
     clear V
     have a1:=K.out.b.all
     simp only [PC.cells,ag,ai,aj,aH,aP,ah,af,and_true] at a1
     go_wp2_with fail
     refine (c6.out ⟨#[91,93]⟩ (by decide) _).mono ?_;rintro e w7 ⟨Y,ca,rfl,G⟩
     have b9:=zq (K.out.call G)
     clear K a1
     clear G 
     have c2:=b9.out.b.all
     simp only [PC.cells,ag,ai,aj,aH,aP,ah,af,and_true] at c2
     go_wp2_with fail
     have I:=b9.out.put4 1 rfl (aa ab 2) (aa ab 0) (ac ⟨#[91,93]⟩) (.slice Y 0 ca) (ae _)
     refine aw (v:=aV #[aa ab 2,aa ab 0,ac ⟨#[91,93]⟩,.slice Y 0 ca]) (by simp [results,fw,go_sem,c2]) rfl ?_
     rw [y.out]
     have a7:=d2.out
     subst a7
     exact ⟨bK _,Y,ca,N,rfl,I.p,I.s,TmsK.nil⟩
    ·skip
     have y:Hid (R=.ok (u,m)):=zq (by rw [J.out];unfold jE;rw [hx])
     clear hx J
     go_wp2_with fail
     refine (q.out).mono ?_;rintro e w3 ⟨X,B,C,a2,rfl,j,a,z⟩
     have a0:=zq (Trm.sub (w0:=w) (F:=[w.heap.size]) z o.out.s.size (by intro b d;rw [aK] at d;subst d;exact o.out.b.lt 0 rfl))
     have Z:=zq X
     clear z X
     have V:=zq (o.out.step j a)
     clear o
     clear j a
     clear q
     unfold fI
     have K:=zq (V.out.new [aa ab u.kind,aa ab u.num,ac u.name,.slice B u.args.length C] 30 (g:=w3.heap.size) (by simp))
     have a8:=zq (a0.out.new (.cells #[aa ab u.kind,aa ab u.num,ac u.name,.slice B u.args.length C] 30) (g:=w3.heap.size) (by simp))
     clear V a0
     have a1:=K.out.b.all
     simp only [PC.cells,ag,ai,aj,aH,aP,ah,af,and_true] at a1
     go_wp2_with fail
     have I:=K.out.put4 1 rfl (aa ab u.kind) (aa ab u.num) (ac u.name) (.slice B u.args.length C) (ae _)
     have z:=a8.out.put (g:=w.heap.size) (by simp) (fun b d=>bH _ _ (aa ab u.kind) (aa ab u.num) (ac u.name) (.slice B u.args.length C) b d) (by simp)
     refine aw (v:=aV #[aa ab u.kind,aa ab u.num,ac u.name,.slice B u.args.length C]) (by simp [results,fw,go_sem,a1]) rfl ?_
     rw [y.out]
     exact ⟨by have:=Z.out;omega,B,C,a2,rfl,I.p,I.s,z.out⟩
  ·skip
   have x0:(s.toList==[40])=false:=by rw [eM,a];rfl
   have x1:(s.toList==[91])=true:=by rw [eM,a];rfl
   have x2:(s.toList==[123])=false:=by rw [eM,a];rfl
   have J:Hid (R=qZ c.E S n):=zq (by rw [HR.out,a];unfold lB;simp [hcl])
   have b6:=zq hcl
   clear hcl a HR a9 c7
   rcases hx:kN c.E S n with e | ⟨l,m⟩
   ·skip
    have y:Hid (R=.error e):=zq (by rw [J.out];unfold qZ;rw [hx])
    go_enter fD,fg
    go_wp2_with fail
    refine (iK x.out.p ⟨#[93]⟩ b6.out).mono ?_;rintro e w1 ⟨rfl,G⟩
    have o:=zq (x.out.call G)
    clear x
    clear G 
    have M:=b0.out N _ o.out.p
    rw [hx] at M
    have q:=zq M
    clear M hx
    go_wp2_with fail
    refine (q.out).mono ?_;rintro e U ⟨rfl,H⟩
    exact ⟨rfl,BOut.bad y.out ⟨rfl,o.out.fall H⟩⟩
   ·skip
    have a3:Hid (R=match sJ c.E S m with | .error e=>.error e | .ok (t,i)=>gy c.E [93] i (la l t)):=zq (by rw [J.out];unfold qZ;rw [hx];rfl)
    go_enter fD,fg
    go_wp2_with fail
    refine (iK x.out.p ⟨#[93]⟩ b6.out).mono ?_;rintro e w1 ⟨rfl,G⟩
    have o:=zq (x.out.call G)
    clear x
    clear G 
    have M:=b0.out N _ o.out.p
    rw [hx] at M
    have q:=zq M
    clear M hx b0 J b6
    go_wp2_with fail
    refine (q.out).mono ?_;rintro e w3 ⟨X,A,c8,a2,rfl,j,a,z⟩
    have d4:=zq (Trm.sub (w0:=w) (F:=[w.heap.size]) z o.out.s.size (by intro b d;rw [aK] at d;subst d;exact o.out.b.lt 0 rfl))
    have Z:=zq X
    clear z X
    have V:=zq (o.out.step j a)
    clear o
    clear j a
    go_wp2_with fail
    refine (c6.out ⟨#[91,93]⟩ (by decide) _).mono ?_;rintro e w5 ⟨Y,ca,rfl,G⟩
    have e0:=zq (V.out.call G)
    have d6:=zq (d4.out.call G)
    clear V d4
    clear G q
    obtain ⟨tb,d3⟩:=lz (w5.heap.size)
    have Q:=zq (e0.out.new [aa ab 2,aa ab 0,ac ⟨#[91,93]⟩,.slice Y 0 ca] 30 (g:=w5.heap.size) (by simp))
    have b1:=zq (d6.out.new (.cells #[aa ab 2,aa ab 0,ac ⟨#[91,93]⟩,.slice Y 0 ca] 30) (g:=w5.heap.size) (by simp))
    clear e0 d6
    have f4:Hid (w.heap.size<=tb):=zq (by rw [d3.out];have:=Q.out.b.lt 1 rfl;have:=Q.out.s.size;simp at *;omega)
    go_upto_region 16 with fail
    obtain ⟨wt,e5⟩:=lz ((w5.alloc (.cells #[aa ab 2,aa ab 0,ac ⟨#[91,93]⟩,.slice Y 0 ca] 30)))
    rw [<-e5.out] at Q b1 |-
    rw [<-d3.out] at Q b1 |-
    clear e5 d3 c6
    cases d:dp (c.E.at m) [124]
    ·skip
     have a5:Hid (R=gy c.E [93] m (la l kn)):=zq (by rw [a3.out];unfold sJ;rw [d];rfl)
     clear a3 HS
     go_wp2_with fail
     refine (iK Q.out.p ⟨#[124]⟩ d).mono ?_;rintro e w8 ⟨rfl,G⟩
     have L:=zq (Q.out.call G)
     have b8:=zq (b1.out.call G)
     clear Q b1
     clear G d
     cases hd:dp (c.E.at m) [93]
     ·skip
      have y:Hid (R=.error m):=zq (by rw [a5.out];unfold gy;rw [hd];rfl)
      go_wp2_with fail
      refine (kb L.out.p ⟨#[93]⟩ hd).mono ?_;rintro e U ⟨rfl,H⟩
      exact ⟨rfl,BOut.bad y.out ⟨rfl,L.out.fall H⟩⟩
     have y:Hid (R=.ok (la l kn,m+1)):=zq (by rw [a5.out];unfold gy;rw [hd];rfl)
     have O:=zq (dP hd)
     clear a5
     go_wp2_with fail
     refine (jw L.out.p ⟨#[93]⟩ hd).mono ?_;rintro e d0 ⟨rfl,j,a⟩
     have a4:=zq (L.out.step (PsAt.skip O.out L.out.p.n1 j) a)
     have b7:=zq (b8.out.step a)
     clear L b8
     clear j a
     clear hd O
     have c1:=a4.out.b.all
     simp only [PC.cells,ag,ai,aj,aH,aP,ah,af,and_true] at c1
     have a6:=zq (rU (fun b=>c.new a2 w d0 b/\b ∉ [tb,w.heap.size]) l A l.length c8 kn Y ca d0 rfl (fun b d=>d.1.2.1) b7.out TmsK.nil)
     rw [show fI kn Y ca=aV #[aa ab 2,aa ab 0,ac ⟨#[91,93]⟩,.slice Y 0 ca] from rfl] at a6
     obtain ⟨D,c0⟩:=lz (la l kn)
     rw [<-c0.out] at a6 y
     clear c0
     go_wp2_with fail
     refine a6.out.mono ?_;rintro e U ⟨A9,c9,rfl,H,c3⟩
     have c4:TmsK (fun b=>c.new a2 w U b/\b ∉ [w.heap.size]) U A9 D.args:=c3.keep (fun _ _=>rfl) fun b d=>by
      rcases d with d | d
      ·exact ⟨⟨d.1.1,aA d.1.2.1 H.size,d.1.2.2⟩,fun e=>d.2 (by rw [aK] at e;rw [e];simp)⟩
      ·have h1:=a4.out.s.size
       have h2:=a4.out.b.lt 1 rfl
       exact ⟨⟨by omega,d.2,fun hm=>by have:=a4.out.p.lts hm;omega⟩,fun e=>by rw [aK] at e;omega⟩
     have b5:=zq (show Trm c a2 w U [w.heap.size] A9 D.args from c4)
     have L:=zq (a4.out.call H)
     clear H c3 c4 a6 a4 b7 c1
     unfold fI
     have e8:=L.out.b.all
     simp only [PC.cells,ag,ai,aj,aH,aP,ah,af,and_true] at e8
     go_wp2_with fail
     have I:=L.out.put4 1 rfl (aa ab D.kind) (aa ab D.num) (ac D.name) (.slice A9 D.args.length c9) (ae _)
     have z:=b5.out.put (g:=w.heap.size) (by simp) (fun b d=>bH _ _ (aa ab D.kind) (aa ab D.num) (ac D.name) (.slice A9 D.args.length c9) b d) (by simp)
     refine aw (v:=aV #[aa ab D.kind,aa ab D.num,ac D.name,.slice A9 D.args.length c9]) (by simp [results,fw,go_sem,e8]) rfl ?_
     rw [y.out]
     exact ⟨by have:=Z.out;omega,A9,c9,a2,rfl,I.p,I.s,z.out⟩
    ·skip
     have a5:Hid (R=match S 999 (m+1) with | .error e=>.error e | .ok (t,_,i)=>gy c.E [93] i (la l t)):=zq (by rw [a3.out];unfold sJ;rw [d,if_pos rfl];cases S 999 (m+1) <;> rfl)
     have O:=zq (dP d)
     clear a3
     go_wp2_with fail
     refine (it Q.out.p ⟨#[124]⟩ d).mono ?_;rintro e w8 ⟨rfl,j,a⟩
     have L:=zq (Q.out.step (PsAt.skip O.out Q.out.p.n1 j) a)
     have b8:=zq (b1.out.step a)
     clear Q b1
     clear j a
     have q:=zq (HS.out 999 (m+1) a2 _ (by have:=Z.out;omega) L.out.p)
     clear d O HS
     rcases hx:S 999 (m+1) with e | ⟨t,pr,i⟩
     ·skip
      rw [hx] at q a5
      clear hx
      have y:Hid (R=.error e):=a5
      go_wp2_with fail
      refine (q.out).mono ?_;rintro e U ⟨rfl,H⟩
      exact ⟨rfl,BOut.bad y.out ⟨rfl,L.out.fall H⟩⟩
     ·skip
      rw [hx] at q a5
      clear hx
      have d1:Hid (R=gy c.E [93] i (la l t)):=a5
      clear a5
      go_wp2_with fail
      refine (q.out).mono ?_;rintro e d0 ⟨X,B,C,c5,rfl,j,a,z⟩
      have a0:=zq (Trm.sub (w0:=w) (F:=[tb,w.heap.size]) z L.out.s.size (by intro b d;simp only [bh,be,or_false] at d;rcases d with rfl|rfl;exact L.out.b.lt 0 rfl;exact L.out.b.lt 1 rfl))
      have d8:=zq (Nat.lt_trans Z.out (Nat.lt_of_succ_lt X))
      clear z X Z q
      have Z:=d8
      clear d8
      have a4:=zq (L.out.step j a)
      have b7:=zq (b8.out.step a)
      clear L b8
      clear j a
      unfold fI
      have c1:=a4.out.b.all
      simp only [PC.cells,ag,ai,aj,aH,aP,ah,af,and_true] at c1
      go_upto_region 18 with fail
      have I:=a4.out.put4 0 rfl (aa ab t.kind) (aa ab t.num) (ac t.name) (.slice B t.args.length C) f4.out
      have hl:=b7.out.put (g:=tb) (by simp) (fun b d=>bH _ _ (aa ab t.kind) (aa ab t.num) (ac t.name) (.slice B t.args.length C) b d) (by simp)
      have z:=a0.out.put (g:=tb) (by simp) (fun b d=>bH _ _ (aa ab t.kind) (aa ab t.num) (ac t.name) (.slice B t.args.length C) b d) (by simp)
      obtain ⟨wu,e6⟩:=lz ((((((d0.setCell ⟨tb,0,none⟩ (aa ab t.kind)).setCell ⟨tb,1,none⟩ (aa ab t.num)).setCell ⟨tb,2,none⟩ (ac t.name)).setCell ⟨tb,3,none⟩ (.slice B t.args.length C))))
      rw [<-e6.out] at I hl z |-
      have b4:Hid (Wk c i (bv c.E.T i) N w c5 wu [(tb,[aa ab t.kind,aa ab t.num,ac t.name,.slice B t.args.length C]),(w.heap.size,[aa ab 0,aa ab 0,ac ⟨#[]⟩,.slice none 0 0])]):=zq I
      have d7:=zq hl
      have e4:=zq z
      clear I hl z e6 b7 a0 a4 c1
      cases hd:dp (c.E.at i) [93]
      ·skip
       have y:Hid (R=.error i):=zq (by rw [d1.out];unfold gy;rw [hd];rfl)
       go_wp2_with fail
       refine (kb b4.out.p ⟨#[93]⟩ hd).mono ?_;rintro e U ⟨rfl,H⟩
       exact ⟨rfl,BOut.bad y.out ⟨rfl,b4.out.fall H⟩⟩
      have y:Hid (R=.ok (la l t,i+1)):=zq (by rw [d1.out];unfold gy;rw [hd];rfl)
      have O:=zq (dP hd)
      clear d1
      go_wp2_with fail
      refine (jw b4.out.p ⟨#[93]⟩ hd).mono ?_;rintro e f2 ⟨rfl,j,a⟩
      have b2:=zq (b4.out.step (PsAt.skip O.out b4.out.p.n1 j) a)
      have d5:=zq (d7.out.step a)
      have e1:=zq (e4.out.step a)
      clear b4 d7 e4
      clear j a
      clear hd O
      have e9:=b2.out.b.all
      simp only [PC.cells,ag,ai,aj,aH,aP,ah,af,and_true] at e9
      have a6:=zq (rU (fun b=>c.new c5 w f2 b/\b ∉ [tb,w.heap.size]) l A l.length c8 t B C f2 rfl (fun b d=>d.1.2.1) d5.out e1.out)
      unfold fI at a6
      obtain ⟨D,c0⟩:=lz (la l t)
      rw [<-c0.out] at a6 y
      clear c0
      go_wp2_with fail
      refine a6.out.mono ?_;rintro e U ⟨A9,c9,rfl,H,c3⟩
      have c4:TmsK (fun b=>c.new c5 w U b/\b ∉ [w.heap.size]) U A9 D.args:=c3.keep (fun _ _=>rfl) fun b d=>by
       rcases d with d | d
       ·exact ⟨⟨d.1.1,aA d.1.2.1 H.size,d.1.2.2⟩,fun e=>d.2 (by rw [aK] at e;rw [e];simp)⟩
       ·have h1:=b2.out.s.size
        have h2:=b2.out.b.lt 1 rfl
        exact ⟨⟨by omega,d.2,fun hm=>by have:=b2.out.p.lts hm;omega⟩,fun e=>by rw [aK] at e;omega⟩
      have b5:=zq (show Trm c c5 w U [w.heap.size] A9 D.args from c4)
      have L:=zq (b2.out.call H)
      clear H c3 c4 a6 b2 d5 e1 e9
      have f0:=L.out.b.all
      simp only [PC.cells,ag,ai,aj,aH,aP,ah,af,and_true] at f0
      go_wp2_with fail
      have I:=L.out.put4 1 rfl (aa ab D.kind) (aa ab D.num) (ac D.name) (.slice A9 D.args.length c9) (ae _)
      have z:=b5.out.put (g:=w.heap.size) (by simp) (fun b d=>bH _ _ (aa ab D.kind) (aa ab D.num) (ac D.name) (.slice A9 D.args.length c9) b d) (by simp)
      refine aw (v:=aV #[aa ab D.kind,aa ab D.num,ac D.name,.slice A9 D.args.length c9]) (by simp [results,fw,go_sem,f0]) rfl ?_
      rw [y.out]
      exact ⟨by have:=Z.out;omega,A9,c9,c5,rfl,I.p,I.s,z.out⟩
 ·cases hcl:dp (c.E.at n) [125]
  rotate_left
  ·skip
   have x0:(s.toList==[40])=false:=by rw [eM,a];rfl
   have x1:(s.toList==[91])=false:=by rw [eM,a];rfl
   have x2:(s.toList==[123])=true:=by rw [eM,a];rfl
   have J:Hid (R=jE c.E S ⟨#[123,125]⟩ (n+1)):=zq (by rw [HR.out,a];unfold lB;simp [hcl])
   have HM:=zq (x.out.p.more (jA hcl))
   have O:=zq (dP hcl)
   clear a HR HS b0 c7
   rcases hx:ky c.E S ⟨#[123,125]⟩ (n+1) with e | ⟨ou,m⟩
   ·skip
    have y:Hid (R=.error e):=zq (by rw [J.out];unfold jE;rw [hx])
    go_enter fD,fg
    go_wp2_with fail
    refine (it x.out.p ⟨#[125]⟩ hcl).mono ?_;rintro e w1 ⟨rfl,j,a⟩
    have o:=zq (x.out.step (PsAt.skip O.out x.out.p.n1 j) a)
    clear x
    clear j a
    have M:=a9.out ⟨#[123,125]⟩ N _ o.out.p
    rw [hx] at M
    have q:=zq M
    clear M hx
    go_wp2_with fail
    refine (q.out).mono ?_;rintro e U ⟨rfl,H⟩
    exact ⟨rfl,BOut.bad y.out ⟨rfl,o.out.fall H⟩⟩
   ·skip
    go_enter fD,fg
    go_wp2_with fail
    refine (it x.out.p ⟨#[125]⟩ hcl).mono ?_;rintro e w1 ⟨rfl,j,a⟩
    have o:=zq (x.out.step (PsAt.skip O.out x.out.p.n1 j) a)
    clear x
    clear j a
    have M:=a9.out ⟨#[123,125]⟩ N _ o.out.p
    rw [hx] at M
    have q:=zq M
    clear M
    rcases ou with _ | u
    ·skip
     have y:Hid (R=.ok (qj ⟨#[123,125]⟩,m)):=zq (by rw [J.out];unfold jE;rw [hx])
     clear hx J
     go_wp2_with fail
     refine (q.out).mono ?_;rintro e w3 ⟨a7,rfl,j,a⟩
     have V:=zq (o.out.step j a)
     clear o
     clear j a
     have d2:=zq a7
     clear a7 q
     have K:=zq (V.out.new [aa ab 0,aa ab 0,ac ⟨#[]⟩,.slice none 0 0] 30 (g:=w3.heap.size) (by simp))
     clear V
     have a1:=K.out.b.all
     simp only [PC.cells,ag,ai,aj,aH,aP,ah,af,and_true] at a1
     go_wp2_with fail
     refine (c6.out ⟨#[123,125]⟩ (by decide) _).mono ?_;rintro e w7 ⟨Y,ca,rfl,G⟩
     have b9:=zq (K.out.call G)
     clear K a1
     clear G 
     have c2:=b9.out.b.all
     simp only [PC.cells,ag,ai,aj,aH,aP,ah,af,and_true] at c2
     go_wp2_with fail
     have I:=b9.out.put4 1 rfl (aa ab 2) (aa ab 0) (ac ⟨#[123,125]⟩) (.slice Y 0 ca) (ae _)
     refine aw (v:=aV #[aa ab 2,aa ab 0,ac ⟨#[123,125]⟩,.slice Y 0 ca]) (by simp [results,fw,go_sem,c2]) rfl ?_
     rw [y.out]
     have a7:=d2.out
     subst a7
     exact ⟨bK _,Y,ca,N,rfl,I.p,I.s,TmsK.nil⟩
    ·skip
     have y:Hid (R=.ok (u,m)):=zq (by rw [J.out];unfold jE;rw [hx])
     clear hx J
     go_wp2_with fail
     refine (q.out).mono ?_;rintro e w3 ⟨X,B,C,a2,rfl,j,a,z⟩
     have a0:=zq (Trm.sub (w0:=w) (F:=[w.heap.size]) z o.out.s.size (by intro b d;rw [aK] at d;subst d;exact o.out.b.lt 0 rfl))
     have Z:=zq X
     clear z X
     have V:=zq (o.out.step j a)
     clear o
     clear j a
     clear q
     unfold fI
     have K:=zq (V.out.new [aa ab u.kind,aa ab u.num,ac u.name,.slice B u.args.length C] 30 (g:=w3.heap.size) (by simp))
     have a8:=zq (a0.out.new (.cells #[aa ab u.kind,aa ab u.num,ac u.name,.slice B u.args.length C] 30) (g:=w3.heap.size) (by simp))
     clear V a0
     have a1:=K.out.b.all
     simp only [PC.cells,ag,ai,aj,aH,aP,ah,af,and_true] at a1
     go_wp2_with fail
     have I:=K.out.put4 1 rfl (aa ab u.kind) (aa ab u.num) (ac u.name) (.slice B u.args.length C) (ae _)
     have z:=a8.out.put (g:=w.heap.size) (by simp) (fun b d=>bH _ _ (aa ab u.kind) (aa ab u.num) (ac u.name) (.slice B u.args.length C) b d) (by simp)
     refine aw (v:=aV #[aa ab u.kind,aa ab u.num,ac u.name,.slice B u.args.length C]) (by simp [results,fw,go_sem,a1]) rfl ?_
     rw [y.out]
     exact ⟨by have:=Z.out;omega,B,C,a2,rfl,I.p,I.s,z.out⟩
  ·skip
   have x0:(s.toList==[40])=false:=by rw [eM,a];rfl
   have x1:(s.toList==[91])=false:=by rw [eM,a];rfl
   have x2:(s.toList==[123])=true:=by rw [eM,a];rfl
   have J:Hid (R=match S 1200 n with | .error e=>.error e | .ok (t,_,m)=>gy c.E [125] m (ju ⟨#[123,125]⟩ [t])):=zq (by rw [HR.out,a];unfold lB;simp [hcl];rfl)
   clear a HR b0 a9
   have b6:=zq hcl
   clear hcl
   rcases hx:S 1200 n with e | ⟨t,pr,m⟩
   ·skip
    have y:Hid (R=.error e):=zq (by rw [J.out,hx])
    have q:∀W,PsAt c n (bv c.E.T n) N W->aU am 56 #[ar (some ⟨c.P,0,none⟩),aa ab 1200] W (TOut c n N W (.error e)):=fun W h=>by rw [<-hx];exact HS.out 1200 n N W (ae _) h
    have q:=zq q
    clear hx
    go_enter fD,fg
    go_wp2_with fail
    refine (iK x.out.p ⟨#[125]⟩ b6.out).mono ?_;rintro e w1 ⟨rfl,G⟩
    have o:=zq (x.out.call G)
    clear x
    clear G 
    go_wp2_with fail
    refine (q.out _ o.out.p).mono ?_;rintro e U ⟨rfl,H⟩
    exact ⟨rfl,BOut.bad y.out ⟨rfl,o.out.fall H⟩⟩
   ·skip
    have q:∀W,PsAt c n (bv c.E.T n) N W->aU am 56 #[ar (some ⟨c.P,0,none⟩),aa ab 1200] W (TOut c n N W (.ok (t,pr,m))):=fun W h=>by rw [<-hx];exact HS.out 1200 n N W (ae _) h
    have a3:Hid (R=gy c.E [125] m (ju ⟨#[123,125]⟩ [t])):=zq (by rw [J.out,hx])
    have q:=zq q
    clear hx J HS
    go_enter fD,fg
    go_wp2_with fail
    refine (iK x.out.p ⟨#[125]⟩ b6.out).mono ?_;rintro e w1 ⟨rfl,G⟩
    have o:=zq (x.out.call G)
    clear x
    clear G 
    go_wp2_with fail
    refine (q.out _ o.out.p).mono ?_;rintro e w3 ⟨X,B,C,a2,rfl,j,a,z⟩
    have a0:=zq (Trm.sub (w0:=w) (F:=[w.heap.size]) z o.out.s.size (by intro b d;rw [aK] at d;subst d;exact o.out.b.lt 0 rfl))
    have Z:=zq X
    clear z X
    have V:=zq (o.out.step j a)
    clear o
    clear j a
    clear q
    have K:=zq (V.out.new [aa ab t.kind,aa ab t.num,ac t.name,.slice B t.args.length C] 30 (g:=w3.heap.size) (by simp))
    have a8:=zq (a0.out.new (.cells #[aa ab t.kind,aa ab t.num,ac t.name,.slice B t.args.length C] 30) (g:=w3.heap.size) (by simp))
    clear V a0
    unfold fI
    cases hc:dp (c.E.at m) [125]
    ·skip
     have y:Hid (R=.error m):=zq (by rw [a3.out];unfold gy;rw [hc];rfl)
     go_wp2_with fail
     refine (kb K.out.p ⟨#[125]⟩ hc).mono ?_;rintro e U ⟨rfl,H⟩
     exact ⟨rfl,BOut.bad y.out ⟨rfl,K.out.fall H⟩⟩
    have y:Hid (R=.ok (ju ⟨#[123,125]⟩ [t],m+1)):=zq (by rw [a3.out];unfold gy;rw [hc];rfl)
    have O:=zq (dP hc)
    clear a3
    go_wp2_with fail
    refine (jw K.out.p ⟨#[125]⟩ hc).mono ?_;rintro e w6 ⟨rfl,j,a⟩
    have Q:=zq (K.out.step (PsAt.skip O.out K.out.p.n1 j) a)
    have e3:=zq (a8.out.step a)
    clear K a8
    clear j a
    clear hc O
    have f1:=Q.out.b.all
    simp only [PC.cells,ag,ai,aj,aH,aP,ah,af,and_true] at f1
    go_wp2_with fail
    have b5:=zq (Trm.row Q.out.p Q.out.s.size (F:=[w3.heap.size,w.heap.size]) (by intro b d;simp only [bh,be,or_false] at d;rcases d with rfl|rfl;exact Q.out.b.lt 0 rfl;exact Q.out.b.lt 1 rfl) 30 [(t,B,C)] (by simp [maxLen]) (by intro r hr;rw [aK] at hr;subst hr;exact e3.out))
    have L:=zq (Q.out.call ((ap w6.heap.size w6).alloc (ae _) (.cells (dM [(t,B,C)]).toArray 30)))
    clear e3 Q f1
    refine (c7.out _ _ _ _ _).mono ?_;rintro e U ⟨rfl,G⟩
    have d9:=zq (L.out.call G)
    have f3:=zq (b5.out.call G)
    clear L b5
    clear G 
    have e7:=d9.out.b.all
    simp only [PC.cells,ag,ai,aj,aH,aP,ah,af,and_true] at e7
    go_wp2_with fail
    have I:=d9.out.put4 1 rfl (aa ab 3) (aa ab 0) (ac ⟨#[123,125]⟩) (.slice (some ⟨w6.heap.size,0,none⟩) 1 1) (ae _)
    have z:=f3.out.put (g:=w.heap.size) (by simp) (fun b d=>bH _ _ (aa ab 3) (aa ab 0) (ac ⟨#[123,125]⟩) (.slice (some ⟨w6.heap.size,0,none⟩) 1 1) b d) (by simp)
    refine aw (v:=aV #[aa ab 3,aa ab 0,ac ⟨#[123,125]⟩,.slice (some ⟨w6.heap.size,0,none⟩) 1 1]) (by simp [results,fw,go_sem,e7]) rfl ?_
    rw [y.out]
    exact ⟨by have:=Z.out;omega,_,_,a2,rfl,I.p,I.s,z.out⟩
end Go.Proofs.YtbojljpldcijgaaGreat
namespace Go.Proofs
open Go.Shelf
def Tryz.sortOps_ren:Go.Shelf.Ren:=⟨fun | 6=>74 | 15=>117 | 14=>116 | 28=>163 | 29=>164 | 20=>155 | 21=>156 | 22=>157 | 23=>158 | 24=>159 | 25=>160 | 26=>161 | 27=>162 | 46=>188 | 47=>189 | 48=>190 | 49=>191 | 50=>192 | 57=>200 | n=>n,fun | 22=>22 | 24=>61 | 25=>121 | 3=>3 | 39=>153 | 0=>0 | 53=>193 | 55=>195 | 4=>4 | 46=>187 | 45=>186 | 50=>127 | 5=>5 | 9=>9 | 66=>205 | 70=>209 | 76=>214 | 77=>111 | n=>n,fun | n=>n⟩
theorem Tryz.sortOps:Go.Proofs.SlLaysF0.n6 am Tryz.sortOps_ren:={
 mixed:=by kernel_rfl
 f6:=⟨Tryz.f74.name,by decide,Tryz.func74.trans (congrArg some (by kernel_rfl))⟩
 f14:=⟨Tryz.f116.name,by decide,Tryz.func116.trans (congrArg some (by kernel_rfl))⟩
 f15:=Tryz.func117.trans (congrArg some (by kernel_rfl))
 f20:=⟨Tryz.f155.name,by decide,Tryz.func155.trans (congrArg some (by kernel_rfl))⟩
 f21:=⟨Tryz.f156.name,by decide,Tryz.func156.trans (congrArg some (by kernel_rfl))⟩
 f22:=⟨Tryz.f157.name,by decide,Tryz.func157.trans (congrArg some (by kernel_rfl))⟩
 f23:=⟨Tryz.f158.name,by decide,Tryz.func158.trans (congrArg some (by kernel_rfl))⟩
 f24:=⟨Tryz.f159.name,by decide,Tryz.func159.trans (congrArg some (by kernel_rfl))⟩
 f25:=⟨Tryz.f160.name,by decide,Tryz.func160.trans (congrArg some (by kernel_rfl))⟩
 f26:=⟨Tryz.f161.name,by decide,Tryz.func161.trans (congrArg some (by kernel_rfl))⟩
 f27:=⟨Tryz.f162.name,by decide,Tryz.func162.trans (congrArg some (by kernel_rfl))⟩
 f28:=Tryz.func163.trans (congrArg some (by kernel_rfl))
 f29:=Tryz.func164.trans (congrArg some (by kernel_rfl))
 f46:=⟨Tryz.f188.name,by decide,Tryz.func188.trans (congrArg some (by kernel_rfl))⟩
 f47:=Tryz.func189.trans (congrArg some (by kernel_rfl))
 f48:=Tryz.func190.trans (congrArg some (by kernel_rfl))
 f49:=⟨Tryz.f191.name,by decide,Tryz.func191.trans (congrArg some (by kernel_rfl))⟩
 f50:=⟨Tryz.f192.name,by decide,Tryz.func192.trans (congrArg some (by kernel_rfl))⟩
 f57:=⟨Tryz.f200.name,by decide,Tryz.func200.trans (congrArg some (by kernel_rfl))⟩
 t0:=Tryz.underlying0
 a0:=Tryz.isAgg0
 z0:=Tryz.sizeOf0
 v0:=Tryz.zeroValue0
 t3:=Tryz.underlying3
 a3:=Tryz.isAgg3
 z3:=Tryz.sizeOf3
 v3:=Tryz.zeroValue3
 t4:=Tryz.underlying4
 a4:=Tryz.isAgg4
 z4:=Tryz.sizeOf4
 v4:=Tryz.zeroValue4
 t5:=Tryz.underlying5
 a5:=Tryz.isAgg5
 z5:=Tryz.sizeOf5
 v5:=Tryz.zeroValue5
 t9:=Tryz.underlying9
 a9:=Tryz.isAgg9
 z9:=Tryz.sizeOf9
 v9:=Tryz.zeroValue9
 t22:=Tryz.underlying22
 a22:=Tryz.isAgg22
 z22:=Tryz.sizeOf22
 v22:=Tryz.zeroValue22
 t25:=Tryz.underlying121
 a25:=Tryz.isAgg121
 z25:=Tryz.sizeOf121
 v25:=Tryz.zeroValue121
 t39:=Tryz.underlying153
 a39:=Tryz.isAgg153
 z39:=Tryz.sizeOf153
 v39:=Tryz.zeroValue153
 t45:=Tryz.underlying186
 a45:=Tryz.isAgg186
 z45:=Tryz.sizeOf186
 v45:=Tryz.zeroValue186
 t46:=Tryz.underlying187
 a46:=Tryz.isAgg187
 z46:=Tryz.sizeOf187
 v46:=Tryz.zeroValue187
 t50:=Tryz.underlying127
 a50:=Tryz.isAgg127
 z50:=Tryz.sizeOf127
 v50:=Tryz.zeroValue127
 t53:=Tryz.underlying193
 a53:=Tryz.isAgg193
 z53:=Tryz.sizeOf193
 v53:=Tryz.zeroValue193
 t55:=Tryz.underlying195
 a55:=Tryz.isAgg195
 z55:=Tryz.sizeOf195
 v55:=Tryz.zeroValue195
 t66:=Tryz.underlying205
 a66:=Tryz.isAgg205
 z66:=Tryz.sizeOf205
 v66:=Tryz.zeroValue205
 t70:=Tryz.underlying209
 a70:=Tryz.isAgg209
 z70:=Tryz.sizeOf209
 v70:=Tryz.zeroValue209
 t76:=Tryz.underlying214
 a76:=Tryz.isAgg214
 z76:=Tryz.sizeOf214
 v76:=Tryz.zeroValue214
 t77:=Tryz.underlying111
 a77:=Tryz.isAgg111
 z77:=Tryz.sizeOf111
 v77:=Tryz.zeroValue111 }
end Go.Proofs
namespace Hb
open Go Go.RowKit
def grs:List (Int×Int×List ByteArray):=[(1200,1,[⟨#[58,45]⟩,⟨#[45,45,62]⟩]),(1200,5,[⟨#[58,45]⟩,⟨#[63,45]⟩]),(1100,2,[⟨#[59]⟩]),(1050,2,[⟨#[45,62]⟩]),(1000,2,[⟨#[44]⟩]),(900,4,[⟨#[92,43]⟩]),(700,1,[⟨#[61]⟩,⟨#[92,61]⟩,⟨#[61,61]⟩,⟨#[92,61,61]⟩,⟨#[64,60]⟩,⟨#[64,61,60]⟩,⟨#[64,62]⟩,⟨#[64,62,61]⟩,⟨#[61,46,46]⟩,⟨#[105,115]⟩,⟨#[61,58,61]⟩,⟨#[61,92,61]⟩,⟨#[60]⟩,⟨#[61,60]⟩,⟨#[62]⟩,⟨#[62,61]⟩]),(500,3,[⟨#[43]⟩,⟨#[45]⟩,⟨#[47,92]⟩,⟨#[92,47]⟩]),(400,3,[⟨#[42]⟩,⟨#[47]⟩,⟨#[47,47]⟩,⟨#[114,101,109]⟩,⟨#[109,111,100]⟩,⟨#[100,105,118]⟩,⟨#[60,60]⟩,⟨#[62,62]⟩]),(200,1,[⟨#[42,42]⟩]),(200,2,[⟨#[94]⟩]),(200,4,[⟨#[43]⟩,⟨#[45]⟩,⟨#[92]⟩])]
def Bz (k:Nat):Int:=(grs.getD k (0,0,[])).1
def By (k:Nat):Int:=(grs.getD k (0,0,[])).2.1
def ve (k:Nat):List ByteArray:=(grs.getD k (0,0,[])).2.2
def sD (k:Nat):Array aC:=((ve k).map Value.string).toArray
def Cy (b:Nat->Nat) (k:Nat):aC:=.slice (some ⟨b k,0,none⟩) (ve k).length (ve k).length
def iA (b:Nat->Nat):Array aC:=((aM 12).flatMap fun k=>[dA ab (Bz k),aa ab (By k),Cy b k]).toArray
def Cq:Array aC:=((aM 12).flatMap fun _=>[dA ab 0,aa ab 0,.slice none 0 0]).toArray
theorem nB (b:Nat->Nat):(iA b).size=36:=rfl
theorem tD (b:Nat->Nat):(iA b).all (·.oneCell')=true:=by kernel_rfl
structure BS (w w1:au) (b:Nat) (k:Nat):Prop where
 bel:aB w.heap.size w w1
 lt:b<w1.heap.size
 le:w.heap.size<=b
 cells:∀j v,(sD k)[j]? = some v->w1.cell? ⟨b,j,none⟩=some v
theorem BS.start (w:au) (k:Nat) (t:TypeId):BS w (w.alloc (.cells (sD k) t)) w.heap.size k where
 bel:=(ap _ _).alloc (ae _) _
 lt:=by simp
 le:=ae _
 cells:=fun j v h=>(World.cell?_alloc_new _ _ _ j).trans h
theorem An (k j:Nat) (h:j<(ve k).length):(sD k)[j]? = some (ac (ve k)[j]):=by
 unfold sD
 simp [h]
theorem BS.out {w a d:au} {b k:Nat} (h:BS w a b k) (c:aB a.heap.size a d):b<d.heap.size/\∀(j:Nat) (e:j<(ve k).length),d.cell? ⟨b,j,none⟩=some (ac (ve k)[j]) :=
 ⟨aA h.lt c.size,fun j e=>(c.cell (p:=⟨b,j,none⟩) h.lt).trans (h.cells j _ (An k j e))⟩
def ij (l:List OpR):List aC:=l.flatMap fd
theorem sd (a b:List OpR):ij (a++b)=ij a++ij b:=by unfold ij;rw [eZ]
def Cp (k:Nat):List OpR:=(ve k).map fun s=>⟨s,By k,Bz k⟩
def jy (k:Nat):List OpR:=(aM k).flatMap Cp
theorem nV (k:Nat):jy (k+1)=jy k++Cp k:=by unfold jy;rw [List.range_succ,eZ];simp
theorem lS:(jy 12).length=41:=by decide +kernel
theorem zY (k:Nat) (h:k<=12):(jy k).length<=41:=by
 have:∀d j,(jy j).length<=(jy (j+d)).length:=by
  intro d
  induction d with
  | zero=>intro j;exact ae _
  | succ d ih=>intro j;refine aQ (ih j) ?_;rw [show j+(d+1)=(j+d)+1 by omega,nV,bC];omega
 have a:=this (12-k) k
 rw [show k+(12-k)=12 by omega,lS] at a
 exact a
theorem BA (k:Nat) (h:k<12):(jy k).length+(ve k).length<=41:=by
 have:=zY (k+1) (by omega)
 rw [nV,bC] at this
 unfold Cp at this
 rw [bZ] at this
 exact this
theorem yw {w:au} {a e size:Nat} {v:aC} {n:Nat} {b:List aC} (h:w.ownsRow a e size v n b) (f:0<n):∃g cap,v=.slice (some ⟨g,0,none⟩) n cap:=by
 rcases h.2 with ⟨_,d⟩ | ⟨g,cap,c,rfl,_⟩
 ·omega
 ·exact ⟨g,cap,rfl⟩
def xt (o:OpR):List OpR->List OpR
 | []=>[o]
 | a::l=>if jB o a<0 then o::a::l else a::xt o l
theorem ri (o:OpR):∀l:List OpR,(xt o l).Perm (o::l)
 | []=>List.Perm.refl _
 | a::l=>by
  unfold xt
  split
  ·exact List.Perm.refl _
  ·exact ((ri o l).cons a).trans (List.Perm.swap o a l)
def vd (a l:List OpR):List OpR:=l.foldl (fun t o=>xt o t) a
theorem oC:∀(l b:List OpR),(vd b l).Perm (b++l)
 | [],b=>by unfold vd;simp
 | o::l,b=>by
  have c:=oC l (xt o b)
  have d:(xt o b++l).Perm (b++o::l):=((ri o b).append_right l).trans (by simpa using (List.perm_middle (a:=o) (l₁:=b) (l₂:=l)).symm)
  exact c.trans d
def defL:List OpR:=vd [] (jy 12)
theorem defL_perm:defL.Perm (jy 12):=by
 have:=oC (jy 12) []
 rw [ai] at this
 exact this
theorem ow {w:au} {b e size:Nat} {v:aC} {n:Nat} {k:List aC} {g:Nat} {c:Array aC} {t:TypeId} {d:Nat×Nat} (h:w.ownsRow b e size v n k) (a:w.heap[g]? = some (.cells c t d)) (j:t≠e):some g≠v.ownBlock:=by
 rcases h.2 with ⟨rfl,_⟩ | ⟨g',l,m,rfl,_,i,_⟩
 ·simp [eJ]
 ·intro f
  have:g=g':=by simpa [eJ] using f
  subst this
  rw [i] at a
  injection a with a
  injection a with _ h2 _
  exact j h2.symm
theorem nF {w:au} {g:Nat} {a:Array aC} {t:TypeId} {b:Nat×Nat} (c:w.heap[g]? = some (.cells a t b)) (j:Nat):w.cell? ⟨g,j,none⟩=a[j]?:=by
 simp [World.cell?,c]
end Hb
namespace Go.Proofs.YtbojljpldcijgaaGreat
open Go.RowKit Hb
theorem yX:(Tryz.prog.info? 119).map (·.size)=some 36:=by kernel_rfl
theorem Bv:(Tryz.prog.info? 61).map (fun i=>(i.zero,i.size,i.bytes))=some (some (aV #[ac ⟨#[]⟩,aa ab 0,aa ab 0]),3,32):=by kernel_rfl
theorem zm {b:Array Oper} {c:List Oper} {a:Act} {Q:Exit->Act->au->Prop} {w:au} {d t p f x g} (h:cq am b Q (⟨d,.call { callee:=.builtin .append,args:=x,argTypes:=#[22,22] },t,p,f,g⟩::c) a w):cq am b Q (⟨d,.call { callee:=.builtin .append,args:=x,argTypes:=#[22,22] },t,p,f,g⟩::c) a w:=h
theorem nI {w:au} {d:Array Oper} {e:List Oper} {o:Oper} {a:Act} {Q:Exit->Act->au->Prop} (j:o.guard=none) (s x:eG)
  (k:o.op=.call { callee:=.builtin .append,args:=#[s,x],argTypes:=#[22,22] })
  (b:Nat) (v:aC) (m:Nat) (l:List OpR) (q:a.eval s=v) (W:au) (p:W.ownsRow b 61 3 v m (ij l)) (r:OpR)
  (t:w=W.alloc (.cells #[ac r.name,aa ab r.typ,aa ab r.prec] 61)) (u:a.eval x=.slice (some ⟨W.heap.size,0,none⟩) 1 1) (y:m<=70368744) (g:b<=W.heap.size)
  (h:∀c w',w'.ownsRow b 61 3 c (m+1) (ij (l++[r]))->aB b W w'->w.grownBy w' v.ownBlock->cq am d Q e (a.put o.dst c) w'):cq am d Q (o::e) a w:=by
 refine eS j s x 22 61 k Tryz.underlying22 _ 3 32 Bv rfl (by decide) b v m _ q W p #[ac r.name,aa ab r.typ,aa ab r.prec] rfl (by simp [Value.oneCell']) t u (by omega) (by omega) g fun c w' n f i=>h c w' ?_ f i
 rw [sd]
 exact n
theorem lI {b:Array Oper} {c:List Oper} {a:Act} {Q:Exit->Act->au->Prop} {w:au} {d n t p f x g} (h:cq am b Q (⟨d,.buildSlice 116 n x,t,p,f,g⟩::c) a w):cq am b Q (⟨d,.buildSlice 116 n x,t,p,f,g⟩::c) a w:=h
theorem BM {b:Array Oper} {c:List Oper} {a:Act} {Q:Exit->Act->au->Prop} {w:au} {d t p f x g} (h:cq am b Q (⟨d,.build 119 x,t,p,f,g⟩::c) a w):cq am b Q (⟨d,.build 119 x,t,p,f,g⟩::c) a w:=h
theorem BN {b:Array Oper} {c:List Oper} {a:Act} {Q:Exit->Act->au->Prop} {w:au} {d t p f g} (h:cq am b Q (⟨d,.alloc 119,t,p,f,g⟩::c) a w):cq am b Q (⟨d,.alloc 119,t,p,f,g⟩::c) a w:=h
theorem BJ {b:Array Oper} {c:List Oper} {a:Act} {Q:Exit->Act->au->Prop} {w:au} {d t p f x y g} (h:cq am b Q (⟨d,.store 119 x y,t,p,f,g⟩::c) a w):cq am b Q (⟨d,.store 119 x y,t,p,f,g⟩::c) a w:=h
theorem BK {b:Array Oper} {c:List Oper} {a:Act} {Q:Exit->Act->au->Prop} {w:au} {d t p f x g} (h:cq am b Q (⟨d,.load 119 x,t,p,f,g⟩::c) a w):cq am b Q (⟨d,.load 119 x,t,p,f,g⟩::c) a w:=h
theorem BL {b:Array Oper} {c:List Oper} {a:Act} {Q:Exit->Act->au->Prop} {w:au} {d t p f x y g} (h:cq am b Q (⟨d,.index 119 x y,t,p,f,g⟩::c) a w):cq am b Q (⟨d,.index 119 x y,t,p,f,g⟩::c) a w:=h
theorem fY {c:Array Oper} {g:List Oper} {o:Oper} {a:Act} {Q:Exit->Act->au->Prop} {w:au} (j:o.guard=none) (k n:Nat) (d:List (Nat×eG)) (f:List (Nat×aC))
  (m:o.op=.buildSlice 116 n d.toArray) (l:d.map (fun x=>(x.fst,a.eval x.snd))=f)
  (p:∀w:au,(dD 116 n f.toArray).run am w=.ok (.slice (some ⟨w.heap.size,0,none⟩) n n) (w.alloc (.cells (sD k) 9)))
  (h:∀b w1,BS w w1 b k->cq am c Q g (a.put o.dst (.slice (some ⟨b,0,none⟩) n n)) w1):cq am c Q (o::g) a w:=by
 refine gk j fun K i=>?_
 have e:(aL a.eval o).run am w=.ok (.value (.slice (some ⟨w.heap.size,0,none⟩) n n)) (w.alloc (.cells (sD k) 9)):=by
  unfold aL
  rw [m]
  simp only [List.map_toArray,l]
  rw [fE,p]
  rfl
 unfold Oper.wp
 rw [e]
 exact i _ _ (h _ _ (BS.start w k _))
theorem ud {c:Array Oper} {i:List Oper} {o:Oper} {a:Act} {Q:Exit->Act->au->Prop} {w:au} (k:o.guard=none) (b:Nat->Nat) (d:List (Nat×eG)) (g:List (Nat×aC))
  (m:o.op=.build 119 d.toArray) (l:d.map (fun x=>(x.fst,a.eval x.snd))=g)
  (n:∀w:au,(Instr.build 119 g.toArray).run am w=.ok (aV (iA b)) w)
  (h:∀f:Nat->Nat,Hid (f=b)->cq am c Q i (a.put o.dst (aV (iA f))) w):cq am c Q (o::i) a w:=by
 refine gk k fun K j=>?_
 have e:(aL a.eval o).run am w=.ok (.value (aV (iA b))) w:=by
  unfold aL
  rw [m]
  simp only [List.map_toArray,l]
  rw [fE,n]
  rfl
 unfold Oper.wp
 rw [e]
 exact j _ _ (h b (zq rfl))
theorem zu (w:au):(Instr.alloc 119 true (.tuple #[])).run am w=.ok (ar (some ⟨w.heap.size,0,none⟩)) (w.alloc (.cells Cq 119)):=by kernel_rfl
theorem ue {c:Array Oper} {d:List Oper} {o:Oper} {a:Act} {Q:Exit->Act->au->Prop} {w:au} (g:o.guard=none) (i:o.op=.alloc 119)
  (h:∀b w1,w1.heap[b]? = some (.cells Cq 119)->w.heap.size<=b->aB w.heap.size w w1->cq am c Q d (a.put o.dst (ar (some ⟨b,0,none⟩))) w1):cq am c Q (o::d) a w:=by
 refine gk g fun K f=>?_
 have e:(aL a.eval o).run am w=.ok (.value (ar (some ⟨w.heap.size,0,none⟩))) (w.alloc (.cells Cq 119)):=by
  unfold aL
  rw [i]
  simp only []
  rw [fE,zu]
  rfl
 unfold Oper.wp
 rw [e]
 exact f _ _ (h _ _ (heap_alloc_new w _) (ae _) ((ap _ _).alloc (ae _) _))
theorem ua {c:Array Oper} {d:List Oper} {o:Oper} {a:Act} {Q:Exit->Act->au->Prop} {w:au} (i:o.guard=none) (x y:eG) {b:Nat} {f:Nat->Nat}
  (j:o.op=.store 119 x y) (k:a.eval x=ar (some ⟨b,0,none⟩)) (l:a.eval y=aV (iA f)) (T:w.heap[b]? = some (.cells Cq 119))
  (h:∀w1,w1.heap[b]? = some (.cells (iA f) 119)->(∀B w0,aB B w0 w->B<=b->aB B w0 w1)->cq am c Q d (a.put o.dst undef) w1):cq am c Q (o::d) a w :=
 wpList_store_row i _ x y j b (iA f) k l _ _ T (by rw [yX,nB]) rfl (tD f)
  (h _ (setRow_heap w b _ _ _ _ T) fun B w0 e g=>below_setRow e g _)
theorem ub {c:Array Oper} {d:List Oper} {o:Oper} {a:Act} {Q:Exit->Act->au->Prop} {w:au} (e:o.guard=none) (x:eG) {b:Nat} {f:Nat->Nat}
  (g:o.op=.load 119 x) (i:a.eval x=ar (some ⟨b,0,none⟩)) (T:w.heap[b]? = some (.cells (iA f) 119))
  (h:cq am c Q d (a.put o.dst (aV (iA f))) w):cq am c Q (o::d) a w :=
 wpList_load_row e _ x g b i _ _ _ _ T Tryz.underlying119 rfl (by rw [yX,nB]) h
theorem CJ (w:au):(dD 116 2 #[(0,ac ⟨#[58,45]⟩),(1,ac ⟨#[45,45,62]⟩)]).run am w=.ok (.slice (some ⟨w.heap.size,0,none⟩) 2 2) (w.alloc (.cells (sD 0) 9)):=by kernel_rfl
theorem CI (w:au):(dD 116 2 #[(0,ac ⟨#[58,45]⟩),(1,ac ⟨#[63,45]⟩)]).run am w=.ok (.slice (some ⟨w.heap.size,0,none⟩) 2 2) (w.alloc (.cells (sD 1) 9)):=by kernel_rfl
theorem CH (w:au):(dD 116 1 #[(0,ac ⟨#[59]⟩)]).run am w=.ok (.slice (some ⟨w.heap.size,0,none⟩) 1 1) (w.alloc (.cells (sD 2) 9)):=by kernel_rfl
theorem CG (w:au):(dD 116 1 #[(0,ac ⟨#[45,62]⟩)]).run am w=.ok (.slice (some ⟨w.heap.size,0,none⟩) 1 1) (w.alloc (.cells (sD 3) 9)):=by kernel_rfl
theorem CF (w:au):(dD 116 1 #[(0,ac ⟨#[44]⟩)]).run am w=.ok (.slice (some ⟨w.heap.size,0,none⟩) 1 1) (w.alloc (.cells (sD 4) 9)):=by kernel_rfl
theorem CE (w:au):(dD 116 1 #[(0,ac ⟨#[92,43]⟩)]).run am w=.ok (.slice (some ⟨w.heap.size,0,none⟩) 1 1) (w.alloc (.cells (sD 5) 9)):=by kernel_rfl
theorem CD (w:au):(dD 116 16 #[(0,ac ⟨#[61]⟩),(1,ac ⟨#[92,61]⟩),(2,ac ⟨#[61,61]⟩),(3,ac ⟨#[92,61,61]⟩),(4,ac ⟨#[64,60]⟩),(5,ac ⟨#[64,61,60]⟩),(6,ac ⟨#[64,62]⟩),(7,ac ⟨#[64,62,61]⟩),(8,ac ⟨#[61,46,46]⟩),(9,ac ⟨#[105,115]⟩),(10,ac ⟨#[61,58,61]⟩),(11,ac ⟨#[61,92,61]⟩),(12,ac ⟨#[60]⟩),(13,ac ⟨#[61,60]⟩),(14,ac ⟨#[62]⟩),(15,ac ⟨#[62,61]⟩)]).run am w=.ok (.slice (some ⟨w.heap.size,0,none⟩) 16 16) (w.alloc (.cells (sD 6) 9)):=by kernel_rfl
theorem CC (w:au):(dD 116 4 #[(0,ac ⟨#[43]⟩),(1,ac ⟨#[45]⟩),(2,ac ⟨#[47,92]⟩),(3,ac ⟨#[92,47]⟩)]).run am w=.ok (.slice (some ⟨w.heap.size,0,none⟩) 4 4) (w.alloc (.cells (sD 7) 9)):=by kernel_rfl
theorem CB (w:au):(dD 116 8 #[(0,ac ⟨#[42]⟩),(1,ac ⟨#[47]⟩),(2,ac ⟨#[47,47]⟩),(3,ac ⟨#[114,101,109]⟩),(4,ac ⟨#[109,111,100]⟩),(5,ac ⟨#[100,105,118]⟩),(6,ac ⟨#[60,60]⟩),(7,ac ⟨#[62,62]⟩)]).run am w=.ok (.slice (some ⟨w.heap.size,0,none⟩) 8 8) (w.alloc (.cells (sD 8) 9)):=by kernel_rfl
theorem Cz (w:au):(dD 116 1 #[(0,ac ⟨#[42,42]⟩)]).run am w=.ok (.slice (some ⟨w.heap.size,0,none⟩) 1 1) (w.alloc (.cells (sD 9) 9)):=by kernel_rfl
theorem Cg (w:au):(dD 116 1 #[(0,ac ⟨#[94]⟩)]).run am w=.ok (.slice (some ⟨w.heap.size,0,none⟩) 1 1) (w.alloc (.cells (sD 10) 9)):=by kernel_rfl
theorem Cf (w:au):(dD 116 3 #[(0,ac ⟨#[43]⟩),(1,ac ⟨#[45]⟩),(2,ac ⟨#[92]⟩)]).run am w=.ok (.slice (some ⟨w.heap.size,0,none⟩) 3 3) (w.alloc (.cells (sD 11) 9)):=by kernel_rfl
theorem zj (a b e f g h i j l m c d:Nat) (w:au):(Instr.build 119 #[(0,aV #[aa ab 1200,aa ab 1,.slice (some ⟨a,0,none⟩) 2 2]),(1,aV #[aa ab 1200,aa ab 5,.slice (some ⟨b,0,none⟩) 2 2]),(2,aV #[aa ab 1100,aa ab 2,.slice (some ⟨e,0,none⟩) 1 1]),(3,aV #[aa ab 1050,aa ab 2,.slice (some ⟨f,0,none⟩) 1 1]),(4,aV #[aa ab 1000,aa ab 2,.slice (some ⟨g,0,none⟩) 1 1]),(5,aV #[aa ab 900,aa ab 4,.slice (some ⟨h,0,none⟩) 1 1]),(6,aV #[aa ab 700,aa ab 1,.slice (some ⟨i,0,none⟩) 16 16]),(7,aV #[aa ab 500,aa ab 3,.slice (some ⟨j,0,none⟩) 4 4]),(8,aV #[aa ab 400,aa ab 3,.slice (some ⟨l,0,none⟩) 8 8]),(9,aV #[aa ab 200,aa ab 1,.slice (some ⟨m,0,none⟩) 1 1]),(10,aV #[aa ab 200,aa ab 2,.slice (some ⟨c,0,none⟩) 1 1]),(11,aV #[aa ab 200,aa ab 4,.slice (some ⟨d,0,none⟩) 3 3])]).run am w=.ok (aV (iA (fun k=>[a,b,e,f,g,h,i,j,l,m,c,d].getD k 0))) w:=by kernel_rfl
theorem Bw (b:Nat->Nat) (w:au):∀(k:Nat),k<12->(Instr.index 119 (aV (iA b)) (aa ab k)).run am w=.ok (aV #[aa ab (Bz k),aa ab (By k),Cy b k]) w
 | 0,_=>by kernel_rfl
 | 1,_=>by kernel_rfl
 | 2,_=>by kernel_rfl
 | 3,_=>by kernel_rfl
 | 4,_=>by kernel_rfl
 | 5,_=>by kernel_rfl
 | 6,_=>by kernel_rfl
 | 7,_=>by kernel_rfl
 | 8,_=>by kernel_rfl
 | 9,_=>by kernel_rfl
 | 10,_=>by kernel_rfl
 | 11,_=>by kernel_rfl
 | _+12,h=>absurd h (by omega)
theorem uc {c:Array Oper} {d:List Oper} {o:Oper} {a:Act} {Q:Exit->Act->au->Prop} {w:au} (g:o.guard=none) (x y:eG) (b:Nat->Nat) (k:Nat) (i:k<12)
  (j:o.op=.index 119 x y) (l:a.eval x=aV (iA b)) (m:a.eval y=aa ab k)
  (h:cq am c Q d (a.put o.dst (aV #[aa ab (Bz k),aa ab (By k),.slice (some ⟨b k,0,none⟩) (ve k).length (ve k).length])) w):cq am c Q (o::d) a w:=by
 refine gk g fun K f=>?_
 have e:(aL a.eval o).run am w=.ok (.value (aV #[aa ab (Bz k),aa ab (By k),Cy b k])) w:=by
  unfold aL
  rw [j]
  simp only [l,m]
  rw [fE,Bw b w k i]
  rfl
 unfold Oper.wp
 rw [e]
 exact f _ _ h
def tX:Prop:=∀(W:World) (g a B:Nat) (w0:au),W.ownsRow B 61 3 (.slice (some ⟨g,0,none⟩) 41 a) 41 (ij (jy 12))->aB B w0 W ->
  aU am 74 #[.slice (some ⟨g,0,none⟩) 41 a,.func (.func 75) #[] #[]] W fun e w'=>e=.returned (.tuple #[])/\aB B w0 w'/\OpsAt w' (some ⟨g,0,none⟩) defL
theorem tn (HS:tX) (w:au) :
  aU am 47 #[] w fun e w'=>∃g b,e=.returned (.slice (some ⟨g,0,none⟩) 41 b)/\aB w.heap.size w w'/\OpsAt w' (some ⟨g,0,none⟩) defL:=by
 go_enter Tryz.func47,Tryz.ntmps47
 go_wp2_with (first
  | ((with_reducible refine lI ?_);have _m:=l;refine fY rfl 11 _ _ _ rfl rfl Cf ?_;intro d6 e7 z)
  | ((with_reducible refine lI ?_);have _m:=v;refine fY rfl 10 _ _ _ rfl rfl Cg ?_;intro d5 e6 l)
  | ((with_reducible refine lI ?_);have _m:=u;refine fY rfl 9 _ _ _ rfl rfl Cz ?_;intro b9 w9 v)
  | ((with_reducible refine lI ?_);have _m:=t;refine fY rfl 8 _ _ _ rfl rfl CB ?_;intro b8 w8 u)
  | ((with_reducible refine lI ?_);have _m:=r;refine fY rfl 7 _ _ _ rfl rfl CC ?_;intro b7 w7 t)
  | ((with_reducible refine lI ?_);have _m:=q;refine fY rfl 6 _ _ _ rfl rfl CD ?_;intro b6 w6 r)
  | ((with_reducible refine lI ?_);have _m:=o;refine fY rfl 5 _ _ _ rfl rfl CE ?_;intro b5 w5 q)
  | ((with_reducible refine lI ?_);have _m:=n;refine fY rfl 4 _ _ _ rfl rfl CF ?_;intro b4 w4 o)
  | ((with_reducible refine lI ?_);have _m:=m;refine fY rfl 3 _ _ _ rfl rfl CG ?_;intro b3 w3 n)
  | ((with_reducible refine lI ?_);have _m:=d;refine fY rfl 2 _ _ _ rfl rfl CH ?_;intro b2 w2 m)
  | ((with_reducible refine lI ?_);have _m:=c;refine fY rfl 1 _ _ _ rfl rfl CI ?_;intro b1 w1 d)
  | ((with_reducible refine lI ?_);refine fY rfl 0 _ _ _ rfl rfl CJ ?_;intro b0 w0 c)
  | ((with_reducible refine BM ?_);refine ud rfl _ _ _ rfl rfl (zj b0 b1 b2 b3 b4 b5 b6 b7 b8 b9 d5 d6) ?_;intro f Y)
  | ((with_reducible refine BN ?_);refine ue rfl rfl ?_;intro g wa a8 C a3)
  | ((with_reducible refine BJ ?_);refine ua rfl _ _ rfl rfl rfl a8 ?_;intro a a9 a4)
  | ((with_reducible refine BK ?_);refine ub rfl _ rfl rfl a9 ?_))
 have J:=a4 _ _ a3 C
 have I:=z.bel.trans (J.mono z.bel.size)
 have U:=l.bel.trans (I.mono l.bel.size)
 have S:=v.bel.trans (U.mono v.bel.size)
 have R:=u.bel.trans (S.mono u.bel.size)
 have Q:=t.bel.trans (R.mono t.bel.size)
 have O:=r.bel.trans (Q.mono r.bel.size)
 have M:=q.bel.trans (O.mono q.bel.size)
 have L:=o.bel.trans (M.mono o.bel.size)
 have K:=n.bel.trans (L.mono n.bel.size)
 have H:=m.bel.trans (K.mono m.bel.size)
 have G:=d.bel.trans (H.mono d.bel.size)
 have y:=c.bel.trans (G.mono c.bel.size)
 have d3:Hid (∀k,k<12->f k<a.heap.size/\∀(j:Nat) (hj:j<(ve k).length),a.cell? ⟨f k,j,none⟩=some (ac (ve k)[j])):=by
  refine zq ?_
  rw [Y.out]
  exact fun
  | 0,_=>c.out G
  | 1,_=>d.out H
  | 2,_=>m.out K
  | 3,_=>n.out L
  | 4,_=>o.out M
  | 5,_=>q.out O
  | 6,_=>r.out Q
  | 7,_=>t.out R
  | 8,_=>u.out S
  | 9,_=>v.out U
  | 10,_=>l.out I
  | 11,_=>z.out J
  | _+12,h=>absurd h (by omega)
 clear Y a9 a8 a3 a4 C G H K L M O Q R S U I J c d m n o q r t u v l z
 go_loopw [0,32] (fun X i wr=>∃k:Nat,k<=12/\i=aa ab k/\aB a.heap.size a wr/\wr.ownsRow a.heap.size 61 3 X (jy k).length (ij (jy k))) (fun _ i _=>12-(intOf i).toNat)
 case atStart=>exact ⟨0,bc _,rfl,ap _ _,World.ownsRow_nil _ _ _ _⟩
 case round=>
  obtain ⟨k,hk,rfl,W,x⟩:=hrel
  have e0:=W.size
  by_cases D:k<12
  ·go_wp2_with ((with_reducible refine BL ?_);refine uc rfl _ _ f k D rfl rfl rfl ?_)
   obtain ⟨e1,a6⟩:=d3.out k D
   have hO:=BA k D
   have d2:=zq (show Cp k=(ve k).map fun s=>(⟨s,By k,Bz k⟩:OpR) from rfl)
   have d1:=zq a6
   clear a6
   generalize ve k=N at *
   generalize By k=T at *
   generalize Bz k=P at *
   have d8:(118:Nat)≠61:=by decide
   go_loopw [0,38] (fun X i F=>∃j:Nat,j<=N.length/\i=aa ab j/\aB a.heap.size a F/\wr.heap.size<F.heap.size/\F.heap[wr.heap.size]? = some (.cells #[aa ab P,aa ab T,.slice (some ⟨f k,0,none⟩) N.length N.length] 118)/\F.ownsRow a.heap.size 61 3 X ((jy k).length+j) (ij (jy k++(N.take j).map fun s=>(⟨s,T,P⟩:OpR)))) (fun _ i _=>N.length-(intOf i).toNat)
   case atStart=>exact ⟨0,bc _,rfl,W.alloc e0 _,by simp,heap_alloc_new _ _,by simpa using x.alloc _⟩
   case round=>
    obtain ⟨j,hj,rfl,A,C,B,E⟩:=hrel
    have d9:=A.size
    by_cases d0:j<N.length
    ·have x0:_=some (dA ab P):=nF B 0
     have x1:_=some (dA ab T):=nF B 1
     have cc:=(A.cell (p:=⟨f k,j,none⟩) e1).trans (d1.out j d0)
     have d4:=zq (List.take_succ_eq_append_getElem d0)
     have e4:(jy k).length+j<=70368744:=by omega
     have a1:=zq E
     have Z:=zq B
     clear E B
     generalize N[j]=s at *
     go_wp2_with ((with_reducible refine zm ?_);go_must (refine nI rfl _ _ rfl a.heap.size _ _ _ rfl _ a1.out ⟨s,T,P⟩ rfl rfl e4 d9 ?_;intro v1 w4 e5 d7 a7))
     go_roundw
     case rel=>
      refine ⟨j+1,by omega,by go_num,A.trans d7,?_,?_,?_⟩
      ·have:=a7.size;simp at this;omega
      ·rw [a7.block _ (by simp;omega) (ow a1.out Z.out d8),<-Z.out]
       exact (World.grownBy_alloc _ _ none).block _ C (by simp)
      ·rw [d4.out,List.map_append,<-List.append_assoc]
       exact e5
     case measure=>simp [intOf] <;> omega
    ·have e2:j=N.length:=by omega
     subst e2
     go_wp2_with fail
     go_roundw
     case rel=>
      refine ⟨k+1,by omega,by go_num,A,?_⟩
      rw [nV,d2.out,bC,bZ]
      rw [List.take_length] at E
      exact E
     case measure=>simp [intOf] <;> omega
  ·have e3:k=12:=by omega
   subst e3
   rw [lS] at x
   obtain ⟨V,b,rfl⟩:=yw x (by omega)
   have HC:=zq (HS wr V b a.heap.size a x W)
   clear x D hk
   go_wp2_with fail
   refine HC.out.mono ?_;rintro e w7 ⟨rfl,a2,a5⟩
   have a0:=zq a5
   clear a5
   go_wp2_with fail
   go_ret
   first | exact ⟨V,b,rfl,y.trans (a2.mono y.size),a0.out⟩ | exact ⟨V,⟨b,rfl⟩,y.trans (a2.mono y.size),a0.out⟩
end Go.Proofs.YtbojljpldcijgaaGreat
namespace Hb
open Go Go.RowKit Go.Sort Go.Proofs
theorem oe (a b:OpR):je a b=true↔a.name.toList<b.name.toList\/(a.name.toList=b.name.toList/\dH a.typ<dH b.typ):=by
 unfold je
 by_cases h:a.name.toList=b.name.toList
 ·have d:¬b.name.toList<b.name.toList:=List.lt_irrefl _
  simp [h,d]
 ·have c:(a.name.toList==b.name.toList)=false:=by simpa using h
  rw [c,if_neg (by simp),bytesLess_eq]
  simp [h]
theorem nr (a b:OpR):ltOf jB a b=je a b:=(og a b).symm
theorem Bb:SWO (ltOf jB) where
 irrefl x:=by
  rw [nr,<-Bool.not_eq_true,oe]
  rintro (h | ⟨_,h⟩)
  ·exact List.lt_irrefl _ h
  ·omega
 trans x y z a h2:=by
  rw [nr,oe] at *
  rcases a with a | ⟨b,a⟩ <;> rcases h2 with h2 | ⟨g,h2⟩
  ·exact .inl (List.lt_trans a h2)
  ·exact .inl (g ▸ a)
  ·exact .inl (b ▸ h2)
  ·exact .inr ⟨b.trans g,by omega⟩
 ntrans x y z a h2:=by
  rw [nr,<-Bool.not_eq_true,oe] at *
  rintro h
  have d:y.name.toList<=x.name.toList:=fun h=>a (.inl h)
  have f:z.name.toList<=y.name.toList:=fun h=>h2 (.inl h)
  rcases h with h | ⟨e,h⟩
  ·exact List.lt_irrefl _ (List.lt_of_le_of_lt (List.le_trans f d) h)
  ·have b:y.name.toList=x.name.toList:=List.le_antisymm d (by rw [e];exact f)
   have i:¬dH x.typ<dH y.typ:=fun c=>a (.inr ⟨b.symm,c⟩)
   have j:¬dH y.typ<dH z.typ:=fun c=>h2 (.inr ⟨b.trans e,c⟩)
   omega
theorem tK:defL.Pairwise fun a b=>je b a=false:=by decide +kernel
theorem vi:∀a∈defL,∀b∈defL,je b a=false->je a b=false->a=b:=by decide +kernel
theorem tL:defL.length=41:=by decide +kernel
theorem sM (d:Array OpR) (h:d.toList.Perm (jy 12)) (r:∀i j,i<j->j<41->ltOf jB d[j]! d[i]! = false):d.toList=defL:=by
 have c:d.toList.Perm defL:=h.trans defL_perm.symm
 have s:d.size=41:=by
  have:=c.length_eq
  rw [tL] at this
  simpa using this
 have q:d.toList.Pairwise fun a b=>je b a=false:=by
  rw [List.pairwise_iff_getElem]
  intro i j o e p
  have:=r i j p (by simp at e;omega)
  rw [nr] at this
  have f:d[j]! = d.toList[j]:=by rw [getElem!_pos d j (by simpa using e)];simp
  have g:d[i]! = d.toList[i]:=by rw [getElem!_pos d i (by simpa using o)];simp
  rw [f,g] at this
  exact this
 exact c.eq_of_pairwise (fun a b m n k l=>vi a (c.subset m) b n k l) q tK
theorem nk:∀(l:List OpR) (j:Nat),j<l.length * 3->(ij l)[j]? = some ((fd l[j / 3]!)[j % 3]!)
 | [],j,h=>absurd h (by simp)
 | o::l,j,h=>by
  have e:ij (o::l)=fd o++ij l:=rfl
  rw [e]
  by_cases f:j<3
  ·have:j=0\/j=1\/j=2:=by omega
   rcases this with rfl|rfl|rfl <;> rfl
  ·have d:=nk l (j-3) (by simp at h;omega)
   rw [List.getElem?_append_right (by simp [fd];omega)]
   have a:(fd o).length=3:=rfl
   have b:j / 3=(j-3) / 3+1:=by omega
   have c:j % 3=(j-3) % 3:=by omega
   rw [a,d,b,c]
   simp
theorem nA {w w':au} (h:aB w.heap.size w w') (hd:w.drawn<=w'.drawn):∃q os',w'=dm (w.drewN q) os':=by
 refine ⟨w'.drawn-w.drawn,w'.heap.extract w.heap.size w'.heap.size,?_⟩
 have e:w'.heap=w.heap++w'.heap.extract w.heap.size w'.heap.size:=by
  apply Array.ext_getElem?
  intro i
  by_cases f:i<w.heap.size
  ·rw [h.block i f,eu f]
  ·rw [Array.getElem?_append_right (by omega),Array.getElem?_extract]
   have:=h.size
   by_cases k:i<w'.heap.size
   ·rw [if_pos (by omega)];congr 1;omega
   ·rw [if_neg (by omega),Array.getElem?_eq_none (by omega)]
 obtain ⟨g,m,j,l,n⟩:=w'
 obtain ⟨H,t,d,o,u⟩:=w
 have a:=h.os
 have b:=h.tape
 have c:=h.output
 simp only [] at a b c e hd
 subst a b c
 unfold dm World.drewN
 simp only []
 rw [<-e]
 congr 1
 omega
end Hb
namespace Go.Proofs.YtbojljpldcijgaaGreat
open Go.RowKit Hb Go.Sort
theorem lP (W:au) (g n:Nat) (d:Array OpR) (os:Array Obj):(sortWorldK fd 3 W g 0 n d os).heap=W.heap.modify g (onCells (putCells id 0 (flatK fd 3 d)))++os:=rfl
theorem sy {B g n:Nat} {w0 W:au} (a:aB B w0 W) (e:B<=g) (c:g<W.heap.size) (d:Array OpR) (b:Array Obj):aB B w0 (sortWorldK fd 3 W g 0 n d b):=by
 refine a.trans ⟨rfl,rfl,rfl,?_,fun k f=>?_⟩
 ·rw [lP];simp
 ·rw [lP,eu (by simp;omega),Array.getElem?_modify,if_neg (by omega)]
theorem wQ:tX:=by
 intro W g C B w0 p I
 obtain ⟨J,o⟩:=p.lt g rfl
 have d:(jy 12).toArray.size=41:=by rw [List.size_toArray,lS]
 have E:∀args w,(callFunc 75 args).run am w=.ok (.enter 75 args) w:=enters_of Tryz.func75 (by kernel_rfl) rfl
 have A:∀w,(isAgg 61).run am w=.ok true w:=fun w=>by kernel_rfl
 have R:∀w,(Go.sizeOf 61).run am w=.ok 3 w:=fun w=>by kernel_rfl
 have q:HoldsK fd 3 W g 0 (jy 12).toArray:=fun j a=>by
  have k:j<(jy 12).toArray.size * 3:=by rw [size_flatK] at a;exact a
  have l:j<(jy 12).length * 3:=by rw [lS];rw [d] at k;exact k
  refine ⟨?_,p.frozenAt _⟩
  rw [ah,p.cellAt j (by rw [lS] at l;exact l),nk _ j l,get_flatK _ _ _ _ k]
  simp
 have L:CmpLays am 75 #[] fd 3 jB g 0 (jy 12).toArray.size W:=fun m f S _ x y=>
  (mA x y _).mono fun _ _ ⟨he,hb,hdr⟩=>⟨he,nA hb hdr⟩
 have H:=AnyQ.slices_SortFunc Tryz.sortOps 3 A R fd (fun _=>rfl) (fun x v s=>by simp [fd] at s;rcases s with rfl|rfl|rfl <;> rfl) jB Bb 75 #[] g 0 C (jy 12).toArray W E L q o (by rw [d];decide)
 rw [d] at H
 refine H.mono ?_
 rintro e w' ⟨rfl,d',n,f,r,Q,rfl⟩
 have M:d'.size=41:=r.1.trans d
 have P:d'.toList.Perm (jy 12):=by
  have:=r.2.2
  rw [Array.extract_eq_self_of_le (by omega),Array.extract_eq_self_of_le (by omega)] at this
  simpa using this
 have N:=sM d' P (fun i j O a=>Q i j (bc _) O a)
 have h:HoldsK fd 3 (sortWorldK fd 3 W g 0 n d' f) g 0 d':=by
  have F:HoldsK fd 3 (Sort.ahead W n) g 0 (jy 12).toArray:=holdsK_ahead _ _ _ _ _ _ _ q
  have G:HoldsK fd 3 (putRowK fd 3 (Sort.ahead W n) g 0 d') g 0 d':=holdsK_putRowK _ _ _ _ _ _ _ F (by rw [M,d])
  exact holdsK_grow _ _ _ f _ _ _ (by show g<(putRowK fd 3 (Sort.ahead W n) g 0 d').heap.size;simp [putRowK,putRow,mapBlock,Sort.ahead,o]) G
 have K:=sy (n:=n) I J o d' f
 refine ⟨rfl,K,fun j a=>?_⟩
 have T:j<41:=by rw [tL] at a;exact a
 have b:j<d'.size:=by omega
 have D:d'[j]! = defL[j]:=by
  rw [getElem!_pos d' j b]
  have:d'.toList[j]'(by simpa using b)=defL[j]:=by simp only [N]
  rw [<-this];simp
 have t:=(h.cell b (c:=0) (by omega)).1
 have u:=(h.cell b (c:=1) (by omega)).1
 have z:=(h.cell b (c:=2) (by omega)).1
 rw [D] at t u z
 refine ⟨g,0,rfl,?_,t,u,z⟩
 rw [lP];simp;omega
end Go.Proofs.YtbojljpldcijgaaGreat
