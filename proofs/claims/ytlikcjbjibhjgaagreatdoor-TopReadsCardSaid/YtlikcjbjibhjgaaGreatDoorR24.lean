/- Parts of the proof. -/
import Derived.Test.YtlikcjbjibhjgaaGreatDoorR01
import Derived.Test.YtlikcjbjibhjgaaGreatDoorR23
set_option maxHeartbeats 12800000
set_option maxRecDepth 100000
set_option linter.unusedSimpArgs false
open Go renaming Calls -> aJ, bodyPost_ret -> ay
open Go.IntKind renaming i64 -> ae
open Go.Proofs.Tryz renaming func129 -> fZ, ntmps129 -> fx, prog -> ah, results129 -> fR
open Go.Value renaming agg -> aN, int -> ab, pointer -> au, string -> aa
open List renaming append_nil -> aA, cons_append -> ak, mem_cons -> bg, mem_nil_iff -> bQ, mem_singleton -> aG, nil_append -> an
open Nat renaming le_refl -> ag, lt_of_lt_of_le -> aC, lt_succ_self -> bY, reduceAdd -> ar, zero_add -> ap
namespace Go.Proofs.YtlikcjbjibhjgaaGreatDoor
open Go.RowKit Hb
theorem BOut.bad {c:PC} {n:Nat} {a:Value} {w0 w:World} {R:RR (Tm×Nat)} {k:Nat} {e:Ending} (b:R=.error k) (h:Li c a w0 k e w):BOut c n a w0 R e w:=by rw [b];exact h
theorem nW {c:PC} {S:PT} {k n:Nat} {N:Value} {w:World} (hS:uK c S k) (hk:k<=n) (p:PsAt c n (cM c.E.T n) N w) (s:ByteArray) (a:s.data.toList=[40]\/s.data.toList=[91]\/s.data.toList=[123]) :
  aJ ah 129 #[au (some ⟨c.P,0,none⟩),aa s] w (BOut c n N w (ny c.E S s.data.toList n)):=by
 obtain ⟨R,HR⟩:=lz (ny c.E S s.data.toList n)
 rw [<-HR.out]
 have x:=zq ((Wk.start p).new [ab ae 0,ab ae 0,aa ⟨#[]⟩,.slice none 0 0] 25 rfl)
 have HS:=zq (fun (most:Int) (i:Nat) nv' W (hi:n<=i) (h:PsAt c i (cM c.E.T i) nv' W)=>hS most i nv' W (Nat.le_trans hk hi) h)
 have b0:=zq (fun nv' W (h:PsAt c n (cM c.E.T n) nv' W)=>tv hS hk h)
 have a9:=zq (fun (f:ByteArray) nv' W (h:PsAt c (n+1) (cM c.E.T (n+1)) nv' W)=>sd hS (by omega:k<=n+1+1) h f)
 have c6:=zq (fun (f:ByteArray) h W=>kX f h W)
 have c7:=zq (fun (f:ByteArray) (A:Option Addr) (m c8:Nat) (W:World)=>kb f A m c8 W)
 clear p hS hk
 rcases a with a | a | a
 ·skip
  have x0:(s.toList==[40])=true:=by rw [eZ,a];rfl
  have x1:(s.toList==[91])=false:=by rw [eZ,a];rfl
  have x2:(s.toList==[123])=false:=by rw [eZ,a];rfl
  have J:Hid (R=match S 1200 n with | .error e=>.error e | .ok (t,_,m)=>im c.E [41] m (t)):=zq (by rw [HR.out,a];rfl)
  clear a HR b0 a9
  rcases hx:S 1200 n with e | ⟨t,pr,m⟩
  ·skip
   have y:Hid (R=.error e):=zq (by rw [J.out,hx])
   have q:∀W,PsAt c n (cM c.E.T n) N W->aJ ah 61 #[au (some ⟨c.P,0,none⟩),ab ae 1200] W (TOut c n N W (.error e)):=fun W h=>by rw [<-hx];exact HS.out 1200 n N W (ag _) h
   have q:=zq q
   clear hx
   go_enter fZ,fx
   go_wp2_with fail
   refine (q.out _ x.out.p).mono ?_;rintro e U ⟨rfl,H⟩
   exact ⟨rfl,BOut.bad y.out ⟨rfl,x.out.fall H⟩⟩
  ·skip
   have q:∀W,PsAt c n (cM c.E.T n) N W->aJ ah 61 #[au (some ⟨c.P,0,none⟩),ab ae 1200] W (TOut c n N W (.ok (t,pr,m))):=fun W h=>by rw [<-hx];exact HS.out 1200 n N W (ag _) h
   have a3:Hid (R=im c.E [41] m (t)):=zq (by rw [J.out,hx])
   have q:=zq q
   clear hx J HS
   go_enter fZ,fx
   go_wp2_with fail
   refine (q.out _ x.out.p).mono ?_;rintro e w1 ⟨X,B,C,a2,rfl,j,a,z⟩
   have a0:=zq (Trm.sub (w0:=w) (F:=[w.heap.size]) z x.out.s.size (by intro b d;rw [aG] at d;subst d;exact x.out.b.lt 0 rfl))
   have Z:=zq X
   clear z X
   have o:=zq (x.out.step j a)
   clear x
   clear j a
   clear q
   have b3:=zq (o.out.new [ab ae t.kind,ab ae t.num,aa t.name,.slice B t.args.length C] 25 (g:=w1.heap.size) (by simp))
   have e2:=zq (a0.out.new (.cells #[ab ae t.kind,ab ae t.num,aa t.name,.slice B t.args.length C] 25) (g:=w1.heap.size) (by simp))
   clear o a0
   unfold er
   cases hc:isP (c.E.at m) [41]
   ·skip
    have y:Hid (R=.error m):=zq (by rw [a3.out];unfold im;rw [hc];rfl)
    go_wp2_with fail
    refine (lE b3.out.p ⟨#[41]⟩ hc).mono ?_;rintro e U ⟨rfl,H⟩
    exact ⟨rfl,BOut.bad y.out ⟨rfl,b3.out.fall H⟩⟩
   have y:Hid (R=.ok (t,m+1)):=zq (by rw [a3.out];unfold im;rw [hc];rfl)
   have O:=zq (gI hc)
   clear a3
   go_wp2_with fail
   refine (kK b3.out.p ⟨#[41]⟩ hc).mono ?_;rintro e w4 ⟨rfl,j,a⟩
   have K:=zq (b3.out.step (PsAt.skip O.out b3.out.p.n1 j) a)
   have a8:=zq (e2.out.step a)
   clear b3 e2
   clear j a
   clear hc O
   have a1:=K.out.b.all
   simp only [PC.cells,ak,an,aA,aU,bd,ap,ar,and_true] at a1
   go_wp2_with fail
   have I:=K.out.put4 1 rfl (ab ae t.kind) (ab ae t.num) (aa t.name) (.slice B t.args.length C) (ag _)
   have z:=a8.out.put (g:=w.heap.size) (by simp) (fun b d=>bR _ _ (ab ae t.kind) (ab ae t.num) (aa t.name) (.slice B t.args.length C) b d) (by simp)
   refine ay (v:=aN #[ab ae t.kind,ab ae t.num,aa t.name,.slice B t.args.length C]) (by simp [results,fR,go_sem,a1]) rfl ?_
   rw [y.out]
   exact ⟨by have:=Z.out;omega,B,C,a2,rfl,I.p,I.s,z.out⟩
 ·cases hcl:isP (c.E.at n) [93]
  rotate_left
  ·skip
   have x0:(s.toList==[40])=false:=by rw [eZ,a];rfl
   have x1:(s.toList==[91])=true:=by rw [eZ,a];rfl
   have x2:(s.toList==[123])=false:=by rw [eZ,a];rfl
   have J:Hid (R=kw c.E S ⟨#[91,93]⟩ (n+1)):=zq (by rw [HR.out,a];unfold ny;simp [hcl])
   have HM:=zq (x.out.p.more (oq hcl))
   have O:=zq (gI hcl)
   clear a HR HS b0 c7
   rcases hx:mc c.E S ⟨#[91,93]⟩ (n+1) with e | ⟨ou,m⟩
   ·skip
    have y:Hid (R=.error e):=zq (by rw [J.out];unfold kw;rw [hx])
    go_enter fZ,fx
    go_wp2_with fail
    refine (jk x.out.p ⟨#[93]⟩ hcl).mono ?_;rintro e w1 ⟨rfl,j,a⟩
    have o:=zq (x.out.step (PsAt.skip O.out x.out.p.n1 j) a)
    clear x
    clear j a
    have M:=a9.out ⟨#[91,93]⟩ N _ o.out.p
    rw [hx] at M
    have q:=zq M
    clear M hx
    go_wp2_with fail
    refine (q.out).mono ?_;rintro e U ⟨rfl,H⟩
    exact ⟨rfl,BOut.bad y.out ⟨rfl,o.out.fall H⟩⟩
   ·skip
    go_enter fZ,fx
    go_wp2_with fail
    refine (jk x.out.p ⟨#[93]⟩ hcl).mono ?_;rintro e w1 ⟨rfl,j,a⟩
    have o:=zq (x.out.step (PsAt.skip O.out x.out.p.n1 j) a)
    clear x
    clear j a
    have M:=a9.out ⟨#[91,93]⟩ N _ o.out.p
    rw [hx] at M
    have q:=zq M
    clear M
    rcases ou with _ | u
    ·skip
     have y:Hid (R=.ok (AB ⟨#[91,93]⟩,m)):=zq (by rw [J.out];unfold kw;rw [hx])
     clear hx J
     go_wp2_with fail
     refine (q.out).mono ?_;rintro e w3 ⟨a7,rfl,j,a⟩
     have V:=zq (o.out.step j a)
     clear o
     clear j a
     have d2:=zq a7
     clear a7 q
     have K:=zq (V.out.new [ab ae 0,ab ae 0,aa ⟨#[]⟩,.slice none 0 0] 25 (g:=w3.heap.size) (by simp))
     clear V
     have a1:=K.out.b.all
     simp only [PC.cells,ak,an,aA,aU,bd,ap,ar,and_true] at a1
     go_wp2_with fail
     refine (c6.out ⟨#[91,93]⟩ (by decide) _).mono ?_;rintro e w7 ⟨Y,ca,rfl,G⟩
     have b9:=zq (K.out.call G)
     clear K a1
     clear G 
     have c2:=b9.out.b.all
     simp only [PC.cells,ak,an,aA,aU,bd,ap,ar,and_true] at c2
     go_wp2_with fail
     have I:=b9.out.put4 1 rfl (ab ae 2) (ab ae 0) (aa ⟨#[91,93]⟩) (.slice Y 0 ca) (ag _)
     refine ay (v:=aN #[ab ae 2,ab ae 0,aa ⟨#[91,93]⟩,.slice Y 0 ca]) (by simp [results,fR,go_sem,c2]) rfl ?_
     rw [y.out]
     have a7:=d2.out
     subst a7
     exact ⟨bY _,Y,ca,N,rfl,I.p,I.s,TmsK.nil⟩
    ·skip
     have y:Hid (R=.ok (u,m)):=zq (by rw [J.out];unfold kw;rw [hx])
     clear hx J
     go_wp2_with fail
     refine (q.out).mono ?_;rintro e w3 ⟨X,B,C,a2,rfl,j,a,z⟩
     have a0:=zq (Trm.sub (w0:=w) (F:=[w.heap.size]) z o.out.s.size (by intro b d;rw [aG] at d;subst d;exact o.out.b.lt 0 rfl))
     have Z:=zq X
     clear z X
     have V:=zq (o.out.step j a)
     clear o
     clear j a
     clear q
     unfold er
     have K:=zq (V.out.new [ab ae u.kind,ab ae u.num,aa u.name,.slice B u.args.length C] 25 (g:=w3.heap.size) (by simp))
     have a8:=zq (a0.out.new (.cells #[ab ae u.kind,ab ae u.num,aa u.name,.slice B u.args.length C] 25) (g:=w3.heap.size) (by simp))
     clear V a0
     have a1:=K.out.b.all
     simp only [PC.cells,ak,an,aA,aU,bd,ap,ar,and_true] at a1
     go_wp2_with fail
     have I:=K.out.put4 1 rfl (ab ae u.kind) (ab ae u.num) (aa u.name) (.slice B u.args.length C) (ag _)
     have z:=a8.out.put (g:=w.heap.size) (by simp) (fun b d=>bR _ _ (ab ae u.kind) (ab ae u.num) (aa u.name) (.slice B u.args.length C) b d) (by simp)
     refine ay (v:=aN #[ab ae u.kind,ab ae u.num,aa u.name,.slice B u.args.length C]) (by simp [results,fR,go_sem,a1]) rfl ?_
     rw [y.out]
     exact ⟨by have:=Z.out;omega,B,C,a2,rfl,I.p,I.s,z.out⟩
  ·skip
   have x0:(s.toList==[40])=false:=by rw [eZ,a];rfl
   have x1:(s.toList==[91])=true:=by rw [eZ,a];rfl
   have x2:(s.toList==[123])=false:=by rw [eZ,a];rfl
   have J:Hid (R=zM c.E S n):=zq (by rw [HR.out,a];unfold ny;simp [hcl])
   have b6:=zq hcl
   clear hcl a HR a9 c7
   rcases hx:rt c.E S n with e | ⟨l,m⟩
   ·skip
    have y:Hid (R=.error e):=zq (by rw [J.out];unfold zM;rw [hx])
    go_enter fZ,fx
    go_wp2_with fail
    refine (jO x.out.p ⟨#[93]⟩ b6.out).mono ?_;rintro e w1 ⟨rfl,G⟩
    have o:=zq (x.out.call G)
    clear x
    clear G 
    have M:=b0.out N _ o.out.p
    rw [hx] at M
    have q:=zq M
    clear M hx
    go_wp2_with fail
    refine (q.out).mono ?_;rintro e U ⟨rfl,H⟩
    exact ⟨rfl,BOut.bad y.out ⟨rfl,o.out.fall H⟩⟩
   ·skip
    have a3:Hid (R=match qd c.E S m with | .error e=>.error e | .ok (t,i)=>im c.E [93] i (sB l t)):=zq (by rw [J.out];unfold zM;rw [hx];rfl)
    go_enter fZ,fx
    go_wp2_with fail
    refine (jO x.out.p ⟨#[93]⟩ b6.out).mono ?_;rintro e w1 ⟨rfl,G⟩
    have o:=zq (x.out.call G)
    clear x
    clear G 
    have M:=b0.out N _ o.out.p
    rw [hx] at M
    have q:=zq M
    clear M hx b0 J b6
    go_wp2_with fail
    refine (q.out).mono ?_;rintro e w3 ⟨X,A,c8,a2,rfl,j,a,z⟩
    have d4:=zq (Trm.sub (w0:=w) (F:=[w.heap.size]) z o.out.s.size (by intro b d;rw [aG] at d;subst d;exact o.out.b.lt 0 rfl))
    have Z:=zq X
    clear z X
    have V:=zq (o.out.step j a)
    clear o
    clear j a
    go_wp2_with fail
    refine (c6.out ⟨#[91,93]⟩ (by decide) _).mono ?_;rintro e w5 ⟨Y,ca,rfl,G⟩
    have e0:=zq (V.out.call G)
    have d6:=zq (d4.out.call G)
    clear V d4
    clear G q
    obtain ⟨tb,d3⟩:=lz (w5.heap.size)
    have Q:=zq (e0.out.new [ab ae 2,ab ae 0,aa ⟨#[91,93]⟩,.slice Y 0 ca] 25 (g:=w5.heap.size) (by simp))
    have b1:=zq (d6.out.new (.cells #[ab ae 2,ab ae 0,aa ⟨#[91,93]⟩,.slice Y 0 ca] 25) (g:=w5.heap.size) (by simp))
    clear e0 d6
    have f4:Hid (w.heap.size<=tb):=zq (by rw [d3.out];have:=Q.out.b.lt 1 rfl;have:=Q.out.s.size;simp at *;omega)
    go_upto_region 16 with fail
    obtain ⟨wt,e5⟩:=lz ((w5.alloc (.cells #[ab ae 2,ab ae 0,aa ⟨#[91,93]⟩,.slice Y 0 ca] 25)))
    rw [<-e5.out] at Q b1 |-
    rw [<-d3.out] at Q b1 |-
    clear e5 d3 c6
    cases d:isP (c.E.at m) [124]
    ·skip
     have a5:Hid (R=im c.E [93] m (sB l rD)):=zq (by rw [a3.out];unfold qd;rw [d];rfl)
     clear a3 HS
     go_wp2_with fail
     refine (jO Q.out.p ⟨#[124]⟩ d).mono ?_;rintro e w8 ⟨rfl,G⟩
     have L:=zq (Q.out.call G)
     have b8:=zq (b1.out.call G)
     clear Q b1
     clear G d
     cases hd:isP (c.E.at m) [93]
     ·skip
      have y:Hid (R=.error m):=zq (by rw [a5.out];unfold im;rw [hd];rfl)
      go_wp2_with fail
      refine (lE L.out.p ⟨#[93]⟩ hd).mono ?_;rintro e U ⟨rfl,H⟩
      exact ⟨rfl,BOut.bad y.out ⟨rfl,L.out.fall H⟩⟩
     have y:Hid (R=.ok (sB l rD,m+1)):=zq (by rw [a5.out];unfold im;rw [hd];rfl)
     have O:=zq (gI hd)
     clear a5
     go_wp2_with fail
     refine (kK L.out.p ⟨#[93]⟩ hd).mono ?_;rintro e d0 ⟨rfl,j,a⟩
     have a4:=zq (L.out.step (PsAt.skip O.out L.out.p.n1 j) a)
     have b7:=zq (b8.out.step a)
     clear L b8
     clear j a
     clear hd O
     have c1:=a4.out.b.all
     simp only [PC.cells,ak,an,aA,aU,bd,ap,ar,and_true] at c1
     have a6:=zq (xx (fun b=>c.new a2 w d0 b/\b ∉ [tb,w.heap.size]) l A l.length c8 rD Y ca d0 rfl (fun b d=>d.1.2.1) b7.out TmsK.nil)
     rw [show er rD Y ca=aN #[ab ae 2,ab ae 0,aa ⟨#[91,93]⟩,.slice Y 0 ca] from rfl] at a6
     obtain ⟨D,c0⟩:=lz (sB l rD)
     rw [<-c0.out] at a6 y
     clear c0
     go_wp2_with fail
     refine a6.out.mono ?_;rintro e U ⟨A9,c9,rfl,H,c3⟩
     have c4:TmsK (fun b=>c.new a2 w U b/\b ∉ [w.heap.size]) U A9 D.args:=c3.keep (fun _ _=>rfl) fun b d=>by
      rcases d with d | d
      ·exact ⟨⟨d.1.1,aC d.1.2.1 H.size,d.1.2.2⟩,fun e=>d.2 (by rw [aG] at e;rw [e];simp)⟩
      ·have h1:=a4.out.s.size
       have h2:=a4.out.b.lt 1 rfl
       exact ⟨⟨by omega,d.2,fun hm=>by have:=a4.out.p.lts hm;omega⟩,fun e=>by rw [aG] at e;omega⟩
     have b5:=zq (show Trm c a2 w U [w.heap.size] A9 D.args from c4)
     have L:=zq (a4.out.call H)
     clear H c3 c4 a6 a4 b7 c1
     unfold er
     have e8:=L.out.b.all
     simp only [PC.cells,ak,an,aA,aU,bd,ap,ar,and_true] at e8
     go_wp2_with fail
     have I:=L.out.put4 1 rfl (ab ae D.kind) (ab ae D.num) (aa D.name) (.slice A9 D.args.length c9) (ag _)
     have z:=b5.out.put (g:=w.heap.size) (by simp) (fun b d=>bR _ _ (ab ae D.kind) (ab ae D.num) (aa D.name) (.slice A9 D.args.length c9) b d) (by simp)
     refine ay (v:=aN #[ab ae D.kind,ab ae D.num,aa D.name,.slice A9 D.args.length c9]) (by simp [results,fR,go_sem,e8]) rfl ?_
     rw [y.out]
     exact ⟨by have:=Z.out;omega,A9,c9,a2,rfl,I.p,I.s,z.out⟩
    ·skip
     have a5:Hid (R=match S 999 (m+1) with | .error e=>.error e | .ok (t,_,i)=>im c.E [93] i (sB l t)):=zq (by rw [a3.out];unfold qd;rw [d,if_pos rfl];cases S 999 (m+1) <;> rfl)
     have O:=zq (gI d)
     clear a3
     go_wp2_with fail
     refine (jk Q.out.p ⟨#[124]⟩ d).mono ?_;rintro e w8 ⟨rfl,j,a⟩
     have L:=zq (Q.out.step (PsAt.skip O.out Q.out.p.n1 j) a)
     have b8:=zq (b1.out.step a)
     clear Q b1
     clear j a
     have q:=zq (HS.out 999 (m+1) a2 _ (by have:=Z.out;omega) L.out.p)
     clear d O HS
     rcases hx:S 999 (m+1) with e | ⟨t,pr,i⟩
     ·skip
      rw [hx] at q a5
      clear hx
      have y:Hid (R=.error e):=a5
      go_wp2_with fail
      refine (q.out).mono ?_;rintro e U ⟨rfl,H⟩
      exact ⟨rfl,BOut.bad y.out ⟨rfl,L.out.fall H⟩⟩
     ·skip
      rw [hx] at q a5
      clear hx
      have d1:Hid (R=im c.E [93] i (sB l t)):=a5
      clear a5
      go_wp2_with fail
      refine (q.out).mono ?_;rintro e d0 ⟨X,B,C,c5,rfl,j,a,z⟩
      have a0:=zq (Trm.sub (w0:=w) (F:=[tb,w.heap.size]) z L.out.s.size (by intro b d;simp only [bg,bQ,or_false] at d;rcases d with rfl|rfl;exact L.out.b.lt 0 rfl;exact L.out.b.lt 1 rfl))
      have d8:=zq (Nat.lt_trans Z.out (Nat.lt_of_succ_lt X))
      clear z X Z q
      have Z:=d8
      clear d8
      have a4:=zq (L.out.step j a)
      have b7:=zq (b8.out.step a)
      clear L b8
      clear j a
      unfold er
      have c1:=a4.out.b.all
      simp only [PC.cells,ak,an,aA,aU,bd,ap,ar,and_true] at c1
      go_upto_region 18 with fail
      have I:=a4.out.put4 0 rfl (ab ae t.kind) (ab ae t.num) (aa t.name) (.slice B t.args.length C) f4.out
      have hl:=b7.out.put (g:=tb) (by simp) (fun b d=>bR _ _ (ab ae t.kind) (ab ae t.num) (aa t.name) (.slice B t.args.length C) b d) (by simp)
      have z:=a0.out.put (g:=tb) (by simp) (fun b d=>bR _ _ (ab ae t.kind) (ab ae t.num) (aa t.name) (.slice B t.args.length C) b d) (by simp)
      obtain ⟨wu,e6⟩:=lz ((((((d0.setCell ⟨tb,0,none⟩ (ab ae t.kind)).setCell ⟨tb,1,none⟩ (ab ae t.num)).setCell ⟨tb,2,none⟩ (aa t.name)).setCell ⟨tb,3,none⟩ (.slice B t.args.length C))))
      rw [<-e6.out] at I hl z |-
      have b4:Hid (Wk c i (cM c.E.T i) N w c5 wu [(tb,[ab ae t.kind,ab ae t.num,aa t.name,.slice B t.args.length C]),(w.heap.size,[ab ae 0,ab ae 0,aa ⟨#[]⟩,.slice none 0 0])]):=zq I
      have d7:=zq hl
      have e4:=zq z
      clear I hl z e6 b7 a0 a4 c1
      cases hd:isP (c.E.at i) [93]
      ·skip
       have y:Hid (R=.error i):=zq (by rw [d1.out];unfold im;rw [hd];rfl)
       go_wp2_with fail
       refine (lE b4.out.p ⟨#[93]⟩ hd).mono ?_;rintro e U ⟨rfl,H⟩
       exact ⟨rfl,BOut.bad y.out ⟨rfl,b4.out.fall H⟩⟩
      have y:Hid (R=.ok (sB l t,i+1)):=zq (by rw [d1.out];unfold im;rw [hd];rfl)
      have O:=zq (gI hd)
      clear d1
      go_wp2_with fail
      refine (kK b4.out.p ⟨#[93]⟩ hd).mono ?_;rintro e f2 ⟨rfl,j,a⟩
      have b2:=zq (b4.out.step (PsAt.skip O.out b4.out.p.n1 j) a)
      have d5:=zq (d7.out.step a)
      have e1:=zq (e4.out.step a)
      clear b4 d7 e4
      clear j a
      clear hd O
      have e9:=b2.out.b.all
      simp only [PC.cells,ak,an,aA,aU,bd,ap,ar,and_true] at e9
      have a6:=zq (xx (fun b=>c.new c5 w f2 b/\b ∉ [tb,w.heap.size]) l A l.length c8 t B C f2 rfl (fun b d=>d.1.2.1) d5.out e1.out)
      unfold er at a6
      obtain ⟨D,c0⟩:=lz (sB l t)
      rw [<-c0.out] at a6 y
      clear c0
      go_wp2_with fail
      refine a6.out.mono ?_;rintro e U ⟨A9,c9,rfl,H,c3⟩
      have c4:TmsK (fun b=>c.new c5 w U b/\b ∉ [w.heap.size]) U A9 D.args:=c3.keep (fun _ _=>rfl) fun b d=>by
       rcases d with d | d
       ·exact ⟨⟨d.1.1,aC d.1.2.1 H.size,d.1.2.2⟩,fun e=>d.2 (by rw [aG] at e;rw [e];simp)⟩
       ·have h1:=b2.out.s.size
        have h2:=b2.out.b.lt 1 rfl
        exact ⟨⟨by omega,d.2,fun hm=>by have:=b2.out.p.lts hm;omega⟩,fun e=>by rw [aG] at e;omega⟩
      have b5:=zq (show Trm c c5 w U [w.heap.size] A9 D.args from c4)
      have L:=zq (b2.out.call H)
      clear H c3 c4 a6 b2 d5 e1 e9
      have f0:=L.out.b.all
      simp only [PC.cells,ak,an,aA,aU,bd,ap,ar,and_true] at f0
      go_wp2_with fail
      have I:=L.out.put4 1 rfl (ab ae D.kind) (ab ae D.num) (aa D.name) (.slice A9 D.args.length c9) (ag _)
      have z:=b5.out.put (g:=w.heap.size) (by simp) (fun b d=>bR _ _ (ab ae D.kind) (ab ae D.num) (aa D.name) (.slice A9 D.args.length c9) b d) (by simp)
      refine ay (v:=aN #[ab ae D.kind,ab ae D.num,aa D.name,.slice A9 D.args.length c9]) (by simp [results,fR,go_sem,f0]) rfl ?_
      rw [y.out]
      exact ⟨by have:=Z.out;omega,A9,c9,c5,rfl,I.p,I.s,z.out⟩
 ·cases hcl:isP (c.E.at n) [125]
  rotate_left
  ·skip
   have x0:(s.toList==[40])=false:=by rw [eZ,a];rfl
   have x1:(s.toList==[91])=false:=by rw [eZ,a];rfl
   have x2:(s.toList==[123])=true:=by rw [eZ,a];rfl
   have J:Hid (R=kw c.E S ⟨#[123,125]⟩ (n+1)):=zq (by rw [HR.out,a];unfold ny;simp [hcl])
   have HM:=zq (x.out.p.more (oq hcl))
   have O:=zq (gI hcl)
   clear a HR HS b0 c7
   rcases hx:mc c.E S ⟨#[123,125]⟩ (n+1) with e | ⟨ou,m⟩
   ·skip
    have y:Hid (R=.error e):=zq (by rw [J.out];unfold kw;rw [hx])
    go_enter fZ,fx
    go_wp2_with fail
    refine (jk x.out.p ⟨#[125]⟩ hcl).mono ?_;rintro e w1 ⟨rfl,j,a⟩
    have o:=zq (x.out.step (PsAt.skip O.out x.out.p.n1 j) a)
    clear x
    clear j a
    have M:=a9.out ⟨#[123,125]⟩ N _ o.out.p
    rw [hx] at M
    have q:=zq M
    clear M hx
    go_wp2_with fail
    refine (q.out).mono ?_;rintro e U ⟨rfl,H⟩
    exact ⟨rfl,BOut.bad y.out ⟨rfl,o.out.fall H⟩⟩
   ·skip
    go_enter fZ,fx
    go_wp2_with fail
    refine (jk x.out.p ⟨#[125]⟩ hcl).mono ?_;rintro e w1 ⟨rfl,j,a⟩
    have o:=zq (x.out.step (PsAt.skip O.out x.out.p.n1 j) a)
    clear x
    clear j a
    have M:=a9.out ⟨#[123,125]⟩ N _ o.out.p
    rw [hx] at M
    have q:=zq M
    clear M
    rcases ou with _ | u
    ·skip
     have y:Hid (R=.ok (AB ⟨#[123,125]⟩,m)):=zq (by rw [J.out];unfold kw;rw [hx])
     clear hx J
     go_wp2_with fail
     refine (q.out).mono ?_;rintro e w3 ⟨a7,rfl,j,a⟩
     have V:=zq (o.out.step j a)
     clear o
     clear j a
     have d2:=zq a7
     clear a7 q
     have K:=zq (V.out.new [ab ae 0,ab ae 0,aa ⟨#[]⟩,.slice none 0 0] 25 (g:=w3.heap.size) (by simp))
     clear V
     have a1:=K.out.b.all
     simp only [PC.cells,ak,an,aA,aU,bd,ap,ar,and_true] at a1
     go_wp2_with fail
     refine (c6.out ⟨#[123,125]⟩ (by decide) _).mono ?_;rintro e w7 ⟨Y,ca,rfl,G⟩
     have b9:=zq (K.out.call G)
     clear K a1
     clear G 
     have c2:=b9.out.b.all
     simp only [PC.cells,ak,an,aA,aU,bd,ap,ar,and_true] at c2
     go_wp2_with fail
     have I:=b9.out.put4 1 rfl (ab ae 2) (ab ae 0) (aa ⟨#[123,125]⟩) (.slice Y 0 ca) (ag _)
     refine ay (v:=aN #[ab ae 2,ab ae 0,aa ⟨#[123,125]⟩,.slice Y 0 ca]) (by simp [results,fR,go_sem,c2]) rfl ?_
     rw [y.out]
     have a7:=d2.out
     subst a7
     exact ⟨bY _,Y,ca,N,rfl,I.p,I.s,TmsK.nil⟩
    ·skip
     have y:Hid (R=.ok (u,m)):=zq (by rw [J.out];unfold kw;rw [hx])
     clear hx J
     go_wp2_with fail
     refine (q.out).mono ?_;rintro e w3 ⟨X,B,C,a2,rfl,j,a,z⟩
     have a0:=zq (Trm.sub (w0:=w) (F:=[w.heap.size]) z o.out.s.size (by intro b d;rw [aG] at d;subst d;exact o.out.b.lt 0 rfl))
     have Z:=zq X
     clear z X
     have V:=zq (o.out.step j a)
     clear o
     clear j a
     clear q
     unfold er
     have K:=zq (V.out.new [ab ae u.kind,ab ae u.num,aa u.name,.slice B u.args.length C] 25 (g:=w3.heap.size) (by simp))
     have a8:=zq (a0.out.new (.cells #[ab ae u.kind,ab ae u.num,aa u.name,.slice B u.args.length C] 25) (g:=w3.heap.size) (by simp))
     clear V a0
     have a1:=K.out.b.all
     simp only [PC.cells,ak,an,aA,aU,bd,ap,ar,and_true] at a1
     go_wp2_with fail
     have I:=K.out.put4 1 rfl (ab ae u.kind) (ab ae u.num) (aa u.name) (.slice B u.args.length C) (ag _)
     have z:=a8.out.put (g:=w.heap.size) (by simp) (fun b d=>bR _ _ (ab ae u.kind) (ab ae u.num) (aa u.name) (.slice B u.args.length C) b d) (by simp)
     refine ay (v:=aN #[ab ae u.kind,ab ae u.num,aa u.name,.slice B u.args.length C]) (by simp [results,fR,go_sem,a1]) rfl ?_
     rw [y.out]
     exact ⟨by have:=Z.out;omega,B,C,a2,rfl,I.p,I.s,z.out⟩
  ·skip
   have x0:(s.toList==[40])=false:=by rw [eZ,a];rfl
   have x1:(s.toList==[91])=false:=by rw [eZ,a];rfl
   have x2:(s.toList==[123])=true:=by rw [eZ,a];rfl
   have J:Hid (R=match S 1200 n with | .error e=>.error e | .ok (t,_,m)=>im c.E [125] m (nC ⟨#[123,125]⟩ [t])):=zq (by rw [HR.out,a];unfold ny;simp [hcl];rfl)
   clear a HR b0 a9
   have b6:=zq hcl
   clear hcl
   rcases hx:S 1200 n with e | ⟨t,pr,m⟩
   ·skip
    have y:Hid (R=.error e):=zq (by rw [J.out,hx])
    have q:∀W,PsAt c n (cM c.E.T n) N W->aJ ah 61 #[au (some ⟨c.P,0,none⟩),ab ae 1200] W (TOut c n N W (.error e)):=fun W h=>by rw [<-hx];exact HS.out 1200 n N W (ag _) h
    have q:=zq q
    clear hx
    go_enter fZ,fx
    go_wp2_with fail
    refine (jO x.out.p ⟨#[125]⟩ b6.out).mono ?_;rintro e w1 ⟨rfl,G⟩
    have o:=zq (x.out.call G)
    clear x
    clear G 
    go_wp2_with fail
    refine (q.out _ o.out.p).mono ?_;rintro e U ⟨rfl,H⟩
    exact ⟨rfl,BOut.bad y.out ⟨rfl,o.out.fall H⟩⟩
   ·skip
    have q:∀W,PsAt c n (cM c.E.T n) N W->aJ ah 61 #[au (some ⟨c.P,0,none⟩),ab ae 1200] W (TOut c n N W (.ok (t,pr,m))):=fun W h=>by rw [<-hx];exact HS.out 1200 n N W (ag _) h
    have a3:Hid (R=im c.E [125] m (nC ⟨#[123,125]⟩ [t])):=zq (by rw [J.out,hx])
    have q:=zq q
    clear hx J HS
    go_enter fZ,fx
    go_wp2_with fail
    refine (jO x.out.p ⟨#[125]⟩ b6.out).mono ?_;rintro e w1 ⟨rfl,G⟩
    have o:=zq (x.out.call G)
    clear x
    clear G 
    go_wp2_with fail
    refine (q.out _ o.out.p).mono ?_;rintro e w3 ⟨X,B,C,a2,rfl,j,a,z⟩
    have a0:=zq (Trm.sub (w0:=w) (F:=[w.heap.size]) z o.out.s.size (by intro b d;rw [aG] at d;subst d;exact o.out.b.lt 0 rfl))
    have Z:=zq X
    clear z X
    have V:=zq (o.out.step j a)
    clear o
    clear j a
    clear q
    have K:=zq (V.out.new [ab ae t.kind,ab ae t.num,aa t.name,.slice B t.args.length C] 25 (g:=w3.heap.size) (by simp))
    have a8:=zq (a0.out.new (.cells #[ab ae t.kind,ab ae t.num,aa t.name,.slice B t.args.length C] 25) (g:=w3.heap.size) (by simp))
    clear V a0
    unfold er
    cases hc:isP (c.E.at m) [125]
    ·skip
     have y:Hid (R=.error m):=zq (by rw [a3.out];unfold im;rw [hc];rfl)
     go_wp2_with fail
     refine (lE K.out.p ⟨#[125]⟩ hc).mono ?_;rintro e U ⟨rfl,H⟩
     exact ⟨rfl,BOut.bad y.out ⟨rfl,K.out.fall H⟩⟩
    have y:Hid (R=.ok (nC ⟨#[123,125]⟩ [t],m+1)):=zq (by rw [a3.out];unfold im;rw [hc];rfl)
    have O:=zq (gI hc)
    clear a3
    go_wp2_with fail
    refine (kK K.out.p ⟨#[125]⟩ hc).mono ?_;rintro e w6 ⟨rfl,j,a⟩
    have Q:=zq (K.out.step (PsAt.skip O.out K.out.p.n1 j) a)
    have e3:=zq (a8.out.step a)
    clear K a8
    clear j a
    clear hc O
    have f1:=Q.out.b.all
    simp only [PC.cells,ak,an,aA,aU,bd,ap,ar,and_true] at f1
    go_wp2_with fail
    have b5:=zq (Trm.row Q.out.p Q.out.s.size (F:=[w3.heap.size,w.heap.size]) (by intro b d;simp only [bg,bQ,or_false] at d;rcases d with rfl|rfl;exact Q.out.b.lt 0 rfl;exact Q.out.b.lt 1 rfl) 25 [(t,B,C)] (by simp [maxLen]) (by intro r hr;rw [aG] at hr;subst hr;exact e3.out))
    have L:=zq (Q.out.call ((Below.refl w6.heap.size w6).alloc (ag _) (.cells (eB [(t,B,C)]).toArray 25)))
    clear e3 Q f1
    refine (c7.out _ _ _ _ _).mono ?_;rintro e U ⟨rfl,G⟩
    have d9:=zq (L.out.call G)
    have f3:=zq (b5.out.call G)
    clear L b5
    clear G 
    have e7:=d9.out.b.all
    simp only [PC.cells,ak,an,aA,aU,bd,ap,ar,and_true] at e7
    go_wp2_with fail
    have I:=d9.out.put4 1 rfl (ab ae 3) (ab ae 0) (aa ⟨#[123,125]⟩) (.slice (some ⟨w6.heap.size,0,none⟩) 1 1) (ag _)
    have z:=f3.out.put (g:=w.heap.size) (by simp) (fun b d=>bR _ _ (ab ae 3) (ab ae 0) (aa ⟨#[123,125]⟩) (.slice (some ⟨w6.heap.size,0,none⟩) 1 1) b d) (by simp)
    refine ay (v:=aN #[ab ae 3,ab ae 0,aa ⟨#[123,125]⟩,.slice (some ⟨w6.heap.size,0,none⟩) 1 1]) (by simp [results,fR,go_sem,e7]) rfl ?_
    rw [y.out]
    exact ⟨by have:=Z.out;omega,_,_,a2,rfl,I.p,I.s,z.out⟩
end Go.Proofs.YtlikcjbjibhjgaaGreatDoor
