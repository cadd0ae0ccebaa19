/- Parts of the proof. -/
import Derived.Test.YtbojljpldcijgaaGreatR01
import Derived.Test.YtbojljpldcijgaaGreatR16
import Derived.Laws.OwnMore
import Derived.Defers
import Derived.Recover
set_option maxHeartbeats 12800000
set_option maxRecDepth 100000
set_option linter.unusedSimpArgs false
open Go renaming Value -> aC, World -> au, bodyPost_ret -> aw, heap_setCell_other -> aW
open Go.Ending renaming returned -> aD
open Go.IntKind renaming i64 -> ab
open Go.Proofs.Tryz renaming func94 -> gO, ntmps94 -> gn, prog -> am, results94 -> gI
open Go.RowKit renaming Below -> aB
open Go.RowKit.Below renaming refl -> ap
open Go.Value renaming agg -> aV, bool -> av, int -> aa, ownBlock -> eJ, pointer -> ar, slice -> dc, string -> ac, tuple -> aJ
open List renaming append_nil -> aj, cons_append -> ag, mem_cons -> bh, mem_cons_of_mem -> eQ, mem_nil_iff -> be, mem_singleton -> aK, nil_append -> ai
open Nat renaming add_zero -> bj, le_refl -> ae, le_succ -> bm, le_succ_of_le -> fs, le_trans -> aQ, lt_of_lt_of_le -> aA, lt_succ_self -> bK, ne_of_lt -> fF, reduceAdd -> af, zero_add -> ah
namespace Go.Proofs.YtbojljpldcijgaaGreat
open Go.RowKit Hb
theorem lj (E:RE) (S:PT) (a:Int) (n:Nat) (t:NextR) (b:t=E.at n):kQ E S a n =
 if t.r.kind=4/\0<=t.r.n then .ok (pQ t.r.n,0,n+1)
 else if t.r.kind=3 then .ok (AT ((bv E.T n).num t.r.text),0,n+1)
 else if t.r.kind=5 then .ok (tY E.q t.r.text,0,n+1)
 else if kW t=true then (match lB E S t.r.text (n+1) with
  | .error e=>.error e
  | .ok (u,m)=>.ok (u,0,m))
 else if fa t=true then tr E S t a (n+1)
 else .error n:=by subst b;rfl
theorem xR {c:PC} {n:Nat} (a:n<c.E.T.length):c.E.at n∈c.E.T:=by rw [c.E.at_get a];exact List.getElem_mem _
theorem uz {c:PC} {S:PT} {k n:Nat} {V:aC} {w:au} (hS:qi c S k) (hk:k<=n+1) (p:PsAt c n (bv c.E.T n) V w) (d2:Int) :
  Calls am 94 #[ar (some ⟨c.P,0,none⟩),aa ab d2] w (TOut c n V w (kQ c.E S d2 n)):=by
 obtain ⟨R,HR⟩:=lz (kQ c.E S d2 n)
 rw [<-HR.out]
 obtain ⟨t,HT⟩:=lz (c.E.at n)
 have HE:=zq (HR.out.trans (lj c.E S d2 n t HT.out))
 have c4:=zq (p.ok.txt _ (xR p.n1))
 have c3:=zq (p.ok.nms _ (xR p.n1))
 have N:=zq ((Wk.start p).new [aa ab 0,aa ab 0,ac ⟨#[]⟩,.slice none 0 0] 30 rfl)
 have H:=zq (iW N.out.p 0 (by decide))
 rw [bj] at H
 have a0:=zq p.more
 have d8:=zq p.vn
 have c2:=zq p.n1
 have HI:=zq (jd (n:=n) (by have:=p.n1;have:=p.ok.len;omega))
 have d5:=zq (fun h:mB (c.E.at n)=true=>vu p.n1 h)
 rw [<-HT.out] at c4 c3 H a0 d5
 have c0:Hid (mB t=false->∀e2 W,PsAt c (n+1) (bv c.E.T n) e2 W->PsAt c (n+1) (bv c.E.T (n+1)) e2 W):=zq fun h e2 W Y=>PsAt.skip (by rw [<-HT.out];exact h) c2.out Y
 have b9:=zq hS
 have b8:=zq hk
 clear p HR hS hk
 by_cases h4:t.r.kind=4
 ·have b4:(t.r.kind==4)=true:=by simpa using h4
  by_cases h0:0<=t.r.n
  ·have d0:decide (0<=t.r.n)=true:=decide_eq_true h0
   have l:=zq (HE.out.trans (if_pos ⟨h4,h0⟩))
   have a4:=zq (a0.out (by rw [h4];decide))
   have a3:=zq (kd h4 (by decide))
   clear h4 h0 HE c4 c3 a0 d8 d5 b9 b8 HT c2
   go_enter gO,gn
   go_wp2_with fail
   refine H.out.mono ?_;rintro e z ⟨rfl,y⟩
   have a:=zq ((N.out.call y).new [aa ab t.r.kind,ac t.txt,aa ab t.r.n,aa ab t.r.at_,aa ab t.r.end_,av t.lay] 76 rfl)
   clear y N H
   obtain ⟨g1,j⟩:=lz (z.heap.size)
   obtain ⟨wb,o⟩:=lz (z.alloc (.cells #[aa ab t.r.kind,ac t.txt,aa ab t.r.n,aa ab t.r.at_,aa ab t.r.end_,av t.lay] 76))
   unfold kk
   go_upto_region 2 with fail
   rw [<-o.out] at a |-
   rw [<-j.out] at a |-
   clear o j
   have x:=a.out.b.all
   simp only [PC.cells,ag,ai,aj,aH,aP,ah,af,and_true] at x
   clear x
   have c6:=a.out.b.all
   simp only [PC.cells,ag,ai,aj,aH,aP,ah,af,and_true] at c6
   have hi:=HI.out
   go_upto_region 4 with fail
   have i:=a.out.inc a4.out
   obtain ⟨wn,J⟩:=lz (wb.setCell ⟨c.P,1,none⟩ (aa ab ((n:Int)+1)))
   rw [<-J.out] at i |-
   have f:=zq (i.step (c0.out a3.out V _ i.p) (Stp.refl c V wn))
   clear i J a c6 hi
   have c7:=f.out.b.all
   simp only [PC.cells,ag,ai,aj,aH,aP,ah,af,and_true] at c7
   go_wp2_with fail
   refine (xW t.r.n _).mono ?_;rintro e w5 ⟨rfl,d⟩
   have d4:=zq (f.out.call d)
   clear f c7
   clear d 
   have c8:=d4.out.b.all
   simp only [PC.cells,ag,ai,aj,aH,aP,ah,af,and_true] at c8
   go_wp2_with fail
   have L:=d4.out.put4 1 rfl (aa ab 1) (aa ab t.r.n) (ac ⟨#[]⟩) (.slice none 0 0) (ae _)
   refine aw (v:=aJ #[aV #[aa ab 1,aa ab t.r.n,ac ⟨#[]⟩,.slice none 0 0],aa ab 0]) (by simp [results,gI,go_sem,c8]) rfl ?_
   rw [l.out]
   exact ⟨bK _,none,0,V,rfl,L.p,L.s,TmsK.nil⟩
  ·have d0:decide (0<=t.r.n)=false:=decide_eq_false h0
   have b3:(t.r.kind==3)=false:=by simp;omega
   have b5:(t.r.kind==5)=false:=by simp;omega
   have b6:(t.r.kind==6)=false:=by simp;omega
   have b1:(t.r.kind==1)=false:=by simp;omega
   have b2:(t.r.kind==2)=false:=by simp;omega
   have C:∀s,dp t s=false:=fun s=>by unfold dp;rw [b6];rfl
   have hN:fa t=false:=by unfold fa;rw [b1,b2];rfl
   have l:Hid (R=.error n):=zq (by rw [HE.out,if_neg (fun h=>h0 h.2),if_neg (by omega),if_neg (by omega),if_neg (by unfold kW;rw [C,C,C];simp),if_neg (by rw [hN];simp)])
   have a1:=zq fun W=>iu t ⟨#[40]⟩ W
   have a2:=zq fun W=>iu t ⟨#[91]⟩ W
   have a7:=zq fun W=>iu t ⟨#[123]⟩ W
   have a5:=zq fun W=>oV t W
   rw [show dp t (⟨#[40]⟩:ByteArray).data.toList=false from C _] at a1
   rw [show dp t (⟨#[91]⟩:ByteArray).data.toList=false from C _] at a2
   rw [show dp t (⟨#[123]⟩:ByteArray).data.toList=false from C _] at a7
   rw [hN] at a5
   clear h4 h0 HE c4 c3 a0 d8 d5 b9 b8 HT c2 c0 C hN b6 b1 b2 HI
   go_enter gO,gn
   go_wp2_with fail
   refine H.out.mono ?_;rintro e z ⟨rfl,y⟩
   have a:=zq ((N.out.call y).new [aa ab t.r.kind,ac t.txt,aa ab t.r.n,aa ab t.r.at_,aa ab t.r.end_,av t.lay] 76 rfl)
   clear y N H
   obtain ⟨g1,j⟩:=lz (z.heap.size)
   obtain ⟨wb,o⟩:=lz (z.alloc (.cells #[aa ab t.r.kind,ac t.txt,aa ab t.r.n,aa ab t.r.at_,aa ab t.r.end_,av t.lay] 76))
   unfold kk
   go_upto_region 2 with fail
   rw [<-o.out] at a |-
   rw [<-j.out] at a |-
   clear o j
   have x:=a.out.b.all
   simp only [PC.cells,ag,ai,aj,aH,aP,ah,af,and_true] at x
   go_wp2_with fail
   refine (a1.out _).mono ?_;rintro e w3 ⟨rfl,d⟩
   have A:=zq (a.out.call d)
   clear a x
   clear d 
   have K:=A.out.b.all
   simp only [PC.cells,ag,ai,aj,aH,aP,ah,af,and_true] at K
   go_wp2_with fail
   refine (a2.out _).mono ?_;rintro e w6 ⟨rfl,d⟩
   have I:=zq (A.out.call d)
   clear A K
   clear d 
   have Z:=I.out.b.all
   simp only [PC.cells,ag,ai,aj,aH,aP,ah,af,and_true] at Z
   go_wp2_with fail
   refine (a7.out _).mono ?_;rintro e w9 ⟨rfl,d⟩
   have X:=zq (I.out.call d)
   clear I Z
   clear d 
   have a8:=X.out.b.all
   simp only [PC.cells,ag,ai,aj,aH,aP,ah,af,and_true] at a8
   go_wp2_with fail
   refine (a5.out _).mono ?_;rintro e e3 ⟨rfl,d⟩
   have a6:=zq (X.out.call d)
   clear X a8
   clear d 
   have d3:=a6.out.b.all
   simp only [PC.cells,ag,ai,aj,aH,aP,ah,af,and_true] at d3
   go_wp2_with fail
   refine (oW a6.out.p).mono ?_;rintro e w9 ⟨rfl,a9⟩
   exact ⟨rfl,TOut.bad l.out ⟨rfl,a6.out.fall a9⟩⟩
 have b4:(t.r.kind==4)=false:=by simpa using h4
 replace HE:=zq (HE.out.trans (if_neg (fun h=>h4 h.1)))
 by_cases h3:t.r.kind=3
 ·have b3:(t.r.kind==3)=true:=by simpa using h3
  have l:=zq (HE.out.trans (if_pos h3))
  have a4:=zq (a0.out (by rw [h3];decide))
  have a3:Hid (mB t=true):=zq (by unfold mB;rw [b3])
  clear h4 h3 HE c3 a0 b9 b8 c2 c0
  go_enter gO,gn
  go_wp2_with fail
  refine H.out.mono ?_;rintro e z ⟨rfl,y⟩
  have a:=zq ((N.out.call y).new [aa ab t.r.kind,ac t.txt,aa ab t.r.n,aa ab t.r.at_,aa ab t.r.end_,av t.lay] 76 rfl)
  clear y N H
  obtain ⟨g1,j⟩:=lz (z.heap.size)
  obtain ⟨wb,o⟩:=lz (z.alloc (.cells #[aa ab t.r.kind,ac t.txt,aa ab t.r.n,aa ab t.r.at_,aa ab t.r.end_,av t.lay] 76))
  unfold kk
  go_upto_region 2 with fail
  rw [<-o.out] at a |-
  rw [<-j.out] at a |-
  clear o j
  have x:=a.out.b.all
  simp only [PC.cells,ag,ai,aj,aH,aP,ah,af,and_true] at x
  clear x
  have c6:=a.out.b.all
  simp only [PC.cells,ag,ai,aj,aH,aP,ah,af,and_true] at c6
  have hi:=HI.out
  go_upto_region 7 with fail
  have i:=a.out.inc a4.out
  obtain ⟨wn,J⟩:=lz (wb.setCell ⟨c.P,1,none⟩ (aa ab ((n:Int)+1)))
  rw [<-J.out] at i |-
  have f:=zq (i)
  clear i J a c6 hi
  have c7:=f.out.b.all
  simp only [PC.cells,ag,ai,aj,aH,aP,ah,af,and_true] at c7
  have G:=sW f.out.p t.txt (by show t.r.text.toArray.size<=20000;simpa using c4.out.1) (Nat.lt_succ_of_le d8.out)
  rw [show t.txt.data.toList=t.r.text from rfl] at G
  have B:=zq G
  clear G
  go_wp2_with fail
  refine (B.out).mono ?_;rintro e w5 ⟨rfl,c1,Y,hs⟩
  have d4:=zq (f.out.step Y hs)
  clear f c7
  clear Y hs
  have c8:=d4.out.b.all
  simp only [PC.cells,ag,ai,aj,aH,aP,ah,af,and_true] at c8
  go_wp2_with fail
  have L:=d4.out.put4 1 rfl (aa ab 0) (aa ab ((bv c.E.T n).num t.r.text:Nat)) (ac ⟨#[]⟩) (.slice none 0 0) (ae _)
  refine aw (v:=aJ #[aV #[aa ab 0,aa ab ((bv c.E.T n).num t.r.text:Nat),ac ⟨#[]⟩,.slice none 0 0],aa ab 0]) (by simp [results,gI,go_sem,c8]) rfl ?_
  rw [l.out]
  exact ⟨bK _,none,0,c1,rfl,by rw [d5.out a3.out];exact L.p,L.s,TmsK.nil⟩
 have b3:(t.r.kind==3)=false:=by simpa using h3
 replace HE:=zq (HE.out.trans (if_neg h3))
 clear d5 d8
 by_cases h5:t.r.kind=5
 ·have b5:(t.r.kind==5)=true:=by simpa using h5
  have l:=zq (HE.out.trans (if_pos h5))
  have a4:=zq (a0.out (by rw [h5];decide))
  have a3:=zq (kd h5 (by decide))
  clear h4 h3 h5 HE c3 a0 b9 b8 HT c2
  go_enter gO,gn
  go_wp2_with fail
  refine H.out.mono ?_;rintro e z ⟨rfl,y⟩
  have a:=zq ((N.out.call y).new [aa ab t.r.kind,ac t.txt,aa ab t.r.n,aa ab t.r.at_,aa ab t.r.end_,av t.lay] 76 rfl)
  clear y N H
  obtain ⟨g1,j⟩:=lz (z.heap.size)
  obtain ⟨wb,o⟩:=lz (z.alloc (.cells #[aa ab t.r.kind,ac t.txt,aa ab t.r.n,aa ab t.r.at_,aa ab t.r.end_,av t.lay] 76))
  unfold kk
  go_upto_region 2 with fail
  rw [<-o.out] at a |-
  rw [<-j.out] at a |-
  clear o j
  have x:=a.out.b.all
  simp only [PC.cells,ag,ai,aj,aH,aP,ah,af,and_true] at x
  clear x
  have c6:=a.out.b.all
  simp only [PC.cells,ag,ai,aj,aH,aP,ah,af,and_true] at c6
  have hi:=HI.out
  go_upto_region 10 with fail
  have i:=a.out.inc a4.out
  obtain ⟨wn,J⟩:=lz (wb.setCell ⟨c.P,1,none⟩ (aa ab ((n:Int)+1)))
  rw [<-J.out] at i |-
  have f:=zq (i.step (c0.out a3.out V _ i.p) (Stp.refl c V wn))
  clear i J a c6 hi
  have c7:=f.out.b.all
  simp only [PC.cells,ag,ai,aj,aH,aP,ah,af,and_true] at c7
  go_wp2_with fail
  obtain ⟨RT,e1⟩:=lz (tY c.E.q t.r.text)
  have G:=Bj f.out.p t.txt (by show t.r.text.toArray.size<=20000;simpa using c4.out.1)
  rw [show t.txt.data.toList=t.r.text from rfl,<-e1.out] at G
  rw [<-e1.out] at l
  refine G.mono ?_;rintro e w5 ⟨A5,c5,rfl,f5,f6⟩
  have e7:=zq (f.out.call f5)
  have f9:Hid (Trm c V w w5 [w.heap.size] A5 RT.args):=zq (f6.keep (fun _ _=>rfl) fun b D=>⟨⟨by have:=f.out.s.size;omega,D.2,fun hm=>by have:=f.out.p.lts hm;omega⟩,fun e=>by rw [aK] at e;have:=f.out.b.lt 1 rfl;omega⟩)
  clear G f5 f6 f c7 e1
  unfold fI
  have K:=e7.out.b.all
  simp only [PC.cells,ag,ai,aj,aH,aP,ah,af,and_true] at K
  go_wp2_with fail
  have L:=e7.out.put4 1 rfl (aa ab RT.kind) (aa ab RT.num) (ac RT.name) (.slice A5 RT.args.length c5) (ae _)
  refine aw (v:=aJ #[aV #[aa ab RT.kind,aa ab RT.num,ac RT.name,.slice A5 RT.args.length c5],aa ab 0]) (by simp [results,gI,go_sem,K]) rfl ?_
  rw [l.out]
  exact ⟨bK _,A5,c5,V,rfl,L.p,L.s,(f9.out.put (g:=w.heap.size) (by simp) (fun b D=>bH _ _ (aa ab RT.kind) (aa ab RT.num) (ac RT.name) (.slice A5 RT.args.length c5) b D) (by simp)).out⟩
 have b5:(t.r.kind==5)=false:=by simpa using h5
 replace HE:=zq (HE.out.trans (if_neg h5))
 have a1:=zq fun W=>iu t ⟨#[40]⟩ W
 have a2:=zq fun W=>iu t ⟨#[91]⟩ W
 have a7:=zq fun W=>iu t ⟨#[123]⟩ W
 have a5:=zq fun W=>oV t W
 by_cases b0:kW t=true
 ·have U:Hid (R=match lB c.E S t.r.text (n+1) with | .error e=>.error e | .ok (u,m)=>.ok (u,0,m)):=zq (by rw [HE.out,if_pos b0])
  have e0:t.r.kind=6:=by unfold kW dp at b0;simp at b0;omega
  have a4:=zq (a0.out (by rw [e0];decide))
  have a3:=zq (kd e0 (by decide))
  have b6:(t.r.kind==6)=true:=by simpa using e0
  have C:∀s,dp t s=(t.r.text==s):=fun s=>by unfold dp;rw [b6];rfl
  have Q:t.r.text=[40]\/t.r.text=[91]\/t.r.text=[123]:=by unfold kW at b0;rw [C,C,C] at b0;simpa using b0
  clear h4 h3 h5 HE c3 a0 HT c2 c4 e0 b0 b6
  rcases Q with Q | Q | Q
  ·skip
   rw [show dp t (⟨#[40]⟩:ByteArray).data.toList=true from (C _).trans (by rw [Q];rfl)] at a1
   rw [show dp t (⟨#[91]⟩:ByteArray).data.toList=false from (C _).trans (by rw [Q];rfl)] at a2
   rw [show dp t (⟨#[123]⟩:ByteArray).data.toList=false from (C _).trans (by rw [Q];rfl)] at a7
   clear C a5
   go_enter gO,gn
   go_wp2_with fail
   refine H.out.mono ?_;rintro e z ⟨rfl,y⟩
   have a:=zq ((N.out.call y).new [aa ab t.r.kind,ac t.txt,aa ab t.r.n,aa ab t.r.at_,aa ab t.r.end_,av t.lay] 76 rfl)
   clear y N H
   obtain ⟨g1,j⟩:=lz (z.heap.size)
   obtain ⟨wb,o⟩:=lz (z.alloc (.cells #[aa ab t.r.kind,ac t.txt,aa ab t.r.n,aa ab t.r.at_,aa ab t.r.end_,av t.lay] 76))
   unfold kk
   go_upto_region 2 with fail
   rw [<-o.out] at a |-
   rw [<-j.out] at a |-
   clear o j
   have x:=a.out.b.all
   simp only [PC.cells,ag,ai,aj,aH,aP,ah,af,and_true] at x
   go_wp2_with fail
   refine (a1.out _).mono ?_;rintro e w3 ⟨rfl,d⟩
   have A:=zq (a.out.call d)
   clear a x
   clear d 
   have K:=A.out.b.all
   simp only [PC.cells,ag,ai,aj,aH,aP,ah,af,and_true] at K
   clear K
   have f3:=A.out.b.all
   simp only [PC.cells,ag,ai,aj,aH,aP,ah,af,and_true] at f3
   have hi:=HI.out
   go_upto_region 15 with fail
   have i:=A.out.inc a4.out
   obtain ⟨wn,J⟩:=lz (w3.setCell ⟨c.P,1,none⟩ (aa ab ((n:Int)+1)))
   rw [<-J.out] at i |-
   have f:=zq (i.step (c0.out a3.out V _ i.p) (Stp.refl c V wn))
   clear i J A f3 hi
   have c8:=f.out.b.all
   simp only [PC.cells,ag,ai,aj,aH,aP,ah,af,and_true] at c8
   have G:=lR b9.out b8.out f.out.p t.txt (.inl Q)
   rw [show t.txt.data.toList=t.r.text from rfl] at G
   have B:=zq G
   clear G Q
   rcases hx:lB c.E S t.r.text (n+1) with e | ⟨u,m⟩
   ·skip
    rw [hx] at B U
    clear hx
    have l:Hid (R=.error e):=U
    go_wp2_with fail
    refine B.out.mono ?_;rintro e w9 ⟨rfl,a9⟩
    exact ⟨rfl,TOut.bad l.out ⟨rfl,f.out.fall a9⟩⟩
   ·skip
    rw [hx] at B U
    clear hx
    have l:Hid (R=.ok (u,0,m)):=U
    go_wp2_with fail
    refine (B.out).mono ?_;rintro e w8 ⟨b7,M,O,c1,rfl,Y,hs,ht⟩
    have d1:=zq (Trm.sub (w0:=w) (F:=[w.heap.size]) ht f.out.s.size (by intro b D;rw [aK] at D;subst D;exact f.out.b.lt 1 rfl))
    have c9:=zq b7
    clear ht b7
    have e8:=zq (f.out.step Y hs)
    clear f c8
    clear Y hs
    unfold fI
    have d6:=e8.out.b.all
    simp only [PC.cells,ag,ai,aj,aH,aP,ah,af,and_true] at d6
    go_wp2_with fail
    have L:=e8.out.put4 1 rfl (aa ab u.kind) (aa ab u.num) (ac u.name) (.slice M u.args.length O) (ae _)
    refine aw (v:=aJ #[aV #[aa ab u.kind,aa ab u.num,ac u.name,.slice M u.args.length O],aa ab 0]) (by simp [results,gI,go_sem,d6]) rfl ?_
    rw [l.out]
    exact ⟨by have:=c9.out;omega,M,O,c1,rfl,L.p,L.s,(d1.out.put (g:=w.heap.size) (by simp) (fun b D=>bH _ _ (aa ab u.kind) (aa ab u.num) (ac u.name) (.slice M u.args.length O) b D) (by simp)).out⟩
  ·skip
   rw [show dp t (⟨#[40]⟩:ByteArray).data.toList=false from (C _).trans (by rw [Q];rfl)] at a1
   rw [show dp t (⟨#[91]⟩:ByteArray).data.toList=true from (C _).trans (by rw [Q];rfl)] at a2
   rw [show dp t (⟨#[123]⟩:ByteArray).data.toList=false from (C _).trans (by rw [Q];rfl)] at a7
   clear C a5
   go_enter gO,gn
   go_wp2_with fail
   refine H.out.mono ?_;rintro e z ⟨rfl,y⟩
   have a:=zq ((N.out.call y).new [aa ab t.r.kind,ac t.txt,aa ab t.r.n,aa ab t.r.at_,aa ab t.r.end_,av t.lay] 76 rfl)
   clear y N H
   obtain ⟨g1,j⟩:=lz (z.heap.size)
   obtain ⟨wb,o⟩:=lz (z.alloc (.cells #[aa ab t.r.kind,ac t.txt,aa ab t.r.n,aa ab t.r.at_,aa ab t.r.end_,av t.lay] 76))
   unfold kk
   go_upto_region 2 with fail
   rw [<-o.out] at a |-
   rw [<-j.out] at a |-
   clear o j
   have x:=a.out.b.all
   simp only [PC.cells,ag,ai,aj,aH,aP,ah,af,and_true] at x
   go_wp2_with fail
   refine (a1.out _).mono ?_;rintro e w3 ⟨rfl,d⟩
   have A:=zq (a.out.call d)
   clear a x
   clear d 
   have K:=A.out.b.all
   simp only [PC.cells,ag,ai,aj,aH,aP,ah,af,and_true] at K
   go_wp2_with fail
   refine (a2.out _).mono ?_;rintro e w6 ⟨rfl,d⟩
   have I:=zq (A.out.call d)
   clear A K
   clear d 
   have Z:=I.out.b.all
   simp only [PC.cells,ag,ai,aj,aH,aP,ah,af,and_true] at Z
   clear Z
   have f4:=I.out.b.all
   simp only [PC.cells,ag,ai,aj,aH,aP,ah,af,and_true] at f4
   have hi:=HI.out
   go_upto_region 15 with fail
   have i:=I.out.inc a4.out
   obtain ⟨wn,J⟩:=lz (w6.setCell ⟨c.P,1,none⟩ (aa ab ((n:Int)+1)))
   rw [<-J.out] at i |-
   have f:=zq (i.step (c0.out a3.out V _ i.p) (Stp.refl c V wn))
   clear i J I f4 hi
   have d6:=f.out.b.all
   simp only [PC.cells,ag,ai,aj,aH,aP,ah,af,and_true] at d6
   have G:=lR b9.out b8.out f.out.p t.txt (.inr (.inl Q))
   rw [show t.txt.data.toList=t.r.text from rfl] at G
   have B:=zq G
   clear G Q
   rcases hx:lB c.E S t.r.text (n+1) with e | ⟨u,m⟩
   ·skip
    rw [hx] at B U
    clear hx
    have l:Hid (R=.error e):=U
    go_wp2_with fail
    refine B.out.mono ?_;rintro e w9 ⟨rfl,a9⟩
    exact ⟨rfl,TOut.bad l.out ⟨rfl,f.out.fall a9⟩⟩
   ·skip
    rw [hx] at B U
    clear hx
    have l:Hid (R=.ok (u,0,m)):=U
    go_wp2_with fail
    refine (B.out).mono ?_;rintro e g0 ⟨b7,M,O,c1,rfl,Y,hs,ht⟩
    have d1:=zq (Trm.sub (w0:=w) (F:=[w.heap.size]) ht f.out.s.size (by intro b D;rw [aK] at D;subst D;exact f.out.b.lt 1 rfl))
    have c9:=zq b7
    clear ht b7
    have e4:=zq (f.out.step Y hs)
    clear f d6
    clear Y hs
    unfold fI
    have d7:=e4.out.b.all
    simp only [PC.cells,ag,ai,aj,aH,aP,ah,af,and_true] at d7
    go_wp2_with fail
    have L:=e4.out.put4 1 rfl (aa ab u.kind) (aa ab u.num) (ac u.name) (.slice M u.args.length O) (ae _)
    refine aw (v:=aJ #[aV #[aa ab u.kind,aa ab u.num,ac u.name,.slice M u.args.length O],aa ab 0]) (by simp [results,gI,go_sem,d7]) rfl ?_
    rw [l.out]
    exact ⟨by have:=c9.out;omega,M,O,c1,rfl,L.p,L.s,(d1.out.put (g:=w.heap.size) (by simp) (fun b D=>bH _ _ (aa ab u.kind) (aa ab u.num) (ac u.name) (.slice M u.args.length O) b D) (by simp)).out⟩
  ·skip
   rw [show dp t (⟨#[40]⟩:ByteArray).data.toList=false from (C _).trans (by rw [Q];rfl)] at a1
   rw [show dp t (⟨#[91]⟩:ByteArray).data.toList=false from (C _).trans (by rw [Q];rfl)] at a2
   rw [show dp t (⟨#[123]⟩:ByteArray).data.toList=true from (C _).trans (by rw [Q];rfl)] at a7
   clear C a5
   go_enter gO,gn
   go_wp2_with fail
   refine H.out.mono ?_;rintro e z ⟨rfl,y⟩
   have a:=zq ((N.out.call y).new [aa ab t.r.kind,ac t.txt,aa ab t.r.n,aa ab t.r.at_,aa ab t.r.end_,av t.lay] 76 rfl)
   clear y N H
   obtain ⟨g1,j⟩:=lz (z.heap.size)
   obtain ⟨wb,o⟩:=lz (z.alloc (.cells #[aa ab t.r.kind,ac t.txt,aa ab t.r.n,aa ab t.r.at_,aa ab t.r.end_,av t.lay] 76))
   unfold kk
   go_upto_region 2 with fail
   rw [<-o.out] at a |-
   rw [<-j.out] at a |-
   clear o j
   have x:=a.out.b.all
   simp only [PC.cells,ag,ai,aj,aH,aP,ah,af,and_true] at x
   go_wp2_with fail
   refine (a1.out _).mono ?_;rintro e w3 ⟨rfl,d⟩
   have A:=zq (a.out.call d)
   clear a x
   clear d 
   have K:=A.out.b.all
   simp only [PC.cells,ag,ai,aj,aH,aP,ah,af,and_true] at K
   go_wp2_with fail
   refine (a2.out _).mono ?_;rintro e w6 ⟨rfl,d⟩
   have I:=zq (A.out.call d)
   clear A K
   clear d 
   have Z:=I.out.b.all
   simp only [PC.cells,ag,ai,aj,aH,aP,ah,af,and_true] at Z
   go_wp2_with fail
   refine (a7.out _).mono ?_;rintro e w9 ⟨rfl,d⟩
   have X:=zq (I.out.call d)
   clear I Z
   clear d 
   have a8:=X.out.b.all
   simp only [PC.cells,ag,ai,aj,aH,aP,ah,af,and_true] at a8
   clear a8
   have e9:=X.out.b.all
   simp only [PC.cells,ag,ai,aj,aH,aP,ah,af,and_true] at e9
   have hi:=HI.out
   go_upto_region 15 with fail
   have i:=X.out.inc a4.out
   obtain ⟨wn,J⟩:=lz (w9.setCell ⟨c.P,1,none⟩ (aa ab ((n:Int)+1)))
   rw [<-J.out] at i |-
   have f:=zq (i.step (c0.out a3.out V _ i.p) (Stp.refl c V wn))
   clear i J X e9 hi
   have d7:=f.out.b.all
   simp only [PC.cells,ag,ai,aj,aH,aP,ah,af,and_true] at d7
   have G:=lR b9.out b8.out f.out.p t.txt (.inr (.inr Q))
   rw [show t.txt.data.toList=t.r.text from rfl] at G
   have B:=zq G
   clear G Q
   rcases hx:lB c.E S t.r.text (n+1) with e | ⟨u,m⟩
   ·skip
    rw [hx] at B U
    clear hx
    have l:Hid (R=.error e):=U
    go_wp2_with fail
    refine B.out.mono ?_;rintro e w9 ⟨rfl,a9⟩
    exact ⟨rfl,TOut.bad l.out ⟨rfl,f.out.fall a9⟩⟩
   ·skip
    rw [hx] at B U
    clear hx
    have l:Hid (R=.ok (u,0,m)):=U
    go_wp2_with fail
    refine (B.out).mono ?_;rintro e g2 ⟨b7,M,O,c1,rfl,Y,hs,ht⟩
    have d1:=zq (Trm.sub (w0:=w) (F:=[w.heap.size]) ht f.out.s.size (by intro b D;rw [aK] at D;subst D;exact f.out.b.lt 1 rfl))
    have c9:=zq b7
    clear ht b7
    have e5:=zq (f.out.step Y hs)
    clear f d7
    clear Y hs
    unfold fI
    have f1:=e5.out.b.all
    simp only [PC.cells,ag,ai,aj,aH,aP,ah,af,and_true] at f1
    go_wp2_with fail
    have L:=e5.out.put4 1 rfl (aa ab u.kind) (aa ab u.num) (ac u.name) (.slice M u.args.length O) (ae _)
    refine aw (v:=aJ #[aV #[aa ab u.kind,aa ab u.num,ac u.name,.slice M u.args.length O],aa ab 0]) (by simp [results,gI,go_sem,f1]) rfl ?_
    rw [l.out]
    exact ⟨by have:=c9.out;omega,M,O,c1,rfl,L.p,L.s,(d1.out.put (g:=w.heap.size) (by simp) (fun b D=>bH _ _ (aa ab u.kind) (aa ab u.num) (ac u.name) (.slice M u.args.length O) b D) (by simp)).out⟩
 replace HE:=zq (HE.out.trans (if_neg b0))
 have d9:dp t [40]=false/\dp t [91]=false/\dp t [123]=false:=by unfold kW at b0;simpa using b0
 rw [show dp t (⟨#[40]⟩:ByteArray).data.toList=false from d9.1] at a1
 rw [show dp t (⟨#[91]⟩:ByteArray).data.toList=false from d9.2.1] at a2
 rw [show dp t (⟨#[123]⟩:ByteArray).data.toList=false from d9.2.2] at a7
 clear d9 b0
 cases hnn:fa t
 ·have l:Hid (R=.error n):=zq (HE.out.trans (if_neg (by rw [hnn];simp)))
  rw [hnn] at a5
  clear h4 h3 h5 HE c4 c3 a0 b9 b8 HT c2 c0 HI hnn
  go_enter gO,gn
  go_wp2_with fail
  refine H.out.mono ?_;rintro e z ⟨rfl,y⟩
  have a:=zq ((N.out.call y).new [aa ab t.r.kind,ac t.txt,aa ab t.r.n,aa ab t.r.at_,aa ab t.r.end_,av t.lay] 76 rfl)
  clear y N H
  obtain ⟨g1,j⟩:=lz (z.heap.size)
  obtain ⟨wb,o⟩:=lz (z.alloc (.cells #[aa ab t.r.kind,ac t.txt,aa ab t.r.n,aa ab t.r.at_,aa ab t.r.end_,av t.lay] 76))
  unfold kk
  go_upto_region 2 with fail
  rw [<-o.out] at a |-
  rw [<-j.out] at a |-
  clear o j
  have x:=a.out.b.all
  simp only [PC.cells,ag,ai,aj,aH,aP,ah,af,and_true] at x
  go_wp2_with fail
  refine (a1.out _).mono ?_;rintro e w3 ⟨rfl,d⟩
  have A:=zq (a.out.call d)
  clear a x
  clear d 
  have K:=A.out.b.all
  simp only [PC.cells,ag,ai,aj,aH,aP,ah,af,and_true] at K
  go_wp2_with fail
  refine (a2.out _).mono ?_;rintro e w6 ⟨rfl,d⟩
  have I:=zq (A.out.call d)
  clear A K
  clear d 
  have Z:=I.out.b.all
  simp only [PC.cells,ag,ai,aj,aH,aP,ah,af,and_true] at Z
  go_wp2_with fail
  refine (a7.out _).mono ?_;rintro e w9 ⟨rfl,d⟩
  have X:=zq (I.out.call d)
  clear I Z
  clear d 
  have a8:=X.out.b.all
  simp only [PC.cells,ag,ai,aj,aH,aP,ah,af,and_true] at a8
  go_wp2_with fail
  refine (a5.out _).mono ?_;rintro e e3 ⟨rfl,d⟩
  have a6:=zq (X.out.call d)
  clear X a8
  clear d 
  have d3:=a6.out.b.all
  simp only [PC.cells,ag,ai,aj,aH,aP,ah,af,and_true] at d3
  go_wp2_with fail
  refine (oW a6.out.p).mono ?_;rintro e w9 ⟨rfl,a9⟩
  exact ⟨rfl,TOut.bad l.out ⟨rfl,a6.out.fall a9⟩⟩
 ·have U:Hid (R=tr c.E S t d2 (n+1)):=zq (HE.out.trans (if_pos hnn))
  have f7:¬t.r.kind=7:=by unfold fa at hnn;simp at hnn;omega
  have a4:=zq (a0.out f7)
  have a3:=zq (ss hnn)
  have f8:=zq hnn
  rw [hnn] at a5
  clear h4 h3 h5 HE c4 a0 HT c2 hnn f7
  go_enter gO,gn
  go_wp2_with fail
  refine H.out.mono ?_;rintro e z ⟨rfl,y⟩
  have a:=zq ((N.out.call y).new [aa ab t.r.kind,ac t.txt,aa ab t.r.n,aa ab t.r.at_,aa ab t.r.end_,av t.lay] 76 rfl)
  clear y N H
  obtain ⟨g1,j⟩:=lz (z.heap.size)
  obtain ⟨wb,o⟩:=lz (z.alloc (.cells #[aa ab t.r.kind,ac t.txt,aa ab t.r.n,aa ab t.r.at_,aa ab t.r.end_,av t.lay] 76))
  unfold kk
  go_upto_region 2 with fail
  rw [<-o.out] at a |-
  rw [<-j.out] at a |-
  clear o j
  have x:=a.out.b.all
  simp only [PC.cells,ag,ai,aj,aH,aP,ah,af,and_true] at x
  go_wp2_with fail
  refine (a1.out _).mono ?_;rintro e w3 ⟨rfl,d⟩
  have A:=zq (a.out.call d)
  clear a x
  clear d 
  have K:=A.out.b.all
  simp only [PC.cells,ag,ai,aj,aH,aP,ah,af,and_true] at K
  go_wp2_with fail
  refine (a2.out _).mono ?_;rintro e w6 ⟨rfl,d⟩
  have I:=zq (A.out.call d)
  clear A K
  clear d 
  have Z:=I.out.b.all
  simp only [PC.cells,ag,ai,aj,aH,aP,ah,af,and_true] at Z
  go_wp2_with fail
  refine (a7.out _).mono ?_;rintro e w9 ⟨rfl,d⟩
  have X:=zq (I.out.call d)
  clear I Z
  clear d 
  have a8:=X.out.b.all
  simp only [PC.cells,ag,ai,aj,aH,aP,ah,af,and_true] at a8
  go_wp2_with fail
  refine (a5.out _).mono ?_;rintro e e3 ⟨rfl,d⟩
  have a6:=zq (X.out.call d)
  clear X a8
  clear d 
  clear a1 a2 a7 a5
  have d3:=a6.out.b.all
  simp only [PC.cells,ag,ai,aj,aH,aP,ah,af,and_true] at d3
  have hi:=HI.out
  go_upto_region 18 with fail
  have i:=a6.out.inc a4.out
  obtain ⟨wn,J⟩:=lz (e3.setCell ⟨c.P,1,none⟩ (aa ab ((n:Int)+1)))
  rw [<-J.out] at i |-
  have f:=zq (i.step (c0.out a3.out V _ i.p) (Stp.refl c V wn))
  clear i J a6 d3 hi
  have f0:=f.out.b.all
  simp only [PC.cells,ag,ai,aj,aH,aP,ah,af,and_true] at f0
  have G:=yi b9.out b8.out (bK n) f.out.p t (c3.out f8.out) d2
  have B:=zq G
  clear G
  rcases hx:tr c.E S t d2 (n+1) with e | ⟨u,pr,m⟩
  ·skip
   rw [hx] at B U
   clear hx
   have l:Hid (R=.error e):=U
   unfold kk at B
   go_wp2_with fail
   refine B.out.mono ?_;rintro e w9 ⟨rfl,a9⟩
   exact ⟨rfl,TOut.bad l.out ⟨rfl,f.out.fall a9⟩⟩
  ·skip
   rw [hx] at B U
   clear hx
   have l:Hid (R=.ok (u,pr,m)):=U
   unfold kk at B
   go_wp2_with fail
   refine (B.out).mono ?_;rintro e g3 ⟨b7,M,O,c1,rfl,Y,hs,ht⟩
   have d1:=zq (Trm.sub (w0:=w) (F:=[w.heap.size]) ht f.out.s.size (by intro b D;rw [aK] at D;subst D;exact f.out.b.lt 1 rfl))
   have c9:=zq b7
   clear ht b7
   have e6:=zq (f.out.step Y hs)
   clear f f0
   clear Y hs
   unfold fI
   have f2:=e6.out.b.all
   simp only [PC.cells,ag,ai,aj,aH,aP,ah,af,and_true] at f2
   go_wp2_with fail
   have L:=e6.out.put4 1 rfl (aa ab u.kind) (aa ab u.num) (ac u.name) (.slice M u.args.length O) (ae _)
   refine aw (v:=aJ #[aV #[aa ab u.kind,aa ab u.num,ac u.name,.slice M u.args.length O],aa ab pr]) (by simp [results,gI,go_sem,f2]) rfl ?_
   rw [l.out]
   exact ⟨by have:=c9.out;omega,M,O,c1,rfl,L.p,L.s,(d1.out.put (g:=w.heap.size) (by simp) (fun b D=>bH _ _ (aa ab u.kind) (aa ab u.num) (ac u.name) (.slice M u.args.length O) b D) (by simp)).out⟩
end Go.Proofs.YtbojljpldcijgaaGreat
namespace Hb
open Go Go.RowKit
theorem pJ (E:RE) (S:PT) (a:Int) (k:Nat) (t:Tm) (b:Int) (n:Nat):iw E S a (k+1) t b n =
  if vX (gS E n) a b=true then .ok (t,b,n)
  else if qS (gS E n).1=true then iw E S a k (ju (gS E n).1.name [t]) (gS E n).1.prec (n+1)
  else match S (ig (gS E n).1) (n+1) with
   | .error e=>.error e
   | .ok (u,_,m)=>iw E S a k (ju (gS E n).1.name [t,u]) (gS E n).1.prec m:=rfl
theorem vH {E:RE} {n:Nat} (h:(gS E n).2=true):¬(E.at n).r.kind=7/\mB (E.at n)=false:=by
 have a:fa (E.at n)=true\/dp (E.at n) [44]=true\/dp (E.at n) [124]=true:=by
  unfold gS at h
  cases h1:fa (E.at n) <;> cases h2:dp (E.at n) [44] <;> cases h3:dp (E.at n) [124] <;> simp [h1,h2,h3] at h |-
 rcases a with h | h | h
 ·exact ⟨by unfold fa at h;simp at h;omega,ss h⟩
 ·exact ⟨by unfold dp at h;simp at h;omega,dP h⟩
 ·exact ⟨by unfold dp at h;simp at h;omega,dP h⟩
end Hb
namespace Go.Proofs.YtbojljpldcijgaaGreat
open Go.RowKit Hb
theorem yx (E:RE) (n:Nat):-9223372036854775808<=(gS E n).1.prec/\(gS E n).1.prec<=9223372036854775807:=by
 unfold gS
 simp only
 split
 ·exact ⟨by show (-9223372036854775808:Int)<=0;omega,by show (0:Int)<=9223372036854775807;omega⟩
 ·split
  ·exact mO _ _ _
  ·exact mO _ _ _
theorem OwnT.lit {c:PC} {n:Nat} {v:VS} {f:aC} {w0 w:au} {F:List Nat} (p:PsAt c n v f w) (o:w0.heap.size<=w.heap.size) (k:∀b∈F,b<w.heap.size) (r:TR) (m:Trm c f w0 w F r.2.1 r.1.args):OwnT c f w0 (w.alloc (.cells (fL r).toArray 30)) F (.slice (some ⟨w.heap.size,0,none⟩) 1 1) [r]:=by
 have h:aB w.heap.size w (w.alloc (.cells (fL r).toArray 30)):=(ap _ _).alloc (ae _) _
 refine ⟨?_,fun g l=>?_,fun q i=>?_⟩
 ·have j:dM [r]=(fL r).toArray.toList:=by unfold dM;simp
  rw [j]
  exact World.ownsRow_lit w (fL r).toArray 1 o (by unfold maxLen;omega) rfl
 ·have e:w.heap.size=g:=by simpa [eJ] using l
  subst e
  exact ⟨fun d=>by have:=p.lts d;omega,fun d=>by have:=k _ d;omega⟩
 ·rw [aK] at i
  subst i
  refine m.keep (fun b a=>h.block b a.1.2.1) fun b a=>⟨⟨⟨a.1.1,aA a.1.2.1 h.size,a.1.2.2⟩,a.2⟩,fun e=>?_⟩
  have s:w.heap.size=b:=by simpa [eJ] using e
  have:=a.1.2.1
  omega
theorem Bi {c:PC} {S:PT} {k n:Nat} {nv:aC} {w:au} (hS:qi c S k) (hk:k<=n+1) (p:PsAt c n (bv c.E.T n) nv w) (q:Int) :
  Calls am 56 #[ar (some ⟨c.P,0,none⟩),aa ab q] w (TOut c n nv w (xN c.E S q n)):=by
 obtain ⟨R,HR⟩:=lz (xN c.E S q n)
 rw [<-HR.out]
 have a8:=zq ((Wk.start p).new [aa ab 0,aa ab 0,ac ⟨#[]⟩,.slice none 0 0] 30 rfl)
 have I:=zq (uz hS hk a8.out.p q)
 have HS:=zq (fun (m:Int) (i:Nat) z W (hi:n<i) (h:PsAt c i (bv c.E.T i) z W)=>hS m i z W (aQ hk hi) h)
 have b6:=zq (fun (f:ByteArray) (A:Option Addr) (m G:Nat) (W:au)=>iV f A m G W)
 have i3:=zq p.ok.len
 have V:Hid (R=match kQ c.E S q n with | .error e=>.error e | .ok (t,p,m)=>iw c.E S q c.E.T.length t p m):=zq HR.out
 clear p HR hS hk
 rcases hx:kQ c.E S q n with e | ⟨B,p0,n0⟩
 ·rw [hx] at I V
  have M:Hid (R=.error e):=V
  clear hx
  go_enter Tryz.func56,Tryz.ntmps56
  go_wp2_with fail
  refine I.out.mono ?_;rintro e w9 ⟨rfl,e4⟩
  exact ⟨rfl,TOut.bad M.out ⟨rfl,a8.out.fall e4⟩⟩
 rw [hx] at I V
 have e6:Hid (R=iw c.E S q c.E.T.length B p0 n0):=V
 clear hx V
 go_enter Tryz.func56,Tryz.ntmps56
 go_wp2_with fail
 refine (I.out).mono ?_;rintro e w1 ⟨b9,At,ct,j2,rfl,hp,hs,C⟩
 have g0:=zq (Trm.sub (w0:=w) (F:=[w.heap.size]) C a8.out.s.size (by intro b d;rw [aK] at d;subst d;exact a8.out.b.lt 0 rfl))
 have i5:=zq b9
 clear C b9
 have K:=zq (a8.out.step hp hs)
 clear a8
 clear hp hs
 clear I
 unfold fI
 have b3:=zq (K.out.new [aa ab B.kind,aa ab B.num,ac B.name,.slice At B.args.length ct] 30 (g:=w1.heap.size) (by simp))
 have c5:=zq (g0.out.new (.cells #[aa ab B.kind,aa ab B.num,ac B.name,.slice At B.args.length ct] 30) (g:=w1.heap.size) (by simp))
 clear K g0
 obtain ⟨wb,a4⟩:=lz ((w1.alloc (.cells #[aa ab B.kind,aa ab B.num,ac B.name,.slice At B.args.length ct] 30)))
 obtain ⟨l,e9⟩:=lz (w1.heap.size)
 go_upto_block 1 with fail
 rw [<-a4.out] at b3 c5 |-
 rw [<-e9.out] at b3 c5 |-
 clear a4 e9
 have f1:Hid (w.heap.size<=l):=zq (by
  have j1:=b3.out.b.ord
  simp only [ag,ai,List.map_cons,List.map_nil,List.pairwise_cons,bh,be,or_false,forall_eq_or_imp,forall_eq] at j1
  omega)
 go_loopw [7] (fun v7 wr=>∃(Q:Int) (a:Nat) (z:aC) (t:Tm) (A:Option Addr) (G j:Nat),v7=aa ab Q/\n<a/\c.E.T.length<=a+j/\Hid (Wk c a (bv c.E.T a) nv w z wr [(l,[aa ab t.kind,aa ab t.num,ac t.name,.slice A t.args.length G]),(w.heap.size,[aa ab 0,aa ab 0,ac ⟨#[]⟩,.slice none 0 0])])/\Hid (Trm c z w wr [l,w.heap.size] A t.args)/\Hid (R=iw c.E S q j t Q a)) (fun _ wr=>match wr.cell? ⟨c.P,1,none⟩ with | some (aa _ i)=>c.E.T.length-i.toNat | _=>0)
 case atStart=>exact ⟨p0,n0,j2,B,At,ct,c.E.T.length,rfl,i5.out,by omega,b3,c5,e6⟩
 case round=>
  obtain ⟨Q,a,z,t,A,G,j,rfl,h9,hj,b5,HT,V⟩:=hrel
  have h8:=b5.out.p.n1
  obtain ⟨j,rfl⟩:∃i,j=i+1:=⟨j-1,by omega⟩
  have J:=zq (⟨h9,hj,h8⟩:_/\_/\_)
  have f4:=zq (b5.out.p.bk.c 1 _ rfl:wr.cell? ⟨c.P,1,none⟩=some (aa ab (a:Int)))
  have Y:=zq (V.out.trans (pJ c.E S q j t Q a))
  have d7:=zq (sX b5.out.p)
  have a7:=zq (fun h=>vH (E:=c.E) (n:=a) h)
  have c3:=zq (fun X=>qU (gS c.E a).1 X (yx c.E a))
  obtain ⟨en,d3⟩:=lz (vX (gS c.E a) q Q)
  rw [<-d3.out] at Y
  have a1:Hid (en=(!(gS c.E a).2||(decide (q<(gS c.E a).1.prec)||decide (kL (gS c.E a).1<Q)))):=zq d3.out
  clear d3 b3 c5 e6 h9 hj h8 V
  obtain ⟨o,HO⟩:=lz ((gS c.E a).1)
  obtain ⟨b,HB⟩:=lz ((gS c.E a).2)
  rw [<-HO.out,<-HB.out] at d7 a1
  rw [<-HO.out] at Y c3
  rw [<-HB.out] at a7
  clear HO HB
  unfold jK at *
  obtain ⟨sl,e0⟩:=lz (kL o)
  obtain ⟨sr,e1⟩:=lz (ig o)
  rw [<-e0.out,<-e1.out] at c3
  rw [<-e0.out] at a1
  rw [<-e1.out] at Y
  clear e0 e1
  go_wp2_with fail
  refine (d7.out).mono ?_;rintro e d0 ⟨rfl,r⟩
  have f5:=zq (b5.out.call r)
  have g2:=zq (HT.out.call r)
  clear b5 HT
  clear r d7
  have b4:=zq (f5.out.new [ac o.name,aa ab o.typ,aa ab o.prec] 61 (g:=d0.heap.size) (by simp))
  have c6:=zq (g2.out.new (.cells #[ac o.name,aa ab o.typ,aa ab o.prec] 61) (g:=d0.heap.size) (by simp))
  clear f5 g2
  obtain ⟨wq,g7⟩:=lz ((d0.alloc (.cells #[ac o.name,aa ab o.typ,aa ab o.prec] 61)))
  obtain ⟨g8,f0⟩:=lz (d0.heap.size)
  go_upto_region 3 with fail
  rw [<-g7.out] at b4 c6 |-
  rw [<-f0.out] at b4 c6 |-
  clear g7 f0
  have g9:=b4.out.b.all
  simp only [PC.cells,ag,ai,aj,aH,aP,ah,af,and_true] at g9
  go_wp2_with fail
  refine (c3.out _).mono ?_;rintro e j3 ⟨rfl,r⟩
  have a3:=zq (b4.out.call r)
  have e3:=zq (c6.out.call r)
  clear b4 c6 g9
  clear r c3
  go_upto_region 4 with fail
  go_cut [43] from 31 to 43 (fun x wc=>x=av en/\wc=j3)
  case first=>
   have a5:=a3.out.b.all
   simp only [PC.cells,ag,ai,aj,aH,aP,ah,af,and_true] at a5
   have a0:=a1.out
   clear Y HS b6 a1 a7
   cases b
   ·have O:en=true:=a0
    clear a0
    subst O
    go_wp2_with fail
    go_meet
    exact ⟨rfl,rfl⟩
   ·by_cases y:q<o.prec
    ·have N:decide (q<o.prec)=true:=decide_eq_true y
     rw [N] at a0
     have O:en=true:=a0
     clear a0 y
     subst O
     go_wp2_with fail
     go_meet
     exact ⟨rfl,rfl⟩
    ·have N:decide (q<o.prec)=false:=decide_eq_false y
     rw [N] at a0
     have O:en=decide (sl<Q):=a0
     clear a0 y
     subst O
     go_wp2_with fail
     go_meet
     exact ⟨rfl,rfl⟩
  case rest=>
   obtain ⟨rfl,rfl⟩:=hcut
   cases en
   rotate_left
   ·skip
    have M:Hid (R=.ok (t,Q,a)):=Y
    clear Y HS b6 a1 a7
    have a5:=a3.out.b.all
    simp only [PC.cells,ag,ai,aj,aH,aP,ah,af,and_true] at a5
    go_wp2_with fail
    have H:=a3.out.put4 2 rfl (aa ab t.kind) (aa ab t.num) (ac t.name) (.slice A t.args.length G) (ae _)
    have C:=e3.out.put (g:=w.heap.size) (by simp) (fun b d=>bH _ _ (aa ab t.kind) (aa ab t.num) (ac t.name) (.slice A t.args.length G) b d) (by simp)
    refine aw (v:=aJ #[aV #[aa ab t.kind,aa ab t.num,ac t.name,.slice A t.args.length G],aa ab Q]) (by simp [results,Tryz.results56,go_sem,a5]) rfl ?_
    rw [M.out]
    exact ⟨J.out.1,A,G,z,rfl,H.p,H.s,C.out⟩
   have d:b=true:=by
    have h:=a1.out
    cases b with
    | true=>rfl
    | false=>cases h
   subst d
   have a6:Hid (R=if qS o=true then iw c.E S q j (ju o.name [t]) o.prec (a+1) else match S sr (a+1) with | .error e=>.error e | .ok (u,_,m)=>iw c.E S q j (ju o.name [t,u]) o.prec m):=Y
   have i2:=zq (a7.out rfl).2
   have i4:=zq (a3.out.p.more (a7.out rfl).1)
   clear Y a1 a7
   have hi:=jd (n:=a) (by have:=J.out;have:=i3.out;omega)
   have a5:=a3.out.b.all
   simp only [PC.cells,ag,ai,aj,aH,aP,ah,af,and_true] at a5
   go_upto_region 7 with fail
   have hq:=a3.out.inc i4.out
   obtain ⟨wn,g5⟩:=lz (wc.setCell ⟨c.P,1,none⟩ (aa ab ((a:Int)+1)))
   have e5:=(Stp.refl c z wc).put 1 (aa ab ((a:Int)+1))
   rw [<-g5.out] at hq e5 |-
   have Z:=zq (hq.step (PsAt.skip i2.out J.out.2.2 hq.p) (Stp.refl c z wn))
   have g3:=zq (e3.out.step e5)
   clear hq e5 g5 a3 e3 a5 hi
   have h4:=Z.out.b.all
   simp only [PC.cells,ag,ai,aj,aH,aP,ah,af,and_true] at h4
   go_upto_region 9 with fail
   obtain ⟨wl,c7⟩:=lz (wn.alloc (.cells #[aa ab t.kind,aa ab t.num,ac t.name,.slice A t.args.length G] 30))
   obtain ⟨L,d4⟩:=lz (wn.heap.size)
   have h6:aB wn.heap.size wn wl:=by rw [c7.out];exact (ap _ _).alloc (ae _) _
   have D:=zq (Z.out.call h6)
   have i0:=OwnT.lit (F:=[g8,l,w.heap.size]) Z.out.p Z.out.s.size (by intro b d;simp only [bh,be,or_false] at d;rcases d with rfl|rfl|rfl;exact Z.out.b.lt 0 rfl;exact Z.out.b.lt 1 rfl;exact Z.out.b.lt 2 rfl) (t,A,G) (g3.out)
   have i1:OwnT c z w wl [g8,l,w.heap.size] (.slice (some ⟨L,0,none⟩) 1 1) [(t,A,G)]:=by rw [c7.out,d4.out];exact i0
   have b2:=zq i1
   rw [<-c7.out] at |-
   rw [<-d4.out] at |-
   clear h6 i0 i1 c7 d4 Z g3 h4
   obtain ⟨po,c2⟩:=lz (qS o)
   rw [<-c2.out] at a6
   go_cut [64] from 57 to 64 (fun x j6=>x=av (!po)/\j6=wl)
   case first=>
    have c8:=D.out.b.all
    simp only [PC.cells,ag,ai,aj,aH,aP,ah,af,and_true] at c8
    have a9:po=(o.typ==6||o.typ==7):=c2.out
    clear a6 HS b6 c2
    by_cases y:o.typ=6
    ·have N:(o.typ==6)=true:=by simpa using y
     have d2:(o.typ != 6)=false:=by simpa using y
     rw [N] at a9
     clear N
     have O:po=true:=a9
     clear a9 y
     subst O
     go_wp2_with fail
     go_meet
     exact ⟨rfl,rfl⟩
    ·have N:(o.typ==6)=false:=by simpa using y
     have d2:(o.typ != 6)=true:=by simpa using y
     rw [N] at a9
     clear N
     have O:po=(o.typ==7):=a9
     clear a9 y
     subst O
     go_wp2_with fail
     go_meet
     exact ⟨rfl,rfl⟩
   case rest=>
    obtain ⟨rfl,h7⟩:=hcut
    rw [h7]
    clear h7 c2
    cases po
    rotate_left
    ·skip
     have M:Hid (R=iw c.E S q j (ju o.name [t]) o.prec (a+1)):=a6
     obtain ⟨U,cr,c9,c0⟩:=b2.out.tms
     obtain ⟨rfl,rfl⟩:some ⟨L,0,none⟩=U/\1=cr:=by injection c9 with y _ h3;exact ⟨y,h3⟩
     have b7:Hid (Trm c z w wl [g8,l,w.heap.size] (some ⟨L,0,none⟩) [t]):=zq c0
     clear a6 c0 c9 b2
     have a2:Hid (a<a+1):=zq (bK _)
     have c8:=D.out.b.all
     simp only [PC.cells,ag,ai,aj,aH,aP,ah,af,and_true] at c8
     go_wp2_with fail
     refine (b6.out _ _ _ _ _).mono ?_;rintro e j4 ⟨rfl,r⟩
     have f7:=zq (D.out.call r)
     have i7:=zq (b7.out.call r)
     clear D b7 c8
     clear r 
     have i9:=f7.out.b.all
     simp only [PC.cells,ag,ai,aj,aH,aP,ah,af,and_true] at i9
     have H:Wk c (a+1) (bv c.E.T (a+1)) nv w z ((((j4.setCell ⟨l,0,none⟩ (aa ab 3)).setCell ⟨l,1,none⟩ (aa ab 0)).setCell ⟨l,2,none⟩ (ac o.name)).setCell ⟨l,3,none⟩ (.slice (some ⟨L,0,none⟩) 1 1)) [(l,[aa ab 3,aa ab 0,ac o.name,.slice (some ⟨L,0,none⟩) 1 1]),(w.heap.size,[aa ab 0,aa ab 0,ac ⟨#[]⟩,.slice none 0 0])]:=(f7.out.tl).put4 0 rfl (aa ab 3) (aa ab 0) (ac o.name) (.slice (some ⟨L,0,none⟩) 1 1) f1.out
     have C:=i7.out.put (g:=l) (by simp) (fun b d=>bH _ _ (aa ab 3) (aa ab 0) (ac o.name) (.slice (some ⟨L,0,none⟩) 1 1) b d) (by simp)
     have HZ:=zq H
     have e2:=zq C
     have d8:=zq (H.p.bk.c 1 _ rfl:_=some (aa ab (((a+1):Nat):Int)))
     have d5:=zq H.p.n1
     clear H C
     go_wp2_with fail
     go_roundw
     case rel=>exact ⟨o.prec,(a+1),z,ju o.name [t],(some ⟨L,0,none⟩),1,j,rfl,by have:=J.out;have:=a2.out;omega,by have:=J.out;have:=a2.out;omega,HZ,zq (e2.out.fewer (by intro b d;exact eQ _ d)),M⟩
     case measure=>rw [d8.out,f4.out];have:=J.out;have:=a2.out;have:=d5.out;simp;omega
    have b1:Hid (R=match S sr (a+1) with | .error e=>.error e | .ok (u,_,m)=>iw c.E S q j (ju o.name [t,u]) o.prec m):=a6
    clear a6
    have I:=zq (HS.out sr (a+1) z _ (by have:=J.out;omega) D.out.p)
    rcases hx:S sr (a+1) with e | ⟨u,pu,m⟩
    ·skip
     rw [hx] at I b1
     clear hx
     have M:Hid (R=.error e):=b1
     go_wp2_with fail
     refine I.out.mono ?_;rintro e w9 ⟨rfl,e4⟩
     exact ⟨rfl,TOut.bad M.out ⟨rfl,D.out.fall e4⟩⟩
    ·skip
     rw [hx] at I b1
     clear hx
     have M:Hid (R=iw c.E S q j (ju o.name [t,u]) o.prec m):=b1
     clear b1
     go_wp2_with fail
     refine (I.out).mono ?_;rintro e c1 ⟨b9,Au,cu,b0,rfl,hp,hs,C⟩
     have g4:=zq (C.keep (fun _ _=>rfl) fun b d=>(⟨⟨⟨aQ D.out.s.size d.1,d.2⟩,fun e=>by
       simp only [bh,be,or_false] at e
       have h0:=D.out.b.lt 0 rfl
       have y:=D.out.b.lt 1 rfl
       have h2:=D.out.b.lt 2 rfl
       have:=d.1
       rcases e with rfl|rfl|rfl <;> omega⟩,fun e=>by
       have:=(b2.out.own.lt b e).2;have:=d.1;omega⟩:(c.new b0 w _ b/\b ∉ [g8,l,w.heap.size])/\(dc (some ⟨L,0,none⟩) 1 1).ownBlock≠some b))
     have i6:=zq b9
     clear C b9
     have f6:=zq (D.out.step hp hs)
     have f3:=zq (b2.out.step hs)
     clear D b2
     clear hp hs
     clear I
     unfold fI
     obtain ⟨wb2,a4⟩:=lz (c1.alloc (.cells #[aa ab u.kind,aa ab u.num,ac u.name,.slice Au u.args.length cu] 30))
     have b8:aB c1.heap.size c1 wb2:=by rw [a4.out];exact (ap _ _).alloc (ae _) _
     have h5:Bk wb2 c1.heap.size [aa ab u.kind,aa ab u.num,ac u.name,.slice Au u.args.length cu]:=by rw [a4.out];exact Bk.new c1 _ _
     have K:=zq (f6.out.call b8)
     have d6:=zq (f3.out.call b8)
     have g1:=zq (g4.out.keep (fun b d=>b8.block b d.1.1.2.1) fun b d=>(⟨⟨⟨d.1.1.1,aA d.1.1.2.1 b8.size,d.1.1.2.2⟩,d.1.2⟩,d.2⟩:(c.new b0 w wb2 b/\b ∉ [g8,l,w.heap.size])/\(dc (some ⟨L,0,none⟩) 1 1).ownBlock≠some b))
     have cb:=h5.all0
     simp only [aP,ah,af,and_true] at cb
     have f9:Hid (w.heap.size<=wb2.heap.size):=zq K.out.s.size
     have e7:Hid (∀b∈[g8,l,w.heap.size],b<wb2.heap.size):=zq (by intro b d;simp only [bh,be,or_false] at d;rcases d with rfl|rfl|rfl;exact K.out.b.lt 0 rfl;exact K.out.b.lt 1 rfl;exact K.out.b.lt 2 rfl)
     clear b8 h5 f6 f3 g4
     go_upto_region 11 with fail
     rw [<-a4.out]
     clear a4
     go_wp2_with (at_builtin;go_must (refine lE rfl _ _ rfl c m _ b0 w [g8,l,w.heap.size] _ [(t,A,G)] rfl d6.out K.out.p f9.out e7.out (u,Au,cu) g1.out _ rfl rfl rfl (by simp) ?_;intro v4 w4 f2 e8;have d9:=zq ((K.out.call ((ap _ _).alloc (ae _) (.cells (fL (u,Au,cu)).toArray 30))).grown (d6.out.call ((ap _ _).alloc (ae _) (.cells (fL (u,Au,cu)).toArray 30))) (by simp) e8.out);(obtain ⟨U,cr,c9,c0⟩:=f2.out.tms);subst c9;(have b7:Hid (Trm c b0 w w4 [g8,l,w.heap.size] U [t,u]):=zq c0);clear c0;have c4:=d9.out.b.all;simp only [PC.cells,ag,ai,aj,aH,aP,ah,af,and_true] at c4))
     clear cb c4 d6 g1 K f9 e7 f2 e8
     have a2:Hid (a<m):=zq (Nat.lt_of_succ_lt i6.out)
     refine (b6.out _ _ _ _ _).mono ?_;rintro e j5 ⟨rfl,r⟩
     have f8:=zq (d9.out.call r)
     have i8:=zq (b7.out.call r)
     clear d9 b7
     clear r 
     have j0:=f8.out.b.all
     simp only [PC.cells,ag,ai,aj,aH,aP,ah,af,and_true] at j0
     have H:Wk c m (bv c.E.T m) nv w b0 ((((j5.setCell ⟨l,0,none⟩ (aa ab 3)).setCell ⟨l,1,none⟩ (aa ab 0)).setCell ⟨l,2,none⟩ (ac o.name)).setCell ⟨l,3,none⟩ (.slice U 2 cr)) [(l,[aa ab 3,aa ab 0,ac o.name,.slice U 2 cr]),(w.heap.size,[aa ab 0,aa ab 0,ac ⟨#[]⟩,.slice none 0 0])]:=(f8.out.tl).put4 0 rfl (aa ab 3) (aa ab 0) (ac o.name) (.slice U 2 cr) f1.out
     have C:=i8.out.put (g:=l) (by simp) (fun b d=>bH _ _ (aa ab 3) (aa ab 0) (ac o.name) (.slice U 2 cr) b d) (by simp)
     have HZ:=zq H
     have e2:=zq C
     have d8:=zq (H.p.bk.c 1 _ rfl:_=some (aa ab ((m:Nat):Int)))
     have d5:=zq H.p.n1
     clear H C
     go_wp2_with fail
     go_roundw
     case rel=>exact ⟨o.prec,m,b0,ju o.name [t,u],U,cr,j,rfl,by have:=J.out;have:=a2.out;omega,by have:=J.out;have:=a2.out;omega,HZ,zq (e2.out.fewer (by intro b d;exact eQ _ d)),M⟩
     case measure=>rw [d8.out,f4.out];have:=J.out;have:=a2.out;have:=d5.out;simp;omega
theorem Bl (c:PC):∀f,qi c (uf c.E f) (c.E.T.length-f):=by
 intro f
 induction f with
 | zero=>intro a n d w b p;exact absurd p.n1 (by omega)
 | succ f ih=>intro a n d w b p;exact Bi ih (by omega) p a
theorem sE (b c d:Nat) (w:au):CallsD am 55 #[ar (some ⟨b,0,none⟩),ar (some ⟨c,0,none⟩),ar (some ⟨d,0,none⟩)] .returning w fun e h w'=>e=aD (aJ #[])/\h=.returning/\aB w.heap.size w w':=by
 have f:∀w,(Instr.typeAssert .nilIface 20 102 true).run am w=.ok (aJ #[aV #[aa ab 0],av false]) w:=fun w=>by kernel_rfl
 refine callsD_of_wpS Tryz.func55 rfl fun a i g=>?_
 apply wpS_seq
 apply wpS_region
 simp [wpOpsS,go_sem,recoverD,g,Tryz.ntmps55,Exit.thenS,f]
 apply wpS_seq
 apply wpS_region
 simp [wpOpsS,go_sem,Exit.thenS]
 refine wpS_cond (t:=false) (by simp [Act.eval,Array.replicate]) ?_
 simp only [Bool.false_eq_true,if_false]
 refine wpS_of_wp (wp_skip ?_)
 have j:=(ap w.heap.size w).alloc (ae _) (.cells #[aa ab 0] 102)
 cases a
 simp_all [bodyPostS,results,Tryz.results55]
theorem xF (a d g:Nat) (k:Int) (E F G H y z:aC) (w:au) (h:Bk w a [E,F,G,H]) (i:Bk w d [y]) (j:Bk w g [z]) (A:a≠d) (B:a≠g) (C:d≠g) :
  CallsD am 55 #[ar (some ⟨a,0,none⟩),ar (some ⟨d,0,none⟩),ar (some ⟨g,0,none⟩)] (.panicking [{ v:=.iface 102 (aV #[aa ab k]),recovered:=false }]) w fun e D w'=>
   e=aD (aJ #[])/\D=.panicking [{ v:=.iface 102 (aV #[aa ab k]),recovered:=true }] /\
   w'=(((((((w.alloc (.cells #[aa ab k] 102)).setCell ⟨a,0,none⟩ (aa ab 0)).setCell ⟨a,1,none⟩ (aa ab 0)).setCell ⟨a,2,none⟩ (ac ⟨#[]⟩)).setCell ⟨a,3,none⟩ (.slice none 0 0)).setCell ⟨d,0,none⟩ (aa ab k)).setCell ⟨g,0,none⟩ (av false)).drew:=by
 have m:∀(v:aC) w,(Instr.typeAssert (.iface 102 v) 20 102 true).run am w=.ok (aJ #[v,av true]) w:=fun v w=>by kernel_rfl
 refine callsD_of_wpS Tryz.func55 rfl fun p P u=>?_
 apply wpS_seq
 apply wpS_region
 simp [wpOpsS,go_sem,recoverD,u,Tryz.ntmps55,Exit.thenS,m]
 apply wpS_seq
 apply wpS_region
 simp [wpOpsS,go_sem,Exit.thenS]
 refine wpS_cond (t:=true) (by simp [Act.eval,Array.replicate]) ?_
 simp only [if_true]
 have x:=Bk.new w [aa ab k] 102
 have b:=h.al (.cells #[aa ab k] 102)
 have n:=i.al (.cells #[aa ab k] 102)
 have o:=j.al (.cells #[aa ab k] 102)
 have l:Hid (a≠w.heap.size/\d≠w.heap.size/\g≠w.heap.size):=zq ⟨fF h.lt,fF i.lt,fF j.lt⟩
 clear h i j m
 refine wpS_of_wp ?_
 simp only [Array.replicate_succ,Array.replicate_zero,List.push_toArray,List.append_toArray,ai,ag,List.setIfInBounds_toArray,List.set_cons_zero,List.set_cons_succ]
 generalize w.alloc (.cells #[aa ab k] 102)=W at *
 obtain ⟨q,r,s⟩:=l.out
 have Q:=q.symm
 have R:=r.symm
 have S:=s.symm
 have a0:=A.symm
 have a1:=B.symm
 have a2:=C.symm
 clear l
 have M:=n.c 0 _ rfl
 have Y:=n.f 0
 have N:=o.c 0 _ rfl
 have Z:=o.f 0
 have I:=b.c 0 _ rfl
 have J:=b.c 1 _ rfl
 have K:=b.c 2 _ rfl
 have L:=b.c 3 _ rfl
 have T:=b.f 0
 have U:=b.f 1
 have V:=b.f 2
 have X:=b.f 3
 have O:=x.c 0 _ rfl
 go_region
 all_goals
  cases p
  simp [bodyPostS,results,Tryz.results55]
def WOut (c:PC) (a:aC) (w0:au) (r:RR (Tm×Nat)) (e:Ending) (w':au):Prop:=match r with
 | .error k=>e=aD (aJ #[aV #[aa ab 0,aa ab 0,ac ⟨#[]⟩,.slice none 0 0],aa ab (c.E.at k).r.at_,av false])/\aB c.B1 w0 w'
 | .ok (t,m)=>∃A cap nv',e=aD (aJ #[fI t A cap,aa ab 0,av true])/\PsAt c m (bv c.E.T m) nv' w'/\Stp c a w0 nv' w'/\TmsK (c.new nv' w0 w') w' A t.args
theorem WOut.bad {c:PC} {d:aC} {w0 w:au} {R:RR (Tm×Nat)} {k:Nat} {e:Ending} (a:R=.error k) (b:e=aD (aJ #[aV #[aa ab 0,aa ab 0,ac ⟨#[]⟩,.slice none 0 0],aa ab (c.E.at k).r.at_,av false])) (h:aB c.B1 w0 w):WOut c d w0 R e w:=by rw [a];exact ⟨b,h⟩
theorem Wk.left {c:PC} {n:Nat} {v:VS} {k e:aC} {w0 w w':au} {L:List (Nat×List aC)} (h:Wk c n v k w0 e w L) (f:Fall c e w w') (j:Nat) {g:Nat} {vs:List aC} (i:L[j]? = some (g,vs)):Bk w' g vs:=by
 obtain ⟨l,s⟩:=f.2
 have d:=List.mem_of_getElem? i
 have a:=h.b.bk (g,vs) (List.mem_append_left _ d)
 exact a.keeps (s.block _ a.lt (h.off _ d))
theorem rt {B:Nat} {a w:au} (h:aB B a w) {b c d:Nat} (j:B<=b) (k:B<=c) (l:B<=d) (e f g i y z:aC):aB B a ((((((w.setCell ⟨b,0,none⟩ e).setCell ⟨b,1,none⟩ f).setCell ⟨b,2,none⟩ g).setCell ⟨b,3,none⟩ i).setCell ⟨c,0,none⟩ y).setCell ⟨d,0,none⟩ z) :=
 ((ov h b j e f g i).setCell (p:=⟨c,0,none⟩) k y).setCell (p:=⟨d,0,none⟩) l z
theorem yg {c:PC} {G:aC} {w:au} (p:PsAt c 0 (bv c.E.T 0) G w):Calls am 33 #[ar (some ⟨c.P,0,none⟩)] w (WOut c G w (kA c.E)):=by
 obtain ⟨R,HR⟩:=lz (kA c.E)
 rw [<-HR.out]
 have j:Hid (Wk c 0 (bv c.E.T 0) G w G (((w.alloc (.cells #[aa ab 0,aa ab 0,ac ⟨#[]⟩,.slice none 0 0] 30)).alloc (.cells #[aa ab 0] 3)).alloc (.cells #[av false] 4)) [(w.heap.size+1+1,[av false]),(w.heap.size+1,[aa ab 0]),(w.heap.size,[aa ab 0,aa ab 0,ac ⟨#[]⟩,.slice none 0 0])]):=zq ((((Wk.start p).new [aa ab 0,aa ab 0,ac ⟨#[]⟩,.slice none 0 0] 30 rfl).new [aa ab 0] 3 (g:=w.heap.size+1) (by simp)).new [av false] 4 (g:=w.heap.size+1+1) (by simp))
 have HS:=zq (fun nv' W (h:PsAt c 0 (bv c.E.T 0) nv' W)=>Bl c c.E.T.length 1200 0 nv' W (by omega) h)
 have I:Hid (R=match uf c.E c.E.T.length 1200 0 with | .error e=>.error e | .ok (t,_,m)=>if (c.E.at m).r.kind=7 then .ok (t,m) else .error m):=zq HR.out
 have A:=zq (show c.B1<=w.heap.size by have:=p.low;have:=p.ok.p1;omega)
 clear p HR
 go_enter_defers Tryz.func33,Tryz.ntmps33
 go_upto_region 1 with fail
 obtain ⟨w1,b2⟩:=lz (((w.alloc (.cells #[aa ab 0,aa ab 0,ac ⟨#[]⟩,.slice none 0 0] 30)).alloc (.cells #[aa ab 0] 3)).alloc (.cells #[av false] 4))
 rw [<-b2.out] at j |-
 clear b2
 have M:=zq (HS.out G w1 j.out.p)
 clear HS
 rcases hx:uf c.E c.E.T.length 1200 0 with k | ⟨t,pr,m⟩
 ·skip
  rw [hx] at M I
  clear hx
  have L:Hid (R=.error k):=I
  go_wp2_with fail
  refine M.out.mono ?_;rintro e Y ⟨rfl,U⟩
  have a:w.heap.size≠w.heap.size+1:=fF (bK _)
  have D:w.heap.size+1≠w.heap.size+1+1:=fF (bK _)
  have d:w.heap.size≠w.heap.size+1+1:=fF (Nat.lt_succ_of_lt (bK _))
  have C:Bk Y (w.heap.size) [aa ab 0,aa ab 0,ac ⟨#[]⟩,.slice none 0 0]:=j.out.left U 2 rfl
  have N:Bk Y (w.heap.size+1) [aa ab 0]:=j.out.left U 1 rfl
  have O:Bk Y (w.heap.size+1+1) [av false]:=j.out.left U 0 rfl
  show bodyPostD _ _ _ (.panic _) _ _
  refine leaves_cons (f:=55) (args:=#[ar (some ⟨w.heap.size,0,none⟩),ar (some ⟨w.heap.size+1,0,none⟩),ar (some ⟨w.heap.size+1+1,0,none⟩)]) (by simp) (by simp [go_sem]) ?_
  refine (xF _ _ _ (c.E.at k).r.at_ _ _ _ _ _ _ Y C N O a d D).mono ?_
  rintro e u' B ⟨rfl,rfl,y⟩
  have hA:=(j.out.fall U).1.alloc (aQ A.out (by have:=C.lt;omega)) (.cells #[aa ab (c.E.at k).r.at_] 102)
  have l:=(rt hA A.out (fs A.out) (fs (fs A.out)) (aa ab 0) (aa ab 0) (ac ⟨#[]⟩) (.slice none 0 0) (aa ab (c.E.at k).r.at_) (av false)).drew
  rw [<-y] at l
  have j2:=((((C.al (.cells #[aa ab (c.E.at k).r.at_] 102)).set 0 (aa ab 0)).set 1 (aa ab 0)).set 2 (ac ⟨#[]⟩)).set 3 (.slice none 0 0)
  have z:Bk B (w.heap.size) [aa ab 0,aa ab 0,ac ⟨#[]⟩,.slice none 0 0]:=by rw [y];exact ((j2.other a 0 (aa ab (c.E.at k).r.at_)).other d 0 (av false)).dr
  have j3:=(((((N.al (.cells #[aa ab (c.E.at k).r.at_] 102)).other a.symm 0 (aa ab 0)).other a.symm 1 (aa ab 0)).other a.symm 2 (ac ⟨#[]⟩)).other a.symm 3 (.slice none 0 0)).set 0 (aa ab (c.E.at k).r.at_)
  have q3:Bk B (w.heap.size+1) [aa ab (c.E.at k).r.at_]:=by rw [y];exact (j3.other D 0 (av false)).dr
  have j4:=((((((O.al (.cells #[aa ab (c.E.at k).r.at_] 102)).other d.symm 0 (aa ab 0)).other d.symm 1 (aa ab 0)).other d.symm 2 (ac ⟨#[]⟩)).other d.symm 3 (.slice none 0 0)).other D.symm 0 (aa ab (c.E.at k).r.at_)).set 0 (av false)
  have q4:Bk B (w.heap.size+1+1) [av false]:=by rw [y];exact j4.dr
  have a3:=z.c 0 _ rfl
  have a4:=z.c 1 _ rfl
  have a5:=z.c 2 _ rfl
  have a6:=z.c 3 _ rfl
  have a7:=q3.c 0 _ rfl
  have a8:=q4.c 0 _ rfl
  exact ⟨aJ #[aV #[aa ab 0,aa ab 0,ac ⟨#[]⟩,.slice none 0 0],aa ab (c.E.at k).r.at_,av false],by simp [results,Tryz.results33,go_sem,a3,a4,a5,a6,a7,a8],WOut.bad L.out rfl l⟩
 ·skip
  rw [hx] at M I
  clear hx
  have J:Hid (R=if (c.E.at m).r.kind=7 then .ok (t,m) else .error m):=I
  go_wp2_with fail
  refine (M.out).mono ?_;rintro e w1 ⟨c0,i,o,X,rfl,hp,hs,x⟩
  have a9:=zq (Trm.sub (w0:=w) (F:=[w.heap.size+1+1,w.heap.size+1,w.heap.size]) x j.out.s.size (by intro b u;simp only [bh,be,or_false] at u;rcases u with rfl|rfl|rfl;exact j.out.b.lt 0 rfl;exact j.out.b.lt 1 rfl;exact j.out.b.lt 2 rfl))
  clear x c0 I
  have a0:=zq (j.out.step hp hs)
  clear j
  clear hp hs
  clear M
  unfold fI
  have b4:=a0.out.b.all
  simp only [PC.cells,ag,ai,aj,aH,aP,ah,af,and_true] at b4
  go_upto_region 3 with fail
  have l:=a0.out.put4 2 rfl (aa ab t.kind) (aa ab t.num) (ac t.name) (.slice i t.args.length o) (ae _)
  have x:=a9.out.put (g:=w.heap.size) (by simp) (fun b u=>bH _ _ (aa ab t.kind) (aa ab t.num) (ac t.name) (.slice i t.args.length o) b u) (by simp)
  obtain ⟨wu,b3⟩:=lz (((((w1.setCell ⟨w.heap.size,0,none⟩ (aa ab t.kind)).setCell ⟨w.heap.size,1,none⟩ (aa ab t.num)).setCell ⟨w.heap.size,2,none⟩ (ac t.name)).setCell ⟨w.heap.size,3,none⟩ (.slice i t.args.length o)))
  rw [<-b3.out] at l x |-
  have a1:Hid (Wk c m (bv c.E.T m) G w X wu [(w.heap.size+1+1,[av false]),(w.heap.size+1,[aa ab 0]),(w.heap.size,[aa ab t.kind,aa ab t.num,ac t.name,.slice i t.args.length o])]):=zq l
  have b0:=zq x
  clear l x b3 a9 a0 b4
  have hf:∀(q:NextR) W,(Instr.field 76 (aV #[aa ab q.r.kind,ac q.txt,aa ab q.r.n,aa ab q.r.at_,aa ab q.r.end_,av q.lay]) 0).run am W=.ok (aa ab q.r.kind) W:=fun q W=>by kernel_rfl
  have K:=zq (iW a1.out.p 0 (by decide))
  rw [bj] at K
  obtain ⟨q,b6⟩:=lz (c.E.at m)
  rw [<-b6.out] at K J
  unfold kk at K
  have c1:=hf q
  clear hf
  go_wp2_with fail
  refine (K.out).mono ?_;rintro e w4 ⟨rfl,hB⟩
  have v:=zq (a1.out.call hB)
  have b1:=zq (b0.out.call hB)
  clear a1 b0
  clear hB K
  by_cases H:q.r.kind=7
  ·skip
   have b7:(q.r.kind != 7)=false:=by simpa using H
   have L:Hid (R=.ok (t,m)):=zq (by rw [J.out,if_pos H])
   clear H J
   have S:=v.out.b.all
   simp only [PC.cells,ag,ai,aj,aH,aP,ah,af,and_true] at S
   go_wp2_with fail
   obtain ⟨wz,Q⟩:∃wz,wz=((((((w4.setCell ⟨w.heap.size,0,none⟩ (aa ab t.kind)).setCell ⟨w.heap.size,1,none⟩ (aa ab t.num)).setCell ⟨w.heap.size,2,none⟩ (ac t.name)).setCell ⟨w.heap.size,3,none⟩ (.slice i t.args.length o)).setCell ⟨w.heap.size+1,0,none⟩ (aa ab 0)).setCell ⟨w.heap.size+1+1,0,none⟩ (av true)):=⟨_,rfl⟩
   have l:Wk c m (bv c.E.T m) G w X wz [(w.heap.size+1+1,[av true]),(w.heap.size+1,[aa ab 0]),(w.heap.size,[aa ab t.kind,aa ab t.num,ac t.name,.slice i t.args.length o])]:=by
    rw [Q]
    exact (((v.out.put4 2 rfl (aa ab t.kind) (aa ab t.num) (ac t.name) (.slice i t.args.length o) (ae _)).put 1 0 rfl (aa ab 0) (bm _)).put 0 0 rfl (av true) (fs (bm _)))
   have x:Trm c X w wz [w.heap.size+1+1,w.heap.size+1,w.heap.size] i t.args:=by
    rw [Q]
    have t1:=b1.out.put (g:=w.heap.size) (by simp) (fun b u=>bH _ _ (aa ab t.kind) (aa ab t.num) (ac t.name) (.slice i t.args.length o) b u) (by simp)
    have t2:=t1.put (g:=w.heap.size+1) (by simp) (fun b u=>aW _ ⟨w.heap.size+1,0,none⟩ b (aa ab 0) u) (by simp)
    exact t2.put (g:=w.heap.size+1+1) (by simp) (fun b u=>aW _ ⟨w.heap.size+1+1,0,none⟩ b (av true) u) (by simp)
   have HZ:=zq l
   have b9:=zq x
   rw [<-Q]
   clear l x Q v b1 S
   refine leaves_cons (f:=55) (args:=#[ar (some ⟨w.heap.size,0,none⟩),ar (some ⟨w.heap.size+1,0,none⟩),ar (some ⟨w.heap.size+1+1,0,none⟩)]) (by simp) (by simp [go_sem]) ?_
   refine (sE _ _ _ _).mono ?_
   rintro e u' B ⟨rfl,rfl,b5⟩
   have a2:=zq (HZ.out.call b5)
   have b8:=zq (b9.out.call b5)
   have cz:=a2.out.b.all
   simp only [PC.cells,ag,ai,aj,aH,aP,ah,af,and_true] at cz
   refine ⟨aJ #[aV #[aa ab t.kind,aa ab t.num,ac t.name,.slice i t.args.length o],aa ab 0,av true],by simp [results,Tryz.results33,go_sem,cz],?_⟩
   rw [L.out]
   exact ⟨i,o,X,rfl,a2.out.p,a2.out.s,b8.out.out⟩
  ·skip
   have b7:(q.r.kind != 7)=true:=by simpa using H
   have L:Hid (R=.error m):=zq (by rw [J.out,if_neg H])
   clear H J
   have S:=v.out.b.all
   simp only [PC.cells,ag,ai,aj,aH,aP,ah,af,and_true] at S
   go_wp2_with fail
   refine (oW v.out.p).mono ?_;rintro e Z ⟨rfl,V⟩
   have a:w.heap.size≠w.heap.size+1:=fF (bK _)
   have D:w.heap.size+1≠w.heap.size+1+1:=fF (bK _)
   have d:w.heap.size≠w.heap.size+1+1:=fF (Nat.lt_succ_of_lt (bK _))
   have C:Bk Z (w.heap.size) [aa ab t.kind,aa ab t.num,ac t.name,.slice i t.args.length o]:=v.out.left V 2 rfl
   have N:Bk Z (w.heap.size+1) [aa ab 0]:=v.out.left V 1 rfl
   have O:Bk Z (w.heap.size+1+1) [av false]:=v.out.left V 0 rfl
   show bodyPostD _ _ _ (.panic _) _ _
   refine leaves_cons (f:=55) (args:=#[ar (some ⟨w.heap.size,0,none⟩),ar (some ⟨w.heap.size+1,0,none⟩),ar (some ⟨w.heap.size+1+1,0,none⟩)]) (by simp) (by simp [go_sem]) ?_
   refine (xF _ _ _ (c.E.at m).r.at_ _ _ _ _ _ _ Z C N O a d D).mono ?_
   rintro e u' B ⟨rfl,rfl,y⟩
   have hA:=(v.out.fall V).1.alloc (aQ A.out (by have:=C.lt;omega)) (.cells #[aa ab (c.E.at m).r.at_] 102)
   have l:=(rt hA A.out (fs A.out) (fs (fs A.out)) (aa ab 0) (aa ab 0) (ac ⟨#[]⟩) (.slice none 0 0) (aa ab (c.E.at m).r.at_) (av false)).drew
   rw [<-y] at l
   have j2:=((((C.al (.cells #[aa ab (c.E.at m).r.at_] 102)).set 0 (aa ab 0)).set 1 (aa ab 0)).set 2 (ac ⟨#[]⟩)).set 3 (.slice none 0 0)
   have z:Bk B (w.heap.size) [aa ab 0,aa ab 0,ac ⟨#[]⟩,.slice none 0 0]:=by rw [y];exact ((j2.other a 0 (aa ab (c.E.at m).r.at_)).other d 0 (av false)).dr
   have j3:=(((((N.al (.cells #[aa ab (c.E.at m).r.at_] 102)).other a.symm 0 (aa ab 0)).other a.symm 1 (aa ab 0)).other a.symm 2 (ac ⟨#[]⟩)).other a.symm 3 (.slice none 0 0)).set 0 (aa ab (c.E.at m).r.at_)
   have q3:Bk B (w.heap.size+1) [aa ab (c.E.at m).r.at_]:=by rw [y];exact (j3.other D 0 (av false)).dr
   have j4:=((((((O.al (.cells #[aa ab (c.E.at m).r.at_] 102)).other d.symm 0 (aa ab 0)).other d.symm 1 (aa ab 0)).other d.symm 2 (ac ⟨#[]⟩)).other d.symm 3 (.slice none 0 0)).other D.symm 0 (aa ab (c.E.at m).r.at_)).set 0 (av false)
   have q4:Bk B (w.heap.size+1+1) [av false]:=by rw [y];exact j4.dr
   have a3:=z.c 0 _ rfl
   have a4:=z.c 1 _ rfl
   have a5:=z.c 2 _ rfl
   have a6:=z.c 3 _ rfl
   have a7:=q3.c 0 _ rfl
   have a8:=q4.c 0 _ rfl
   exact ⟨aJ #[aV #[aa ab 0,aa ab 0,ac ⟨#[]⟩,.slice none 0 0],aa ab (c.E.at m).r.at_,av false],by simp [results,Tryz.results33,go_sem,a3,a4,a5,a6,a7,a8],WOut.bad L.out rfl l⟩
end Go.Proofs.YtbojljpldcijgaaGreat
