/- Parts of the proof. -/
import Derived.Test.YtlikcjbjibhjgaaGreatDoorR01
import Derived.Test.YtlikcjbjibhjgaaGreatDoorR25
import Derived.Laws.OwnMore
import Derived.Defers
import Derived.Recover
import Derived.Test.YtlikcjbjibhjgaaGreatDoorR16
set_option maxHeartbeats 12800000
set_option maxRecDepth 100000
set_option linter.unusedSimpArgs false
open Go renaming Calls -> aJ, Value -> az, World -> ai, bodyPost_ret -> ay, heap_setCell_other -> aS
open Go.Ending renaming returned -> aw
open Go.IntKind renaming i64 -> ae
open Go.Proofs.Tryz renaming func89 -> iz, ntmps89 -> gW, prog -> ah, results89 -> iu
open Go.RowKit renaming Below -> ax
open Go.RowKit.Below renaming refl -> aj
open Go.Value renaming agg -> aN, bool -> am, int -> ab, ownBlock -> ew, pointer -> au, slice -> ev, string -> aa, tuple -> aK
open List renaming append_nil -> aA, cons_append -> ak, mem_cons -> bg, mem_cons_of_mem -> aW, mem_nil_iff -> bQ, mem_singleton -> aG, nil_append -> an
open Nat renaming add_zero -> bv, le_refl -> ag, le_succ -> cQ, le_succ_of_le -> fM, le_trans -> aI, lt_of_lt_of_le -> aC, lt_succ_self -> bY, ne_of_lt -> gZ, reduceAdd -> ar, zero_add -> ap
namespace Go.Proofs.YtlikcjbjibhjgaaGreatDoor
open Go.RowKit Hb
theorem Kw (E:RE) (S:PT) (most:Int) (n:Nat) (t:NextR) (a:t=E.at n):kS E S most n =
 if t.r.kind=4/\0<=t.r.n then .ok (Fc t.r.n,0,n+1)
 else if t.r.kind=3 then .ok (NH ((cM E.T n).num t.r.text),0,n+1)
 else if t.r.kind=5 then .ok (Lt E.q t.r.text,0,n+1)
 else if ot t=true then (match ny E S t.r.text (n+1) with
  | .error e=>.error e
  | .ok (u,m)=>.ok (u,0,m))
 else if ge t=true then tO E S t most (n+1)
 else .error n:=by subst a;rfl
theorem Gb {c:PC} {n:Nat} (a:n<c.E.T.length):c.E.at n∈c.E.T:=by rw [c.E.at_get a];exact List.getElem_mem _
theorem Bf {c:PC} {S:PT} {k n:Nat} {V:az} {w:ai} (hS:uK c S k) (hk:k<=n+1) (p:PsAt c n (cM c.E.T n) V w) (most:Int) :
  aJ ah 89 #[au (some ⟨c.P,0,none⟩),ab ae most] w (TOut c n V w (kS c.E S most n)):=by
 obtain ⟨R,HR⟩:=lz (kS c.E S most n)
 rw [<-HR.out]
 obtain ⟨t,HT⟩:=lz (c.E.at n)
 have HE:=zq (HR.out.trans (Kw c.E S most n t HT.out))
 have c4:=zq (p.ok.txt _ (Gb p.n1))
 have c3:=zq (p.ok.nms _ (Gb p.n1))
 have N:=zq ((Wk.start p).new [ab ae 0,ab ae 0,aa ⟨#[]⟩,.slice none 0 0] 25 rfl)
 have H:=zq (kc N.out.p 0 (by decide))
 rw [bv] at H
 have a0:=zq p.more
 have d7:=zq p.vn
 have c2:=zq p.n1
 have HI:=zq (nF (n:=n) (by have:=p.n1;have:=p.ok.len;omega))
 have d4:=zq (fun h:qB (c.E.at n)=true=>Ju p.n1 h)
 rw [<-HT.out] at c4 c3 H a0 d4
 have c0:Hid (qB t=false->∀e1 W,PsAt c (n+1) (cM c.E.T n) e1 W->PsAt c (n+1) (cM c.E.T (n+1)) e1 W):=zq fun h e1 W Y=>PsAt.skip (by rw [<-HT.out];exact h) c2.out Y
 have b9:=zq hS
 have b8:=zq hk
 clear p HR hS hk
 by_cases h4:t.r.kind=4
 ·have b4:(t.r.kind==4)=true:=by simpa using h4
  by_cases h0:0<=t.r.n
  ·have d0:decide (0<=t.r.n)=true:=decide_eq_true h0
   have l:=zq (HE.out.trans (if_pos ⟨h4,h0⟩))
   have a4:=zq (a0.out (by rw [h4];decide))
   have a3:=zq (qA h4 (by decide))
   clear h4 h0 HE c4 c3 a0 d7 d4 b9 b8 HT c2
   go_enter iz,gW
   go_wp2_with fail
   refine H.out.mono ?_;rintro e z ⟨rfl,y⟩
   have a:=zq ((N.out.call y).new [ab ae t.r.kind,aa t.txt,ab ae t.r.n,ab ae t.r.at_,ab ae t.r.end_,am t.lay] 83 rfl)
   clear y N H
   obtain ⟨g1,j⟩:=lz (z.heap.size)
   obtain ⟨wb,o⟩:=lz (z.alloc (.cells #[ab ae t.r.kind,aa t.txt,ab ae t.r.n,ab ae t.r.at_,ab ae t.r.end_,am t.lay] 83))
   unfold qY
   go_upto_region 2 with fail
   rw [<-o.out] at a |-
   rw [<-j.out] at a |-
   clear o j
   have x:=a.out.b.all
   simp only [PC.cells,ak,an,aA,aU,bd,ap,ar,and_true] at x
   clear x
   have c6:=a.out.b.all
   simp only [PC.cells,ak,an,aA,aU,bd,ap,ar,and_true] at c6
   have hi:=HI.out
   go_upto_region 4 with fail
   have i:=a.out.inc a4.out
   obtain ⟨wn,J⟩:=lz (wb.setCell ⟨c.P,1,none⟩ (ab ae ((n:Int)+1)))
   rw [<-J.out] at i |-
   have f:=zq (i.step (c0.out a3.out V _ i.p) (Stp.refl c V wn))
   clear i J a c6 hi
   have c7:=f.out.b.all
   simp only [PC.cells,ak,an,aA,aU,bd,ap,ar,and_true] at c7
   go_wp2_with fail
   refine (Gq t.r.n _).mono ?_;rintro e w5 ⟨rfl,d⟩
   have d3:=zq (f.out.call d)
   clear f c7
   clear d 
   have c8:=d3.out.b.all
   simp only [PC.cells,ak,an,aA,aU,bd,ap,ar,and_true] at c8
   go_wp2_with fail
   have L:=d3.out.put4 1 rfl (ab ae 1) (ab ae t.r.n) (aa ⟨#[]⟩) (.slice none 0 0) (ag _)
   refine ay (v:=aK #[aN #[ab ae 1,ab ae t.r.n,aa ⟨#[]⟩,.slice none 0 0],ab ae 0]) (by simp [results,iu,go_sem,c8]) rfl ?_
   rw [l.out]
   exact ⟨bY _,none,0,V,rfl,L.p,L.s,TmsK.nil⟩
  ·have d0:decide (0<=t.r.n)=false:=decide_eq_false h0
   have b3:(t.r.kind==3)=false:=by simp;omega
   have b5:(t.r.kind==5)=false:=by simp;omega
   have b6:(t.r.kind==6)=false:=by simp;omega
   have b1:(t.r.kind==1)=false:=by simp;omega
   have b2:(t.r.kind==2)=false:=by simp;omega
   have C:∀s,isP t s=false:=fun s=>by unfold isP;rw [b6];rfl
   have hN:ge t=false:=by unfold ge;rw [b1,b2];rfl
   have l:Hid (R=.error n):=zq (by rw [HE.out,if_neg (fun h=>h0 h.2),if_neg (by omega),if_neg (by omega),if_neg (by unfold ot;rw [C,C,C];simp),if_neg (by rw [hN];simp)])
   have a1:=zq fun W=>jm t ⟨#[40]⟩ W
   have a2:=zq fun W=>jm t ⟨#[91]⟩ W
   have a7:=zq fun W=>jm t ⟨#[123]⟩ W
   have a5:=zq fun W=>sK t W
   rw [show isP t (⟨#[40]⟩:ByteArray).data.toList=false from C _] at a1
   rw [show isP t (⟨#[91]⟩:ByteArray).data.toList=false from C _] at a2
   rw [show isP t (⟨#[123]⟩:ByteArray).data.toList=false from C _] at a7
   rw [hN] at a5
   clear h4 h0 HE c4 c3 a0 d7 d4 b9 b8 HT c2 c0 C hN b6 b1 b2 HI
   go_enter iz,gW
   go_wp2_with fail
   refine H.out.mono ?_;rintro e z ⟨rfl,y⟩
   have a:=zq ((N.out.call y).new [ab ae t.r.kind,aa t.txt,ab ae t.r.n,ab ae t.r.at_,ab ae t.r.end_,am t.lay] 83 rfl)
   clear y N H
   obtain ⟨g1,j⟩:=lz (z.heap.size)
   obtain ⟨wb,o⟩:=lz (z.alloc (.cells #[ab ae t.r.kind,aa t.txt,ab ae t.r.n,ab ae t.r.at_,ab ae t.r.end_,am t.lay] 83))
   unfold qY
   go_upto_region 2 with fail
   rw [<-o.out] at a |-
   rw [<-j.out] at a |-
   clear o j
   have x:=a.out.b.all
   simp only [PC.cells,ak,an,aA,aU,bd,ap,ar,and_true] at x
   go_wp2_with fail
   refine (a1.out _).mono ?_;rintro e w3 ⟨rfl,d⟩
   have A:=zq (a.out.call d)
   clear a x
   clear d 
   have K:=A.out.b.all
   simp only [PC.cells,ak,an,aA,aU,bd,ap,ar,and_true] at K
   go_wp2_with fail
   refine (a2.out _).mono ?_;rintro e w6 ⟨rfl,d⟩
   have I:=zq (A.out.call d)
   clear A K
   clear d 
   have Z:=I.out.b.all
   simp only [PC.cells,ak,an,aA,aU,bd,ap,ar,and_true] at Z
   go_wp2_with fail
   refine (a7.out _).mono ?_;rintro e w9 ⟨rfl,d⟩
   have X:=zq (I.out.call d)
   clear I Z
   clear d 
   have a8:=X.out.b.all
   simp only [PC.cells,ak,an,aA,aU,bd,ap,ar,and_true] at a8
   go_wp2_with fail
   refine (a5.out _).mono ?_;rintro e e2 ⟨rfl,d⟩
   have a6:=zq (X.out.call d)
   clear X a8
   clear d 
   have d2:=a6.out.b.all
   simp only [PC.cells,ak,an,aA,aU,bd,ap,ar,and_true] at d2
   go_wp2_with fail
   refine (sL a6.out.p).mono ?_;rintro e w9 ⟨rfl,a9⟩
   exact ⟨rfl,TOut.bad l.out ⟨rfl,a6.out.fall a9⟩⟩
 have b4:(t.r.kind==4)=false:=by simpa using h4
 replace HE:=zq (HE.out.trans (if_neg (fun h=>h4 h.1)))
 by_cases h3:t.r.kind=3
 ·have b3:(t.r.kind==3)=true:=by simpa using h3
  have l:=zq (HE.out.trans (if_pos h3))
  have a4:=zq (a0.out (by rw [h3];decide))
  have a3:Hid (qB t=true):=zq (by unfold qB;rw [b3])
  clear h4 h3 HE c3 a0 b9 b8 c2 c0
  go_enter iz,gW
  go_wp2_with fail
  refine H.out.mono ?_;rintro e z ⟨rfl,y⟩
  have a:=zq ((N.out.call y).new [ab ae t.r.kind,aa t.txt,ab ae t.r.n,ab ae t.r.at_,ab ae t.r.end_,am t.lay] 83 rfl)
  clear y N H
  obtain ⟨g1,j⟩:=lz (z.heap.size)
  obtain ⟨wb,o⟩:=lz (z.alloc (.cells #[ab ae t.r.kind,aa t.txt,ab ae t.r.n,ab ae t.r.at_,ab ae t.r.end_,am t.lay] 83))
  unfold qY
  go_upto_region 2 with fail
  rw [<-o.out] at a |-
  rw [<-j.out] at a |-
  clear o j
  have x:=a.out.b.all
  simp only [PC.cells,ak,an,aA,aU,bd,ap,ar,and_true] at x
  clear x
  have c6:=a.out.b.all
  simp only [PC.cells,ak,an,aA,aU,bd,ap,ar,and_true] at c6
  have hi:=HI.out
  go_upto_region 7 with fail
  have i:=a.out.inc a4.out
  obtain ⟨wn,J⟩:=lz (wb.setCell ⟨c.P,1,none⟩ (ab ae ((n:Int)+1)))
  rw [<-J.out] at i |-
  have f:=zq (i)
  clear i J a c6 hi
  have c7:=f.out.b.all
  simp only [PC.cells,ak,an,aA,aU,bd,ap,ar,and_true] at c7
  have G:=ze f.out.p t.txt (by show t.r.text.toArray.size<=20000;simpa using c4.out.1) (Nat.lt_succ_of_le d7.out)
  rw [show t.txt.data.toList=t.r.text from rfl] at G
  have B:=zq G
  clear G
  go_wp2_with fail
  refine (B.out).mono ?_;rintro e w5 ⟨rfl,c1,Y,hs⟩
  have d3:=zq (f.out.step Y hs)
  clear f c7
  clear Y hs
  have c8:=d3.out.b.all
  simp only [PC.cells,ak,an,aA,aU,bd,ap,ar,and_true] at c8
  go_wp2_with fail
  have L:=d3.out.put4 1 rfl (ab ae 0) (ab ae ((cM c.E.T n).num t.r.text:Nat)) (aa ⟨#[]⟩) (.slice none 0 0) (ag _)
  refine ay (v:=aK #[aN #[ab ae 0,ab ae ((cM c.E.T n).num t.r.text:Nat),aa ⟨#[]⟩,.slice none 0 0],ab ae 0]) (by simp [results,iu,go_sem,c8]) rfl ?_
  rw [l.out]
  exact ⟨bY _,none,0,c1,rfl,by rw [d4.out a3.out];exact L.p,L.s,TmsK.nil⟩
 have b3:(t.r.kind==3)=false:=by simpa using h3
 replace HE:=zq (HE.out.trans (if_neg h3))
 clear d4 d7
 by_cases h5:t.r.kind=5
 ·have b5:(t.r.kind==5)=true:=by simpa using h5
  have l:=zq (HE.out.trans (if_pos h5))
  have a4:=zq (a0.out (by rw [h5];decide))
  have a3:=zq (qA h5 (by decide))
  clear h4 h3 h5 HE c3 a0 b9 b8 HT c2
  go_enter iz,gW
  go_wp2_with fail
  refine H.out.mono ?_;rintro e z ⟨rfl,y⟩
  have a:=zq ((N.out.call y).new [ab ae t.r.kind,aa t.txt,ab ae t.r.n,ab ae t.r.at_,ab ae t.r.end_,am t.lay] 83 rfl)
  clear y N H
  obtain ⟨g1,j⟩:=lz (z.heap.size)
  obtain ⟨wb,o⟩:=lz (z.alloc (.cells #[ab ae t.r.kind,aa t.txt,ab ae t.r.n,ab ae t.r.at_,ab ae t.r.end_,am t.lay] 83))
  unfold qY
  go_upto_region 2 with fail
  rw [<-o.out] at a |-
  rw [<-j.out] at a |-
  clear o j
  have x:=a.out.b.all
  simp only [PC.cells,ak,an,aA,aU,bd,ap,ar,and_true] at x
  clear x
  have c6:=a.out.b.all
  simp only [PC.cells,ak,an,aA,aU,bd,ap,ar,and_true] at c6
  have hi:=HI.out
  go_upto_region 10 with fail
  have i:=a.out.inc a4.out
  obtain ⟨wn,J⟩:=lz (wb.setCell ⟨c.P,1,none⟩ (ab ae ((n:Int)+1)))
  rw [<-J.out] at i |-
  have f:=zq (i.step (c0.out a3.out V _ i.p) (Stp.refl c V wn))
  clear i J a c6 hi
  have c7:=f.out.b.all
  simp only [PC.cells,ak,an,aA,aU,bd,ap,ar,and_true] at c7
  go_wp2_with fail
  obtain ⟨RT,e0⟩:=lz (Lt c.E.q t.r.text)
  have G:=xw f.out.p t.txt (by show t.r.text.toArray.size<=20000;simpa using c4.out.1)
  rw [show t.txt.data.toList=t.r.text from rfl,<-e0.out] at G
  rw [<-e0.out] at l
  refine G.mono ?_;rintro e w5 ⟨A5,c5,rfl,f4,f5⟩
  have e6:=zq (f.out.call f4)
  have f8:Hid (Trm c V w w5 [w.heap.size] A5 RT.args):=zq (f5.keep (fun _ _=>rfl) fun b D=>⟨⟨by have:=f.out.s.size;omega,D.2,fun hm=>by have:=f.out.p.lts hm;omega⟩,fun e=>by rw [aG] at e;have:=f.out.b.lt 1 rfl;omega⟩)
  clear G f4 f5 f c7 e0
  unfold er
  have K:=e6.out.b.all
  simp only [PC.cells,ak,an,aA,aU,bd,ap,ar,and_true] at K
  go_wp2_with fail
  have L:=e6.out.put4 1 rfl (ab ae RT.kind) (ab ae RT.num) (aa RT.name) (.slice A5 RT.args.length c5) (ag _)
  refine ay (v:=aK #[aN #[ab ae RT.kind,ab ae RT.num,aa RT.name,.slice A5 RT.args.length c5],ab ae 0]) (by simp [results,iu,go_sem,K]) rfl ?_
  rw [l.out]
  exact ⟨bY _,A5,c5,V,rfl,L.p,L.s,(f8.out.put (g:=w.heap.size) (by simp) (fun b D=>bR _ _ (ab ae RT.kind) (ab ae RT.num) (aa RT.name) (.slice A5 RT.args.length c5) b D) (by simp)).out⟩
 have b5:(t.r.kind==5)=false:=by simpa using h5
 replace HE:=zq (HE.out.trans (if_neg h5))
 have a1:=zq fun W=>jm t ⟨#[40]⟩ W
 have a2:=zq fun W=>jm t ⟨#[91]⟩ W
 have a7:=zq fun W=>jm t ⟨#[123]⟩ W
 have a5:=zq fun W=>sK t W
 by_cases b0:ot t=true
 ·have U:Hid (R=match ny c.E S t.r.text (n+1) with | .error e=>.error e | .ok (u,m)=>.ok (u,0,m)):=zq (by rw [HE.out,if_pos b0])
  have d9:t.r.kind=6:=by unfold ot isP at b0;simp at b0;omega
  have a4:=zq (a0.out (by rw [d9];decide))
  have a3:=zq (qA d9 (by decide))
  have b6:(t.r.kind==6)=true:=by simpa using d9
  have C:∀s,isP t s=(t.r.text==s):=fun s=>by unfold isP;rw [b6];rfl
  have Q:t.r.text=[40]\/t.r.text=[91]\/t.r.text=[123]:=by unfold ot at b0;rw [C,C,C] at b0;simpa using b0
  clear h4 h3 h5 HE c3 a0 HT c2 c4 d9 b0 b6
  rcases Q with Q | Q | Q
  ·skip
   rw [show isP t (⟨#[40]⟩:ByteArray).data.toList=true from (C _).trans (by rw [Q];rfl)] at a1
   rw [show isP t (⟨#[91]⟩:ByteArray).data.toList=false from (C _).trans (by rw [Q];rfl)] at a2
   rw [show isP t (⟨#[123]⟩:ByteArray).data.toList=false from (C _).trans (by rw [Q];rfl)] at a7
   clear C a5
   go_enter iz,gW
   go_wp2_with fail
   refine H.out.mono ?_;rintro e z ⟨rfl,y⟩
   have a:=zq ((N.out.call y).new [ab ae t.r.kind,aa t.txt,ab ae t.r.n,ab ae t.r.at_,ab ae t.r.end_,am t.lay] 83 rfl)
   clear y N H
   obtain ⟨g1,j⟩:=lz (z.heap.size)
   obtain ⟨wb,o⟩:=lz (z.alloc (.cells #[ab ae t.r.kind,aa t.txt,ab ae t.r.n,ab ae t.r.at_,ab ae t.r.end_,am t.lay] 83))
   unfold qY
   go_upto_region 2 with fail
   rw [<-o.out] at a |-
   rw [<-j.out] at a |-
   clear o j
   have x:=a.out.b.all
   simp only [PC.cells,ak,an,aA,aU,bd,ap,ar,and_true] at x
   go_wp2_with fail
   refine (a1.out _).mono ?_;rintro e w3 ⟨rfl,d⟩
   have A:=zq (a.out.call d)
   clear a x
   clear d 
   have K:=A.out.b.all
   simp only [PC.cells,ak,an,aA,aU,bd,ap,ar,and_true] at K
   clear K
   have f2:=A.out.b.all
   simp only [PC.cells,ak,an,aA,aU,bd,ap,ar,and_true] at f2
   have hi:=HI.out
   go_upto_region 15 with fail
   have i:=A.out.inc a4.out
   obtain ⟨wn,J⟩:=lz (w3.setCell ⟨c.P,1,none⟩ (ab ae ((n:Int)+1)))
   rw [<-J.out] at i |-
   have f:=zq (i.step (c0.out a3.out V _ i.p) (Stp.refl c V wn))
   clear i J A f2 hi
   have c8:=f.out.b.all
   simp only [PC.cells,ak,an,aA,aU,bd,ap,ar,and_true] at c8
   have G:=nW b9.out b8.out f.out.p t.txt (.inl Q)
   rw [show t.txt.data.toList=t.r.text from rfl] at G
   have B:=zq G
   clear G Q
   rcases hx:ny c.E S t.r.text (n+1) with e | ⟨u,m⟩
   ·skip
    rw [hx] at B U
    clear hx
    have l:Hid (R=.error e):=U
    go_wp2_with fail
    refine B.out.mono ?_;rintro e w9 ⟨rfl,a9⟩
    exact ⟨rfl,TOut.bad l.out ⟨rfl,f.out.fall a9⟩⟩
   ·skip
    rw [hx] at B U
    clear hx
    have l:Hid (R=.ok (u,0,m)):=U
    go_wp2_with fail
    refine (B.out).mono ?_;rintro e w8 ⟨b7,M,O,c1,rfl,Y,hs,ht⟩
    have d1:=zq (Trm.sub (w0:=w) (F:=[w.heap.size]) ht f.out.s.size (by intro b D;rw [aG] at D;subst D;exact f.out.b.lt 1 rfl))
    have c9:=zq b7
    clear ht b7
    have e7:=zq (f.out.step Y hs)
    clear f c8
    clear Y hs
    unfold er
    have d5:=e7.out.b.all
    simp only [PC.cells,ak,an,aA,aU,bd,ap,ar,and_true] at d5
    go_wp2_with fail
    have L:=e7.out.put4 1 rfl (ab ae u.kind) (ab ae u.num) (aa u.name) (.slice M u.args.length O) (ag _)
    refine ay (v:=aK #[aN #[ab ae u.kind,ab ae u.num,aa u.name,.slice M u.args.length O],ab ae 0]) (by simp [results,iu,go_sem,d5]) rfl ?_
    rw [l.out]
    exact ⟨by have:=c9.out;omega,M,O,c1,rfl,L.p,L.s,(d1.out.put (g:=w.heap.size) (by simp) (fun b D=>bR _ _ (ab ae u.kind) (ab ae u.num) (aa u.name) (.slice M u.args.length O) b D) (by simp)).out⟩
  ·skip
   rw [show isP t (⟨#[40]⟩:ByteArray).data.toList=false from (C _).trans (by rw [Q];rfl)] at a1
   rw [show isP t (⟨#[91]⟩:ByteArray).data.toList=true from (C _).trans (by rw [Q];rfl)] at a2
   rw [show isP t (⟨#[123]⟩:ByteArray).data.toList=false from (C _).trans (by rw [Q];rfl)] at a7
   clear C a5
   go_enter iz,gW
   go_wp2_with fail
   refine H.out.mono ?_;rintro e z ⟨rfl,y⟩
   have a:=zq ((N.out.call y).new [ab ae t.r.kind,aa t.txt,ab ae t.r.n,ab ae t.r.at_,ab ae t.r.end_,am t.lay] 83 rfl)
   clear y N H
   obtain ⟨g1,j⟩:=lz (z.heap.size)
   obtain ⟨wb,o⟩:=lz (z.alloc (.cells #[ab ae t.r.kind,aa t.txt,ab ae t.r.n,ab ae t.r.at_,ab ae t.r.end_,am t.lay] 83))
   unfold qY
   go_upto_region 2 with fail
   rw [<-o.out] at a |-
   rw [<-j.out] at a |-
   clear o j
   have x:=a.out.b.all
   simp only [PC.cells,ak,an,aA,aU,bd,ap,ar,and_true] at x
   go_wp2_with fail
   refine (a1.out _).mono ?_;rintro e w3 ⟨rfl,d⟩
   have A:=zq (a.out.call d)
   clear a x
   clear d 
   have K:=A.out.b.all
   simp only [PC.cells,ak,an,aA,aU,bd,ap,ar,and_true] at K
   go_wp2_with fail
   refine (a2.out _).mono ?_;rintro e w6 ⟨rfl,d⟩
   have I:=zq (A.out.call d)
   clear A K
   clear d 
   have Z:=I.out.b.all
   simp only [PC.cells,ak,an,aA,aU,bd,ap,ar,and_true] at Z
   clear Z
   have f3:=I.out.b.all
   simp only [PC.cells,ak,an,aA,aU,bd,ap,ar,and_true] at f3
   have hi:=HI.out
   go_upto_region 15 with fail
   have i:=I.out.inc a4.out
   obtain ⟨wn,J⟩:=lz (w6.setCell ⟨c.P,1,none⟩ (ab ae ((n:Int)+1)))
   rw [<-J.out] at i |-
   have f:=zq (i.step (c0.out a3.out V _ i.p) (Stp.refl c V wn))
   clear i J I f3 hi
   have d5:=f.out.b.all
   simp only [PC.cells,ak,an,aA,aU,bd,ap,ar,and_true] at d5
   have G:=nW b9.out b8.out f.out.p t.txt (.inr (.inl Q))
   rw [show t.txt.data.toList=t.r.text from rfl] at G
   have B:=zq G
   clear G Q
   rcases hx:ny c.E S t.r.text (n+1) with e | ⟨u,m⟩
   ·skip
    rw [hx] at B U
    clear hx
    have l:Hid (R=.error e):=U
    go_wp2_with fail
    refine B.out.mono ?_;rintro e w9 ⟨rfl,a9⟩
    exact ⟨rfl,TOut.bad l.out ⟨rfl,f.out.fall a9⟩⟩
   ·skip
    rw [hx] at B U
    clear hx
    have l:Hid (R=.ok (u,0,m)):=U
    go_wp2_with fail
    refine (B.out).mono ?_;rintro e f9 ⟨b7,M,O,c1,rfl,Y,hs,ht⟩
    have d1:=zq (Trm.sub (w0:=w) (F:=[w.heap.size]) ht f.out.s.size (by intro b D;rw [aG] at D;subst D;exact f.out.b.lt 1 rfl))
    have c9:=zq b7
    clear ht b7
    have e3:=zq (f.out.step Y hs)
    clear f d5
    clear Y hs
    unfold er
    have d6:=e3.out.b.all
    simp only [PC.cells,ak,an,aA,aU,bd,ap,ar,and_true] at d6
    go_wp2_with fail
    have L:=e3.out.put4 1 rfl (ab ae u.kind) (ab ae u.num) (aa u.name) (.slice M u.args.length O) (ag _)
    refine ay (v:=aK #[aN #[ab ae u.kind,ab ae u.num,aa u.name,.slice M u.args.length O],ab ae 0]) (by simp [results,iu,go_sem,d6]) rfl ?_
    rw [l.out]
    exact ⟨by have:=c9.out;omega,M,O,c1,rfl,L.p,L.s,(d1.out.put (g:=w.heap.size) (by simp) (fun b D=>bR _ _ (ab ae u.kind) (ab ae u.num) (aa u.name) (.slice M u.args.length O) b D) (by simp)).out⟩
  ·skip
   rw [show isP t (⟨#[40]⟩:ByteArray).data.toList=false from (C _).trans (by rw [Q];rfl)] at a1
   rw [show isP t (⟨#[91]⟩:ByteArray).data.toList=false from (C _).trans (by rw [Q];rfl)] at a2
   rw [show isP t (⟨#[123]⟩:ByteArray).data.toList=true from (C _).trans (by rw [Q];rfl)] at a7
   clear C a5
   go_enter iz,gW
   go_wp2_with fail
   refine H.out.mono ?_;rintro e z ⟨rfl,y⟩
   have a:=zq ((N.out.call y).new [ab ae t.r.kind,aa t.txt,ab ae t.r.n,ab ae t.r.at_,ab ae t.r.end_,am t.lay] 83 rfl)
   clear y N H
   obtain ⟨g1,j⟩:=lz (z.heap.size)
   obtain ⟨wb,o⟩:=lz (z.alloc (.cells #[ab ae t.r.kind,aa t.txt,ab ae t.r.n,ab ae t.r.at_,ab ae t.r.end_,am t.lay] 83))
   unfold qY
   go_upto_region 2 with fail
   rw [<-o.out] at a |-
   rw [<-j.out] at a |-
   clear o j
   have x:=a.out.b.all
   simp only [PC.cells,ak,an,aA,aU,bd,ap,ar,and_true] at x
   go_wp2_with fail
   refine (a1.out _).mono ?_;rintro e w3 ⟨rfl,d⟩
   have A:=zq (a.out.call d)
   clear a x
   clear d 
   have K:=A.out.b.all
   simp only [PC.cells,ak,an,aA,aU,bd,ap,ar,and_true] at K
   go_wp2_with fail
   refine (a2.out _).mono ?_;rintro e w6 ⟨rfl,d⟩
   have I:=zq (A.out.call d)
   clear A K
   clear d 
   have Z:=I.out.b.all
   simp only [PC.cells,ak,an,aA,aU,bd,ap,ar,and_true] at Z
   go_wp2_with fail
   refine (a7.out _).mono ?_;rintro e w9 ⟨rfl,d⟩
   have X:=zq (I.out.call d)
   clear I Z
   clear d 
   have a8:=X.out.b.all
   simp only [PC.cells,ak,an,aA,aU,bd,ap,ar,and_true] at a8
   clear a8
   have e8:=X.out.b.all
   simp only [PC.cells,ak,an,aA,aU,bd,ap,ar,and_true] at e8
   have hi:=HI.out
   go_upto_region 15 with fail
   have i:=X.out.inc a4.out
   obtain ⟨wn,J⟩:=lz (w9.setCell ⟨c.P,1,none⟩ (ab ae ((n:Int)+1)))
   rw [<-J.out] at i |-
   have f:=zq (i.step (c0.out a3.out V _ i.p) (Stp.refl c V wn))
   clear i J X e8 hi
   have d6:=f.out.b.all
   simp only [PC.cells,ak,an,aA,aU,bd,ap,ar,and_true] at d6
   have G:=nW b9.out b8.out f.out.p t.txt (.inr (.inr Q))
   rw [show t.txt.data.toList=t.r.text from rfl] at G
   have B:=zq G
   clear G Q
   rcases hx:ny c.E S t.r.text (n+1) with e | ⟨u,m⟩
   ·skip
    rw [hx] at B U
    clear hx
    have l:Hid (R=.error e):=U
    go_wp2_with fail
    refine B.out.mono ?_;rintro e w9 ⟨rfl,a9⟩
    exact ⟨rfl,TOut.bad l.out ⟨rfl,f.out.fall a9⟩⟩
   ·skip
    rw [hx] at B U
    clear hx
    have l:Hid (R=.ok (u,0,m)):=U
    go_wp2_with fail
    refine (B.out).mono ?_;rintro e g0 ⟨b7,M,O,c1,rfl,Y,hs,ht⟩
    have d1:=zq (Trm.sub (w0:=w) (F:=[w.heap.size]) ht f.out.s.size (by intro b D;rw [aG] at D;subst D;exact f.out.b.lt 1 rfl))
    have c9:=zq b7
    clear ht b7
    have e4:=zq (f.out.step Y hs)
    clear f d6
    clear Y hs
    unfold er
    have f0:=e4.out.b.all
    simp only [PC.cells,ak,an,aA,aU,bd,ap,ar,and_true] at f0
    go_wp2_with fail
    have L:=e4.out.put4 1 rfl (ab ae u.kind) (ab ae u.num) (aa u.name) (.slice M u.args.length O) (ag _)
    refine ay (v:=aK #[aN #[ab ae u.kind,ab ae u.num,aa u.name,.slice M u.args.length O],ab ae 0]) (by simp [results,iu,go_sem,f0]) rfl ?_
    rw [l.out]
    exact ⟨by have:=c9.out;omega,M,O,c1,rfl,L.p,L.s,(d1.out.put (g:=w.heap.size) (by simp) (fun b D=>bR _ _ (ab ae u.kind) (ab ae u.num) (aa u.name) (.slice M u.args.length O) b D) (by simp)).out⟩
 replace HE:=zq (HE.out.trans (if_neg b0))
 have d8:isP t [40]=false/\isP t [91]=false/\isP t [123]=false:=by unfold ot at b0;simpa using b0
 rw [show isP t (⟨#[40]⟩:ByteArray).data.toList=false from d8.1] at a1
 rw [show isP t (⟨#[91]⟩:ByteArray).data.toList=false from d8.2.1] at a2
 rw [show isP t (⟨#[123]⟩:ByteArray).data.toList=false from d8.2.2] at a7
 clear d8 b0
 cases hnn:ge t
 ·have l:Hid (R=.error n):=zq (HE.out.trans (if_neg (by rw [hnn];simp)))
  rw [hnn] at a5
  clear h4 h3 h5 HE c4 c3 a0 b9 b8 HT c2 c0 HI hnn
  go_enter iz,gW
  go_wp2_with fail
  refine H.out.mono ?_;rintro e z ⟨rfl,y⟩
  have a:=zq ((N.out.call y).new [ab ae t.r.kind,aa t.txt,ab ae t.r.n,ab ae t.r.at_,ab ae t.r.end_,am t.lay] 83 rfl)
  clear y N H
  obtain ⟨g1,j⟩:=lz (z.heap.size)
  obtain ⟨wb,o⟩:=lz (z.alloc (.cells #[ab ae t.r.kind,aa t.txt,ab ae t.r.n,ab ae t.r.at_,ab ae t.r.end_,am t.lay] 83))
  unfold qY
  go_upto_region 2 with fail
  rw [<-o.out] at a |-
  rw [<-j.out] at a |-
  clear o j
  have x:=a.out.b.all
  simp only [PC.cells,ak,an,aA,aU,bd,ap,ar,and_true] at x
  go_wp2_with fail
  refine (a1.out _).mono ?_;rintro e w3 ⟨rfl,d⟩
  have A:=zq (a.out.call d)
  clear a x
  clear d 
  have K:=A.out.b.all
  simp only [PC.cells,ak,an,aA,aU,bd,ap,ar,and_true] at K
  go_wp2_with fail
  refine (a2.out _).mono ?_;rintro e w6 ⟨rfl,d⟩
  have I:=zq (A.out.call d)
  clear A K
  clear d 
  have Z:=I.out.b.all
  simp only [PC.cells,ak,an,aA,aU,bd,ap,ar,and_true] at Z
  go_wp2_with fail
  refine (a7.out _).mono ?_;rintro e w9 ⟨rfl,d⟩
  have X:=zq (I.out.call d)
  clear I Z
  clear d 
  have a8:=X.out.b.all
  simp only [PC.cells,ak,an,aA,aU,bd,ap,ar,and_true] at a8
  go_wp2_with fail
  refine (a5.out _).mono ?_;rintro e e2 ⟨rfl,d⟩
  have a6:=zq (X.out.call d)
  clear X a8
  clear d 
  have d2:=a6.out.b.all
  simp only [PC.cells,ak,an,aA,aU,bd,ap,ar,and_true] at d2
  go_wp2_with fail
  refine (sL a6.out.p).mono ?_;rintro e w9 ⟨rfl,a9⟩
  exact ⟨rfl,TOut.bad l.out ⟨rfl,a6.out.fall a9⟩⟩
 ·have U:Hid (R=tO c.E S t most (n+1)):=zq (HE.out.trans (if_pos hnn))
  have f6:¬t.r.kind=7:=by unfold ge at hnn;simp at hnn;omega
  have a4:=zq (a0.out f6)
  have a3:=zq (Dn hnn)
  have f7:=zq hnn
  rw [hnn] at a5
  clear h4 h3 h5 HE c4 a0 HT c2 hnn f6
  go_enter iz,gW
  go_wp2_with fail
  refine H.out.mono ?_;rintro e z ⟨rfl,y⟩
  have a:=zq ((N.out.call y).new [ab ae t.r.kind,aa t.txt,ab ae t.r.n,ab ae t.r.at_,ab ae t.r.end_,am t.lay] 83 rfl)
  clear y N H
  obtain ⟨g1,j⟩:=lz (z.heap.size)
  obtain ⟨wb,o⟩:=lz (z.alloc (.cells #[ab ae t.r.kind,aa t.txt,ab ae t.r.n,ab ae t.r.at_,ab ae t.r.end_,am t.lay] 83))
  unfold qY
  go_upto_region 2 with fail
  rw [<-o.out] at a |-
  rw [<-j.out] at a |-
  clear o j
  have x:=a.out.b.all
  simp only [PC.cells,ak,an,aA,aU,bd,ap,ar,and_true] at x
  go_wp2_with fail
  refine (a1.out _).mono ?_;rintro e w3 ⟨rfl,d⟩
  have A:=zq (a.out.call d)
  clear a x
  clear d 
  have K:=A.out.b.all
  simp only [PC.cells,ak,an,aA,aU,bd,ap,ar,and_true] at K
  go_wp2_with fail
  refine (a2.out _).mono ?_;rintro e w6 ⟨rfl,d⟩
  have I:=zq (A.out.call d)
  clear A K
  clear d 
  have Z:=I.out.b.all
  simp only [PC.cells,ak,an,aA,aU,bd,ap,ar,and_true] at Z
  go_wp2_with fail
  refine (a7.out _).mono ?_;rintro e w9 ⟨rfl,d⟩
  have X:=zq (I.out.call d)
  clear I Z
  clear d 
  have a8:=X.out.b.all
  simp only [PC.cells,ak,an,aA,aU,bd,ap,ar,and_true] at a8
  go_wp2_with fail
  refine (a5.out _).mono ?_;rintro e e2 ⟨rfl,d⟩
  have a6:=zq (X.out.call d)
  clear X a8
  clear d 
  clear a1 a2 a7 a5
  have d2:=a6.out.b.all
  simp only [PC.cells,ak,an,aA,aU,bd,ap,ar,and_true] at d2
  have hi:=HI.out
  go_upto_region 18 with fail
  have i:=a6.out.inc a4.out
  obtain ⟨wn,J⟩:=lz (e2.setCell ⟨c.P,1,none⟩ (ab ae ((n:Int)+1)))
  rw [<-J.out] at i |-
  have f:=zq (i.step (c0.out a3.out V _ i.p) (Stp.refl c V wn))
  clear i J a6 d2 hi
  have e9:=f.out.b.all
  simp only [PC.cells,ak,an,aA,aU,bd,ap,ar,and_true] at e9
  have G:=GR b9.out b8.out (bY n) f.out.p t (c3.out f7.out) most
  have B:=zq G
  clear G
  rcases hx:tO c.E S t most (n+1) with e | ⟨u,pr,m⟩
  ·skip
   rw [hx] at B U
   clear hx
   have l:Hid (R=.error e):=U
   unfold qY at B
   go_wp2_with fail
   refine B.out.mono ?_;rintro e w9 ⟨rfl,a9⟩
   exact ⟨rfl,TOut.bad l.out ⟨rfl,f.out.fall a9⟩⟩
  ·skip
   rw [hx] at B U
   clear hx
   have l:Hid (R=.ok (u,pr,m)):=U
   unfold qY at B
   go_wp2_with fail
   refine (B.out).mono ?_;rintro e g2 ⟨b7,M,O,c1,rfl,Y,hs,ht⟩
   have d1:=zq (Trm.sub (w0:=w) (F:=[w.heap.size]) ht f.out.s.size (by intro b D;rw [aG] at D;subst D;exact f.out.b.lt 1 rfl))
   have c9:=zq b7
   clear ht b7
   have e5:=zq (f.out.step Y hs)
   clear f e9
   clear Y hs
   unfold er
   have f1:=e5.out.b.all
   simp only [PC.cells,ak,an,aA,aU,bd,ap,ar,and_true] at f1
   go_wp2_with fail
   have L:=e5.out.put4 1 rfl (ab ae u.kind) (ab ae u.num) (aa u.name) (.slice M u.args.length O) (ag _)
   refine ay (v:=aK #[aN #[ab ae u.kind,ab ae u.num,aa u.name,.slice M u.args.length O],ab ae pr]) (by simp [results,iu,go_sem,f1]) rfl ?_
   rw [l.out]
   exact ⟨by have:=c9.out;omega,M,O,c1,rfl,L.p,L.s,(d1.out.put (g:=w.heap.size) (by simp) (fun b D=>bR _ _ (ab ae u.kind) (ab ae u.num) (aa u.name) (.slice M u.args.length O) b D) (by simp)).out⟩
end Go.Proofs.YtlikcjbjibhjgaaGreatDoor
namespace Hb
open Go Go.RowKit
theorem BE (E:RE) (S:PT) (most:Int) (k:Nat) (t:Tm) (a:Int) (n:Nat):km E S most (k+1) t a n =
  if vW (hQ E n) most a=true then .ok (t,a,n)
  else if ph (hQ E n).1=true then km E S most k (nC (hQ E n).1.name [t]) (hQ E n).1.prec (n+1)
  else match S (dB (hQ E n).1) (n+1) with
   | .error e=>.error e
   | .ok (u,_,m)=>km E S most k (nC (hQ E n).1.name [t,u]) (hQ E n).1.prec m:=rfl
theorem Kp {E:RE} {n:Nat} (h:(hQ E n).2=true):¬(E.at n).r.kind=7/\qB (E.at n)=false:=by
 have a:ge (E.at n)=true\/isP (E.at n) [44]=true\/isP (E.at n) [124]=true:=by
  unfold hQ at h
  cases h1:ge (E.at n) <;> cases h2:isP (E.at n) [44] <;> cases h3:isP (E.at n) [124] <;> simp [h1,h2,h3] at h |-
 rcases a with h | h | h
 ·exact ⟨by unfold ge at h;simp at h;omega,Dn h⟩
 ·exact ⟨by unfold isP at h;simp at h;omega,gI h⟩
 ·exact ⟨by unfold isP at h;simp at h;omega,gI h⟩
end Hb
namespace Go.Proofs.YtlikcjbjibhjgaaGreatDoor
open Go.RowKit Hb
theorem Hz (E:RE) (n:Nat):-9223372036854775808<=(hQ E n).1.prec/\(hQ E n).1.prec<=9223372036854775807:=by
 unfold hQ
 simp only
 split
 ·exact ⟨by show (-9223372036854775808:Int)<=0;omega,by show (0:Int)<=9223372036854775807;omega⟩
 ·split
  ·exact pH _ _ _
  ·exact pH _ _ _
theorem OwnT.lit {c:PC} {n:Nat} {v:VS} {f:az} {w0 w:ai} {F:List Nat} (p:PsAt c n v f w) (o:w0.heap.size<=w.heap.size) (k:∀b∈F,b<w.heap.size) (r:TR) (m:Trm c f w0 w F r.2.1 r.1.args):OwnT c f w0 (w.alloc (.cells (iW r).toArray 25)) F (.slice (some ⟨w.heap.size,0,none⟩) 1 1) [r]:=by
 have h:ax w.heap.size w (w.alloc (.cells (iW r).toArray 25)):=(aj _ _).alloc (ag _) _
 refine ⟨?_,fun g l=>?_,fun q i=>?_⟩
 ·have j:eB [r]=(iW r).toArray.toList:=by unfold eB;simp
  rw [j]
  exact World.ownsRow_lit w (iW r).toArray 1 o (by unfold maxLen;omega) rfl
 ·have e:w.heap.size=g:=by simpa [ew] using l
  subst e
  exact ⟨fun d=>by have:=p.lts d;omega,fun d=>by have:=k _ d;omega⟩
 ·rw [aG] at i
  subst i
  refine m.keep (fun b a=>h.block b a.1.2.1) fun b a=>⟨⟨⟨a.1.1,aC a.1.2.1 h.size,a.1.2.2⟩,a.2⟩,fun e=>?_⟩
  have s:w.heap.size=b:=by simpa [ew] using e
  have:=a.1.2.1
  omega
theorem Mc {c:PC} {S:PT} {k n:Nat} {nv:az} {w:ai} (hS:uK c S k) (hk:k<=n+1) (p:PsAt c n (cM c.E.T n) nv w) (most:Int) :
  aJ ah 61 #[au (some ⟨c.P,0,none⟩),ab ae most] w (TOut c n nv w (DS c.E S most n)):=by
 obtain ⟨R,HR⟩:=lz (DS c.E S most n)
 rw [<-HR.out]
 have a8:=zq ((Wk.start p).new [ab ae 0,ab ae 0,aa ⟨#[]⟩,.slice none 0 0] 25 rfl)
 have H:=zq (Bf hS hk a8.out.p most)
 have HS:=zq (fun (m:Int) (i:Nat) y W (hi:n<i) (h:PsAt c i (cM c.E.T i) y W)=>hS m i y W (aI hk hi) h)
 have b6:=zq (fun (f:ByteArray) (A:Option Addr) (m D:Nat) (W:ai)=>kb f A m D W)
 have i3:=zq p.ok.len
 have U:Hid (R=match kS c.E S most n with | .error e=>.error e | .ok (t,p,m)=>km c.E S most c.E.T.length t p m):=zq HR.out
 clear p HR hS hk
 rcases hx:kS c.E S most n with e | ⟨z,p0,n0⟩
 ·rw [hx] at H U
  have L:Hid (R=.error e):=U
  clear hx
  go_enter Tryz.func61,Tryz.ntmps61
  go_wp2_with fail
  refine H.out.mono ?_;rintro e w9 ⟨rfl,e4⟩
  exact ⟨rfl,TOut.bad L.out ⟨rfl,a8.out.fall e4⟩⟩
 rw [hx] at H U
 have e6:Hid (R=km c.E S most c.E.T.length z p0 n0):=U
 clear hx U
 go_enter Tryz.func61,Tryz.ntmps61
 go_wp2_with fail
 refine (H.out).mono ?_;rintro e w1 ⟨b9,At,ct,j2,rfl,hp,hs,B⟩
 have g0:=zq (Trm.sub (w0:=w) (F:=[w.heap.size]) B a8.out.s.size (by intro b d;rw [aG] at d;subst d;exact a8.out.b.lt 0 rfl))
 have i5:=zq b9
 clear B b9
 have J:=zq (a8.out.step hp hs)
 clear a8
 clear hp hs
 clear H
 unfold er
 have b3:=zq (J.out.new [ab ae z.kind,ab ae z.num,aa z.name,.slice At z.args.length ct] 25 (g:=w1.heap.size) (by simp))
 have c5:=zq (g0.out.new (.cells #[ab ae z.kind,ab ae z.num,aa z.name,.slice At z.args.length ct] 25) (g:=w1.heap.size) (by simp))
 clear J g0
 obtain ⟨wb,a4⟩:=lz ((w1.alloc (.cells #[ab ae z.kind,ab ae z.num,aa z.name,.slice At z.args.length ct] 25)))
 obtain ⟨l,e9⟩:=lz (w1.heap.size)
 go_upto_block 1 with fail
 rw [<-a4.out] at b3 c5 |-
 rw [<-e9.out] at b3 c5 |-
 clear a4 e9
 have f1:Hid (w.heap.size<=l):=zq (by
  have j1:=b3.out.b.ord
  simp only [ak,an,List.map_cons,List.map_nil,List.pairwise_cons,bg,bQ,or_false,forall_eq_or_imp,forall_eq] at j1
  omega)
 go_loopw [7] (fun v7 wr=>∃(O:Int) (a:Nat) (y:az) (t:Tm) (A:Option Addr) (D j:Nat),v7=ab ae O/\n<a/\c.E.T.length<=a+j/\Hid (Wk c a (cM c.E.T a) nv w y wr [(l,[ab ae t.kind,ab ae t.num,aa t.name,.slice A t.args.length D]),(w.heap.size,[ab ae 0,ab ae 0,aa ⟨#[]⟩,.slice none 0 0])])/\Hid (Trm c y w wr [l,w.heap.size] A t.args)/\Hid (R=km c.E S most j t O a)) (fun _ wr=>match wr.cell? ⟨c.P,1,none⟩ with | some (ab _ i)=>c.E.T.length-i.toNat | _=>0)
 case atStart=>exact ⟨p0,n0,j2,z,At,ct,c.E.T.length,rfl,i5.out,by omega,b3,c5,e6⟩
 case round=>
  obtain ⟨O,a,y,t,A,D,j,rfl,h9,hj,b5,HT,U⟩:=hrel
  have h8:=b5.out.p.n1
  obtain ⟨j,rfl⟩:∃i,j=i+1:=⟨j-1,by omega⟩
  have I:=zq (⟨h9,hj,h8⟩:_/\_/\_)
  have f4:=zq (b5.out.p.bk.c 1 _ rfl:wr.cell? ⟨c.P,1,none⟩=some (ab ae (a:Int)))
  have V:=zq (U.out.trans (BE c.E S most j t O a))
  have d7:=zq (zf b5.out.p)
  have a7:=zq (fun h=>Kp (E:=c.E) (n:=a) h)
  have c3:=zq (fun X=>mH (hQ c.E a).1 X (Hz c.E a))
  obtain ⟨en,d3⟩:=lz (vW (hQ c.E a) most O)
  rw [<-d3.out] at V
  have a1:Hid (en=(!(hQ c.E a).2||(decide (most<(hQ c.E a).1.prec)||decide (gi (hQ c.E a).1<O)))):=zq d3.out
  clear d3 b3 c5 e6 h9 hj h8 U
  obtain ⟨o,HO⟩:=lz ((hQ c.E a).1)
  obtain ⟨b,HB⟩:=lz ((hQ c.E a).2)
  rw [<-HO.out,<-HB.out] at d7 a1
  rw [<-HO.out] at V c3
  rw [<-HB.out] at a7
  clear HO HB
  unfold kZ at *
  obtain ⟨sl,e0⟩:=lz (gi o)
  obtain ⟨sr,e1⟩:=lz (dB o)
  rw [<-e0.out,<-e1.out] at c3
  rw [<-e0.out] at a1
  rw [<-e1.out] at V
  clear e0 e1
  go_wp2_with fail
  refine (d7.out).mono ?_;rintro e d0 ⟨rfl,q⟩
  have f5:=zq (b5.out.call q)
  have g2:=zq (HT.out.call q)
  clear b5 HT
  clear q d7
  have b4:=zq (f5.out.new [aa o.name,ab ae o.typ,ab ae o.prec] 39 (g:=d0.heap.size) (by simp))
  have c6:=zq (g2.out.new (.cells #[aa o.name,ab ae o.typ,ab ae o.prec] 39) (g:=d0.heap.size) (by simp))
  clear f5 g2
  obtain ⟨wq,g7⟩:=lz ((d0.alloc (.cells #[aa o.name,ab ae o.typ,ab ae o.prec] 39)))
  obtain ⟨Z,f0⟩:=lz (d0.heap.size)
  go_upto_region 3 with fail
  rw [<-g7.out] at b4 c6 |-
  rw [<-f0.out] at b4 c6 |-
  clear g7 f0
  have g9:=b4.out.b.all
  simp only [PC.cells,ak,an,aA,aU,bd,ap,ar,and_true] at g9
  go_wp2_with fail
  refine (c3.out _).mono ?_;rintro e j3 ⟨rfl,q⟩
  have a3:=zq (b4.out.call q)
  have e3:=zq (c6.out.call q)
  clear b4 c6 g9
  clear q c3
  go_upto_region 4 with fail
  go_cut [43] from 31 to 43 (fun x wc=>x=am en/\wc=j3)
  case first=>
   have a5:=a3.out.b.all
   simp only [PC.cells,ak,an,aA,aU,bd,ap,ar,and_true] at a5
   have a0:=a1.out
   clear V HS b6 a1 a7
   cases b
   ·have N:en=true:=a0
    clear a0
    subst N
    go_wp2_with fail
    go_meet
    exact ⟨rfl,rfl⟩
   ·by_cases r:most<o.prec
    ·have M:decide (most<o.prec)=true:=decide_eq_true r
     rw [M] at a0
     have N:en=true:=a0
     clear a0 r
     subst N
     go_wp2_with fail
     go_meet
     exact ⟨rfl,rfl⟩
    ·have M:decide (most<o.prec)=false:=decide_eq_false r
     rw [M] at a0
     have N:en=decide (sl<O):=a0
     clear a0 r
     subst N
     go_wp2_with fail
     go_meet
     exact ⟨rfl,rfl⟩
  case rest=>
   obtain ⟨rfl,rfl⟩:=hcut
   cases en
   rotate_left
   ·skip
    have L:Hid (R=.ok (t,O,a)):=V
    clear V HS b6 a1 a7
    have a5:=a3.out.b.all
    simp only [PC.cells,ak,an,aA,aU,bd,ap,ar,and_true] at a5
    go_wp2_with fail
    have G:=a3.out.put4 2 rfl (ab ae t.kind) (ab ae t.num) (aa t.name) (.slice A t.args.length D) (ag _)
    have B:=e3.out.put (g:=w.heap.size) (by simp) (fun b d=>bR _ _ (ab ae t.kind) (ab ae t.num) (aa t.name) (.slice A t.args.length D) b d) (by simp)
    refine ay (v:=aK #[aN #[ab ae t.kind,ab ae t.num,aa t.name,.slice A t.args.length D],ab ae O]) (by simp [results,Tryz.results61,go_sem,a5]) rfl ?_
    rw [L.out]
    exact ⟨I.out.1,A,D,y,rfl,G.p,G.s,B.out⟩
   have d:b=true:=by
    have h:=a1.out
    cases b with
    | true=>rfl
    | false=>cases h
   subst d
   have a6:Hid (R=if ph o=true then km c.E S most j (nC o.name [t]) o.prec (a+1) else match S sr (a+1) with | .error e=>.error e | .ok (u,_,m)=>km c.E S most j (nC o.name [t,u]) o.prec m):=V
   have i2:=zq (a7.out rfl).2
   have i4:=zq (a3.out.p.more (a7.out rfl).1)
   clear V a1 a7
   have hi:=nF (n:=a) (by have:=I.out;have:=i3.out;omega)
   have a5:=a3.out.b.all
   simp only [PC.cells,ak,an,aA,aU,bd,ap,ar,and_true] at a5
   go_upto_region 7 with fail
   have hq:=a3.out.inc i4.out
   obtain ⟨wn,g5⟩:=lz (wc.setCell ⟨c.P,1,none⟩ (ab ae ((a:Int)+1)))
   have e5:=(Stp.refl c y wc).put 1 (ab ae ((a:Int)+1))
   rw [<-g5.out] at hq e5 |-
   have Y:=zq (hq.step (PsAt.skip i2.out I.out.2.2 hq.p) (Stp.refl c y wn))
   have g3:=zq (e3.out.step e5)
   clear hq e5 g5 a3 e3 a5 hi
   have h4:=Y.out.b.all
   simp only [PC.cells,ak,an,aA,aU,bd,ap,ar,and_true] at h4
   go_upto_region 9 with fail
   obtain ⟨wl,c7⟩:=lz (wn.alloc (.cells #[ab ae t.kind,ab ae t.num,aa t.name,.slice A t.args.length D] 25))
   obtain ⟨K,d4⟩:=lz (wn.heap.size)
   have h6:ax wn.heap.size wn wl:=by rw [c7.out];exact (aj _ _).alloc (ag _) _
   have C:=zq (Y.out.call h6)
   have i0:=OwnT.lit (F:=[Z,l,w.heap.size]) Y.out.p Y.out.s.size (by intro b d;simp only [bg,bQ,or_false] at d;rcases d with rfl|rfl|rfl;exact Y.out.b.lt 0 rfl;exact Y.out.b.lt 1 rfl;exact Y.out.b.lt 2 rfl) (t,A,D) (g3.out)
   have i1:OwnT c y w wl [Z,l,w.heap.size] (.slice (some ⟨K,0,none⟩) 1 1) [(t,A,D)]:=by rw [c7.out,d4.out];exact i0
   have b2:=zq i1
   rw [<-c7.out] at |-
   rw [<-d4.out] at |-
   clear h6 i0 i1 c7 d4 Y g3 h4
   obtain ⟨po,c2⟩:=lz (ph o)
   rw [<-c2.out] at a6
   go_cut [64] from 57 to 64 (fun x j6=>x=am (!po)/\j6=wl)
   case first=>
    have c8:=C.out.b.all
    simp only [PC.cells,ak,an,aA,aU,bd,ap,ar,and_true] at c8
    have a9:po=(o.typ==6||o.typ==7):=c2.out
    clear a6 HS b6 c2
    by_cases r:o.typ=6
    ·have M:(o.typ==6)=true:=by simpa using r
     have d2:(o.typ != 6)=false:=by simpa using r
     rw [M] at a9
     clear M
     have N:po=true:=a9
     clear a9 r
     subst N
     go_wp2_with fail
     go_meet
     exact ⟨rfl,rfl⟩
    ·have M:(o.typ==6)=false:=by simpa using r
     have d2:(o.typ != 6)=true:=by simpa using r
     rw [M] at a9
     clear M
     have N:po=(o.typ==7):=a9
     clear a9 r
     subst N
     go_wp2_with fail
     go_meet
     exact ⟨rfl,rfl⟩
   case rest=>
    obtain ⟨rfl,h7⟩:=hcut
    rw [h7]
    clear h7 c2
    cases po
    rotate_left
    ·skip
     have L:Hid (R=km c.E S most j (nC o.name [t]) o.prec (a+1)):=a6
     obtain ⟨Q,cr,c9,c0⟩:=b2.out.tms
     obtain ⟨rfl,rfl⟩:some ⟨K,0,none⟩=Q/\1=cr:=by injection c9 with r _ h3;exact ⟨r,h3⟩
     have b7:Hid (Trm c y w wl [Z,l,w.heap.size] (some ⟨K,0,none⟩) [t]):=zq c0
     clear a6 c0 c9 b2
     have a2:Hid (a<a+1):=zq (bY _)
     have c8:=C.out.b.all
     simp only [PC.cells,ak,an,aA,aU,bd,ap,ar,and_true] at c8
     go_wp2_with fail
     refine (b6.out _ _ _ _ _).mono ?_;rintro e j4 ⟨rfl,q⟩
     have f7:=zq (C.out.call q)
     have i7:=zq (b7.out.call q)
     clear C b7 c8
     clear q 
     have i9:=f7.out.b.all
     simp only [PC.cells,ak,an,aA,aU,bd,ap,ar,and_true] at i9
     have G:Wk c (a+1) (cM c.E.T (a+1)) nv w y ((((j4.setCell ⟨l,0,none⟩ (ab ae 3)).setCell ⟨l,1,none⟩ (ab ae 0)).setCell ⟨l,2,none⟩ (aa o.name)).setCell ⟨l,3,none⟩ (.slice (some ⟨K,0,none⟩) 1 1)) [(l,[ab ae 3,ab ae 0,aa o.name,.slice (some ⟨K,0,none⟩) 1 1]),(w.heap.size,[ab ae 0,ab ae 0,aa ⟨#[]⟩,.slice none 0 0])]:=(f7.out.tl).put4 0 rfl (ab ae 3) (ab ae 0) (aa o.name) (.slice (some ⟨K,0,none⟩) 1 1) f1.out
     have B:=i7.out.put (g:=l) (by simp) (fun b d=>bR _ _ (ab ae 3) (ab ae 0) (aa o.name) (.slice (some ⟨K,0,none⟩) 1 1) b d) (by simp)
     have HZ:=zq G
     have e2:=zq B
     have d8:=zq (G.p.bk.c 1 _ rfl:_=some (ab ae (((a+1):Nat):Int)))
     have d5:=zq G.p.n1
     clear G B
     go_wp2_with fail
     go_roundw
     case rel=>exact ⟨o.prec,(a+1),y,nC o.name [t],(some ⟨K,0,none⟩),1,j,rfl,by have:=I.out;have:=a2.out;omega,by have:=I.out;have:=a2.out;omega,HZ,zq (e2.out.fewer (by intro b d;exact aW _ d)),L⟩
     case measure=>rw [d8.out,f4.out];have:=I.out;have:=a2.out;have:=d5.out;simp;omega
    have b1:Hid (R=match S sr (a+1) with | .error e=>.error e | .ok (u,_,m)=>km c.E S most j (nC o.name [t,u]) o.prec m):=a6
    clear a6
    have H:=zq (HS.out sr (a+1) y _ (by have:=I.out;omega) C.out.p)
    rcases hx:S sr (a+1) with e | ⟨u,pu,m⟩
    ·skip
     rw [hx] at H b1
     clear hx
     have L:Hid (R=.error e):=b1
     go_wp2_with fail
     refine H.out.mono ?_;rintro e w9 ⟨rfl,e4⟩
     exact ⟨rfl,TOut.bad L.out ⟨rfl,C.out.fall e4⟩⟩
    ·skip
     rw [hx] at H b1
     clear hx
     have L:Hid (R=km c.E S most j (nC o.name [t,u]) o.prec m):=b1
     clear b1
     go_wp2_with fail
     refine (H.out).mono ?_;rintro e c1 ⟨b9,Au,cu,b0,rfl,hp,hs,B⟩
     have g4:=zq (B.keep (fun _ _=>rfl) fun b d=>(⟨⟨⟨aI C.out.s.size d.1,d.2⟩,fun e=>by
       simp only [bg,bQ,or_false] at e
       have h0:=C.out.b.lt 0 rfl
       have r:=C.out.b.lt 1 rfl
       have h2:=C.out.b.lt 2 rfl
       have:=d.1
       rcases e with rfl|rfl|rfl <;> omega⟩,fun e=>by
       have:=(b2.out.own.lt b e).2;have:=d.1;omega⟩:(c.new b0 w _ b/\b ∉ [Z,l,w.heap.size])/\(ev (some ⟨K,0,none⟩) 1 1).ownBlock≠some b))
     have i6:=zq b9
     clear B b9
     have f6:=zq (C.out.step hp hs)
     have f3:=zq (b2.out.step hs)
     clear C b2
     clear hp hs
     clear H
     unfold er
     obtain ⟨wb2,a4⟩:=lz (c1.alloc (.cells #[ab ae u.kind,ab ae u.num,aa u.name,.slice Au u.args.length cu] 25))
     have b8:ax c1.heap.size c1 wb2:=by rw [a4.out];exact (aj _ _).alloc (ag _) _
     have h5:Bk wb2 c1.heap.size [ab ae u.kind,ab ae u.num,aa u.name,.slice Au u.args.length cu]:=by rw [a4.out];exact Bk.new c1 _ _
     have J:=zq (f6.out.call b8)
     have d6:=zq (f3.out.call b8)
     have g1:=zq (g4.out.keep (fun b d=>b8.block b d.1.1.2.1) fun b d=>(⟨⟨⟨d.1.1.1,aC d.1.1.2.1 b8.size,d.1.1.2.2⟩,d.1.2⟩,d.2⟩:(c.new b0 w wb2 b/\b ∉ [Z,l,w.heap.size])/\(ev (some ⟨K,0,none⟩) 1 1).ownBlock≠some b))
     have cb:=h5.all0
     simp only [bd,ap,ar,and_true] at cb
     have f9:Hid (w.heap.size<=wb2.heap.size):=zq J.out.s.size
     have e7:Hid (∀b∈[Z,l,w.heap.size],b<wb2.heap.size):=zq (by intro b d;simp only [bg,bQ,or_false] at d;rcases d with rfl|rfl|rfl;exact J.out.b.lt 0 rfl;exact J.out.b.lt 1 rfl;exact J.out.b.lt 2 rfl)
     clear b8 h5 f6 f3 g4
     go_upto_region 11 with fail
     rw [<-a4.out]
     clear a4
     go_wp2_with (at_builtin;go_must (refine nA rfl _ _ rfl c m _ b0 w [Z,l,w.heap.size] _ [(t,A,D)] rfl d6.out J.out.p f9.out e7.out (u,Au,cu) g1.out _ rfl rfl rfl (by simp) ?_;intro v4 w4 f2 e8;have d9:=zq ((J.out.call ((aj _ _).alloc (ag _) (.cells (iW (u,Au,cu)).toArray 25))).grown (d6.out.call ((aj _ _).alloc (ag _) (.cells (iW (u,Au,cu)).toArray 25))) (by simp) e8.out);(obtain ⟨Q,cr,c9,c0⟩:=f2.out.tms);subst c9;(have b7:Hid (Trm c b0 w w4 [Z,l,w.heap.size] Q [t,u]):=zq c0);clear c0;have c4:=d9.out.b.all;simp only [PC.cells,ak,an,aA,aU,bd,ap,ar,and_true] at c4))
     clear cb c4 d6 g1 J f9 e7 f2 e8
     have a2:Hid (a<m):=zq (Nat.lt_of_succ_lt i6.out)
     refine (b6.out _ _ _ _ _).mono ?_;rintro e j5 ⟨rfl,q⟩
     have f8:=zq (d9.out.call q)
     have i8:=zq (b7.out.call q)
     clear d9 b7
     clear q 
     have j0:=f8.out.b.all
     simp only [PC.cells,ak,an,aA,aU,bd,ap,ar,and_true] at j0
     have G:Wk c m (cM c.E.T m) nv w b0 ((((j5.setCell ⟨l,0,none⟩ (ab ae 3)).setCell ⟨l,1,none⟩ (ab ae 0)).setCell ⟨l,2,none⟩ (aa o.name)).setCell ⟨l,3,none⟩ (.slice Q 2 cr)) [(l,[ab ae 3,ab ae 0,aa o.name,.slice Q 2 cr]),(w.heap.size,[ab ae 0,ab ae 0,aa ⟨#[]⟩,.slice none 0 0])]:=(f8.out.tl).put4 0 rfl (ab ae 3) (ab ae 0) (aa o.name) (.slice Q 2 cr) f1.out
     have B:=i8.out.put (g:=l) (by simp) (fun b d=>bR _ _ (ab ae 3) (ab ae 0) (aa o.name) (.slice Q 2 cr) b d) (by simp)
     have HZ:=zq G
     have e2:=zq B
     have d8:=zq (G.p.bk.c 1 _ rfl:_=some (ab ae ((m:Nat):Int)))
     have d5:=zq G.p.n1
     clear G B
     go_wp2_with fail
     go_roundw
     case rel=>exact ⟨o.prec,m,b0,nC o.name [t,u],Q,cr,j,rfl,by have:=I.out;have:=a2.out;omega,by have:=I.out;have:=a2.out;omega,HZ,zq (e2.out.fewer (by intro b d;exact aW _ d)),L⟩
     case measure=>rw [d8.out,f4.out];have:=I.out;have:=a2.out;have:=d5.out;simp;omega
theorem Md (c:PC):∀f,uK c (mv c.E f) (c.E.T.length-f):=by
 intro f
 induction f with
 | zero=>intro most n b w a p;exact absurd p.n1 (by omega)
 | succ f ih=>intro most n b w a p;exact Mc ih (by omega) p most
theorem yq (b c d:Nat) (w:ai):CallsD ah 60 #[au (some ⟨b,0,none⟩),au (some ⟨c,0,none⟩),au (some ⟨d,0,none⟩)] .returning w fun e h w'=>e=aw (aK #[])/\h=.returning/\ax w.heap.size w w':=by
 have f:∀w,(Instr.typeAssert .nilIface 20 124 true).run ah w=.ok (aK #[aN #[ab ae 0],am false]) w:=fun w=>by kernel_rfl
 refine callsD_of_wpS Tryz.func60 rfl fun a i g=>?_
 apply wpS_seq
 apply wpS_region
 simp [wpOpsS,go_sem,recoverD,g,Tryz.ntmps60,Exit.thenS,f]
 apply wpS_seq
 apply wpS_region
 simp [wpOpsS,go_sem,Exit.thenS]
 refine wpS_cond (t:=false) (by simp [Act.eval,Array.replicate]) ?_
 simp only [Bool.false_eq_true,if_false]
 refine wpS_of_wp (wp_skip ?_)
 have j:=(aj w.heap.size w).alloc (ag _) (.cells #[ab ae 0] 124)
 cases a
 simp_all [bodyPostS,results,Tryz.results60]
theorem FE (a d g:Nat) (k:Int) (E F G H y z:az) (w:ai) (h:Bk w a [E,F,G,H]) (i:Bk w d [y]) (j:Bk w g [z]) (A:a≠d) (B:a≠g) (C:d≠g) :
  CallsD ah 60 #[au (some ⟨a,0,none⟩),au (some ⟨d,0,none⟩),au (some ⟨g,0,none⟩)] (.panicking [{ v:=.iface 124 (aN #[ab ae k]),recovered:=false }]) w fun e D w'=>
   e=aw (aK #[])/\D=.panicking [{ v:=.iface 124 (aN #[ab ae k]),recovered:=true }] /\
   w'=(((((((w.alloc (.cells #[ab ae k] 124)).setCell ⟨a,0,none⟩ (ab ae 0)).setCell ⟨a,1,none⟩ (ab ae 0)).setCell ⟨a,2,none⟩ (aa ⟨#[]⟩)).setCell ⟨a,3,none⟩ (.slice none 0 0)).setCell ⟨d,0,none⟩ (ab ae k)).setCell ⟨g,0,none⟩ (am false)).drew:=by
 have m:∀(v:az) w,(Instr.typeAssert (.iface 124 v) 20 124 true).run ah w=.ok (aK #[v,am true]) w:=fun v w=>by kernel_rfl
 refine callsD_of_wpS Tryz.func60 rfl fun p P u=>?_
 apply wpS_seq
 apply wpS_region
 simp [wpOpsS,go_sem,recoverD,u,Tryz.ntmps60,Exit.thenS,m]
 apply wpS_seq
 apply wpS_region
 simp [wpOpsS,go_sem,Exit.thenS]
 refine wpS_cond (t:=true) (by simp [Act.eval,Array.replicate]) ?_
 simp only [if_true]
 have x:=Bk.new w [ab ae k] 124
 have b:=h.al (.cells #[ab ae k] 124)
 have n:=i.al (.cells #[ab ae k] 124)
 have o:=j.al (.cells #[ab ae k] 124)
 have l:Hid (a≠w.heap.size/\d≠w.heap.size/\g≠w.heap.size):=zq ⟨gZ h.lt,gZ i.lt,gZ j.lt⟩
 clear h i j m
 refine wpS_of_wp ?_
 simp only [Array.replicate_succ,Array.replicate_zero,List.push_toArray,List.append_toArray,an,ak,List.setIfInBounds_toArray,List.set_cons_zero,List.set_cons_succ]
 generalize w.alloc (.cells #[ab ae k] 124)=W at *
 obtain ⟨q,r,s⟩:=l.out
 have Q:=q.symm
 have R:=r.symm
 have S:=s.symm
 have a0:=A.symm
 have a1:=B.symm
 have a2:=C.symm
 clear l
 have M:=n.c 0 _ rfl
 have Y:=n.f 0
 have N:=o.c 0 _ rfl
 have Z:=o.f 0
 have I:=b.c 0 _ rfl
 have J:=b.c 1 _ rfl
 have K:=b.c 2 _ rfl
 have L:=b.c 3 _ rfl
 have T:=b.f 0
 have U:=b.f 1
 have V:=b.f 2
 have X:=b.f 3
 have O:=x.c 0 _ rfl
 go_region
 all_goals
  cases p
  simp [bodyPostS,results,Tryz.results60]
def WOut (c:PC) (a:az) (w0:ai) (r:RR (Tm×Nat)) (e:Ending) (w':ai):Prop:=match r with
 | .error k=>e=aw (aK #[aN #[ab ae 0,ab ae 0,aa ⟨#[]⟩,.slice none 0 0],ab ae (c.E.at k).r.at_,am false])/\ax c.B1 w0 w'
 | .ok (t,m)=>∃A cap nv',e=aw (aK #[er t A cap,ab ae 0,am true])/\PsAt c m (cM c.E.T m) nv' w'/\Stp c a w0 nv' w'/\TmsK (c.new nv' w0 w') w' A t.args
theorem WOut.bad {c:PC} {d:az} {w0 w:ai} {R:RR (Tm×Nat)} {k:Nat} {e:Ending} (a:R=.error k) (b:e=aw (aK #[aN #[ab ae 0,ab ae 0,aa ⟨#[]⟩,.slice none 0 0],ab ae (c.E.at k).r.at_,am false])) (h:ax c.B1 w0 w):WOut c d w0 R e w:=by rw [a];exact ⟨b,h⟩
theorem Wk.left {c:PC} {n:Nat} {v:VS} {k e:az} {w0 w w':ai} {L:List (Nat×List az)} (h:Wk c n v k w0 e w L) (f:Fall c e w w') (j:Nat) {g:Nat} {vs:List az} (i:L[j]? = some (g,vs)):Bk w' g vs:=by
 obtain ⟨l,s⟩:=f.2
 have d:=List.mem_of_getElem? i
 have a:=h.b.bk (g,vs) (List.mem_append_left _ d)
 exact a.keeps (s.block _ a.lt (h.off _ d))
theorem ws {B:Nat} {a w:ai} (h:ax B a w) {b c d:Nat} (j:B<=b) (k:B<=c) (l:B<=d) (e f g i y z:az):ax B a ((((((w.setCell ⟨b,0,none⟩ e).setCell ⟨b,1,none⟩ f).setCell ⟨b,2,none⟩ g).setCell ⟨b,3,none⟩ i).setCell ⟨c,0,none⟩ y).setCell ⟨d,0,none⟩ z) :=
 ((sh h b j e f g i).setCell (p:=⟨c,0,none⟩) k y).setCell (p:=⟨d,0,none⟩) l z
theorem GP {c:PC} {G:az} {w:ai} (p:PsAt c 0 (cM c.E.T 0) G w):aJ ah 34 #[au (some ⟨c.P,0,none⟩)] w (WOut c G w (rj c.E)):=by
 obtain ⟨R,HR⟩:=lz (rj c.E)
 rw [<-HR.out]
 have j:Hid (Wk c 0 (cM c.E.T 0) G w G (((w.alloc (.cells #[ab ae 0,ab ae 0,aa ⟨#[]⟩,.slice none 0 0] 25)).alloc (.cells #[ab ae 0] 3)).alloc (.cells #[am false] 4)) [(w.heap.size+1+1,[am false]),(w.heap.size+1,[ab ae 0]),(w.heap.size,[ab ae 0,ab ae 0,aa ⟨#[]⟩,.slice none 0 0])]):=zq ((((Wk.start p).new [ab ae 0,ab ae 0,aa ⟨#[]⟩,.slice none 0 0] 25 rfl).new [ab ae 0] 3 (g:=w.heap.size+1) (by simp)).new [am false] 4 (g:=w.heap.size+1+1) (by simp))
 have HS:=zq (fun nv' W (h:PsAt c 0 (cM c.E.T 0) nv' W)=>Md c c.E.T.length 1200 0 nv' W (by omega) h)
 have I:Hid (R=match mv c.E c.E.T.length 1200 0 with | .error e=>.error e | .ok (t,_,m)=>if (c.E.at m).r.kind=7 then .ok (t,m) else .error m):=zq HR.out
 have A:=zq (show c.B1<=w.heap.size by have:=p.low;have:=p.ok.p1;omega)
 clear p HR
 go_enter_defers Tryz.func34,Tryz.ntmps34
 go_upto_region 1 with fail
 obtain ⟨w1,b2⟩:=lz (((w.alloc (.cells #[ab ae 0,ab ae 0,aa ⟨#[]⟩,.slice none 0 0] 25)).alloc (.cells #[ab ae 0] 3)).alloc (.cells #[am false] 4))
 rw [<-b2.out] at j |-
 clear b2
 have M:=zq (HS.out G w1 j.out.p)
 clear HS
 rcases hx:mv c.E c.E.T.length 1200 0 with k | ⟨t,pr,m⟩
 ·skip
  rw [hx] at M I
  clear hx
  have L:Hid (R=.error k):=I
  go_wp2_with fail
  refine M.out.mono ?_;rintro e Y ⟨rfl,U⟩
  have a:w.heap.size≠w.heap.size+1:=gZ (bY _)
  have D:w.heap.size+1≠w.heap.size+1+1:=gZ (bY _)
  have d:w.heap.size≠w.heap.size+1+1:=gZ (Nat.lt_succ_of_lt (bY _))
  have C:Bk Y (w.heap.size) [ab ae 0,ab ae 0,aa ⟨#[]⟩,.slice none 0 0]:=j.out.left U 2 rfl
  have N:Bk Y (w.heap.size+1) [ab ae 0]:=j.out.left U 1 rfl
  have O:Bk Y (w.heap.size+1+1) [am false]:=j.out.left U 0 rfl
  show bodyPostD _ _ _ (.panic _) _ _
  refine leaves_cons (f:=60) (args:=#[au (some ⟨w.heap.size,0,none⟩),au (some ⟨w.heap.size+1,0,none⟩),au (some ⟨w.heap.size+1+1,0,none⟩)]) (by simp) (by simp [go_sem]) ?_
  refine (FE _ _ _ (c.E.at k).r.at_ _ _ _ _ _ _ Y C N O a d D).mono ?_
  rintro e u' B ⟨rfl,rfl,y⟩
  have hA:=(j.out.fall U).1.alloc (aI A.out (by have:=C.lt;omega)) (.cells #[ab ae (c.E.at k).r.at_] 124)
  have l:=(ws hA A.out (fM A.out) (fM (fM A.out)) (ab ae 0) (ab ae 0) (aa ⟨#[]⟩) (.slice none 0 0) (ab ae (c.E.at k).r.at_) (am false)).drew
  rw [<-y] at l
  have j2:=((((C.al (.cells #[ab ae (c.E.at k).r.at_] 124)).set 0 (ab ae 0)).set 1 (ab ae 0)).set 2 (aa ⟨#[]⟩)).set 3 (.slice none 0 0)
  have z:Bk B (w.heap.size) [ab ae 0,ab ae 0,aa ⟨#[]⟩,.slice none 0 0]:=by rw [y];exact ((j2.other a 0 (ab ae (c.E.at k).r.at_)).other d 0 (am false)).dr
  have j3:=(((((N.al (.cells #[ab ae (c.E.at k).r.at_] 124)).other a.symm 0 (ab ae 0)).other a.symm 1 (ab ae 0)).other a.symm 2 (aa ⟨#[]⟩)).other a.symm 3 (.slice none 0 0)).set 0 (ab ae (c.E.at k).r.at_)
  have q3:Bk B (w.heap.size+1) [ab ae (c.E.at k).r.at_]:=by rw [y];exact (j3.other D 0 (am false)).dr
  have j4:=((((((O.al (.cells #[ab ae (c.E.at k).r.at_] 124)).other d.symm 0 (ab ae 0)).other d.symm 1 (ab ae 0)).other d.symm 2 (aa ⟨#[]⟩)).other d.symm 3 (.slice none 0 0)).other D.symm 0 (ab ae (c.E.at k).r.at_)).set 0 (am false)
  have q4:Bk B (w.heap.size+1+1) [am false]:=by rw [y];exact j4.dr
  have a3:=z.c 0 _ rfl
  have a4:=z.c 1 _ rfl
  have a5:=z.c 2 _ rfl
  have a6:=z.c 3 _ rfl
  have a7:=q3.c 0 _ rfl
  have a8:=q4.c 0 _ rfl
  exact ⟨aK #[aN #[ab ae 0,ab ae 0,aa ⟨#[]⟩,.slice none 0 0],ab ae (c.E.at k).r.at_,am false],by simp [results,Tryz.results34,go_sem,a3,a4,a5,a6,a7,a8],WOut.bad L.out rfl l⟩
 ·skip
  rw [hx] at M I
  clear hx
  have J:Hid (R=if (c.E.at m).r.kind=7 then .ok (t,m) else .error m):=I
  go_wp2_with fail
  refine (M.out).mono ?_;rintro e w1 ⟨c0,i,o,X,rfl,hp,hs,x⟩
  have a9:=zq (Trm.sub (w0:=w) (F:=[w.heap.size+1+1,w.heap.size+1,w.heap.size]) x j.out.s.size (by intro b u;simp only [bg,bQ,or_false] at u;rcases u with rfl|rfl|rfl;exact j.out.b.lt 0 rfl;exact j.out.b.lt 1 rfl;exact j.out.b.lt 2 rfl))
  clear x c0 I
  have a0:=zq (j.out.step hp hs)
  clear j
  clear hp hs
  clear M
  unfold er
  have b4:=a0.out.b.all
  simp only [PC.cells,ak,an,aA,aU,bd,ap,ar,and_true] at b4
  go_upto_region 3 with fail
  have l:=a0.out.put4 2 rfl (ab ae t.kind) (ab ae t.num) (aa t.name) (.slice i t.args.length o) (ag _)
  have x:=a9.out.put (g:=w.heap.size) (by simp) (fun b u=>bR _ _ (ab ae t.kind) (ab ae t.num) (aa t.name) (.slice i t.args.length o) b u) (by simp)
  obtain ⟨wu,b3⟩:=lz (((((w1.setCell ⟨w.heap.size,0,none⟩ (ab ae t.kind)).setCell ⟨w.heap.size,1,none⟩ (ab ae t.num)).setCell ⟨w.heap.size,2,none⟩ (aa t.name)).setCell ⟨w.heap.size,3,none⟩ (.slice i t.args.length o)))
  rw [<-b3.out] at l x |-
  have a1:Hid (Wk c m (cM c.E.T m) G w X wu [(w.heap.size+1+1,[am false]),(w.heap.size+1,[ab ae 0]),(w.heap.size,[ab ae t.kind,ab ae t.num,aa t.name,.slice i t.args.length o])]):=zq l
  have b0:=zq x
  clear l x b3 a9 a0 b4
  have hf:∀(q:NextR) W,(Instr.field 83 (aN #[ab ae q.r.kind,aa q.txt,ab ae q.r.n,ab ae q.r.at_,ab ae q.r.end_,am q.lay]) 0).run ah W=.ok (ab ae q.r.kind) W:=fun q W=>by kernel_rfl
  have K:=zq (kc a1.out.p 0 (by decide))
  rw [bv] at K
  obtain ⟨q,b6⟩:=lz (c.E.at m)
  rw [<-b6.out] at K J
  unfold qY at K
  have c1:=hf q
  clear hf
  go_wp2_with fail
  refine (K.out).mono ?_;rintro e w4 ⟨rfl,hB⟩
  have v:=zq (a1.out.call hB)
  have b1:=zq (b0.out.call hB)
  clear a1 b0
  clear hB K
  by_cases H:q.r.kind=7
  ·skip
   have b7:(q.r.kind != 7)=false:=by simpa using H
   have L:Hid (R=.ok (t,m)):=zq (by rw [J.out,if_pos H])
   clear H J
   have S:=v.out.b.all
   simp only [PC.cells,ak,an,aA,aU,bd,ap,ar,and_true] at S
   go_wp2_with fail
   obtain ⟨wz,Q⟩:∃wz,wz=((((((w4.setCell ⟨w.heap.size,0,none⟩ (ab ae t.kind)).setCell ⟨w.heap.size,1,none⟩ (ab ae t.num)).setCell ⟨w.heap.size,2,none⟩ (aa t.name)).setCell ⟨w.heap.size,3,none⟩ (.slice i t.args.length o)).setCell ⟨w.heap.size+1,0,none⟩ (ab ae 0)).setCell ⟨w.heap.size+1+1,0,none⟩ (am true)):=⟨_,rfl⟩
   have l:Wk c m (cM c.E.T m) G w X wz [(w.heap.size+1+1,[am true]),(w.heap.size+1,[ab ae 0]),(w.heap.size,[ab ae t.kind,ab ae t.num,aa t.name,.slice i t.args.length o])]:=by
    rw [Q]
    exact (((v.out.put4 2 rfl (ab ae t.kind) (ab ae t.num) (aa t.name) (.slice i t.args.length o) (ag _)).put 1 0 rfl (ab ae 0) (cQ _)).put 0 0 rfl (am true) (fM (cQ _)))
   have x:Trm c X w wz [w.heap.size+1+1,w.heap.size+1,w.heap.size] i t.args:=by
    rw [Q]
    have t1:=b1.out.put (g:=w.heap.size) (by simp) (fun b u=>bR _ _ (ab ae t.kind) (ab ae t.num) (aa t.name) (.slice i t.args.length o) b u) (by simp)
    have t2:=t1.put (g:=w.heap.size+1) (by simp) (fun b u=>aS _ ⟨w.heap.size+1,0,none⟩ b (ab ae 0) u) (by simp)
    exact t2.put (g:=w.heap.size+1+1) (by simp) (fun b u=>aS _ ⟨w.heap.size+1+1,0,none⟩ b (am true) u) (by simp)
   have HZ:=zq l
   have b9:=zq x
   rw [<-Q]
   clear l x Q v b1 S
   refine leaves_cons (f:=60) (args:=#[au (some ⟨w.heap.size,0,none⟩),au (some ⟨w.heap.size+1,0,none⟩),au (some ⟨w.heap.size+1+1,0,none⟩)]) (by simp) (by simp [go_sem]) ?_
   refine (yq _ _ _ _).mono ?_
   rintro e u' B ⟨rfl,rfl,b5⟩
   have a2:=zq (HZ.out.call b5)
   have b8:=zq (b9.out.call b5)
   have cz:=a2.out.b.all
   simp only [PC.cells,ak,an,aA,aU,bd,ap,ar,and_true] at cz
   refine ⟨aK #[aN #[ab ae t.kind,ab ae t.num,aa t.name,.slice i t.args.length o],ab ae 0,am true],by simp [results,Tryz.results34,go_sem,cz],?_⟩
   rw [L.out]
   exact ⟨i,o,X,rfl,a2.out.p,a2.out.s,b8.out.out⟩
  ·skip
   have b7:(q.r.kind != 7)=true:=by simpa using H
   have L:Hid (R=.error m):=zq (by rw [J.out,if_neg H])
   clear H J
   have S:=v.out.b.all
   simp only [PC.cells,ak,an,aA,aU,bd,ap,ar,and_true] at S
   go_wp2_with fail
   refine (sL v.out.p).mono ?_;rintro e Z ⟨rfl,V⟩
   have a:w.heap.size≠w.heap.size+1:=gZ (bY _)
   have D:w.heap.size+1≠w.heap.size+1+1:=gZ (bY _)
   have d:w.heap.size≠w.heap.size+1+1:=gZ (Nat.lt_succ_of_lt (bY _))
   have C:Bk Z (w.heap.size) [ab ae t.kind,ab ae t.num,aa t.name,.slice i t.args.length o]:=v.out.left V 2 rfl
   have N:Bk Z (w.heap.size+1) [ab ae 0]:=v.out.left V 1 rfl
   have O:Bk Z (w.heap.size+1+1) [am false]:=v.out.left V 0 rfl
   show bodyPostD _ _ _ (.panic _) _ _
   refine leaves_cons (f:=60) (args:=#[au (some ⟨w.heap.size,0,none⟩),au (some ⟨w.heap.size+1,0,none⟩),au (some ⟨w.heap.size+1+1,0,none⟩)]) (by simp) (by simp [go_sem]) ?_
   refine (FE _ _ _ (c.E.at m).r.at_ _ _ _ _ _ _ Z C N O a d D).mono ?_
   rintro e u' B ⟨rfl,rfl,y⟩
   have hA:=(v.out.fall V).1.alloc (aI A.out (by have:=C.lt;omega)) (.cells #[ab ae (c.E.at m).r.at_] 124)
   have l:=(ws hA A.out (fM A.out) (fM (fM A.out)) (ab ae 0) (ab ae 0) (aa ⟨#[]⟩) (.slice none 0 0) (ab ae (c.E.at m).r.at_) (am false)).drew
   rw [<-y] at l
   have j2:=((((C.al (.cells #[ab ae (c.E.at m).r.at_] 124)).set 0 (ab ae 0)).set 1 (ab ae 0)).set 2 (aa ⟨#[]⟩)).set 3 (.slice none 0 0)
   have z:Bk B (w.heap.size) [ab ae 0,ab ae 0,aa ⟨#[]⟩,.slice none 0 0]:=by rw [y];exact ((j2.other a 0 (ab ae (c.E.at m).r.at_)).other d 0 (am false)).dr
   have j3:=(((((N.al (.cells #[ab ae (c.E.at m).r.at_] 124)).other a.symm 0 (ab ae 0)).other a.symm 1 (ab ae 0)).other a.symm 2 (aa ⟨#[]⟩)).other a.symm 3 (.slice none 0 0)).set 0 (ab ae (c.E.at m).r.at_)
   have q3:Bk B (w.heap.size+1) [ab ae (c.E.at m).r.at_]:=by rw [y];exact (j3.other D 0 (am false)).dr
   have j4:=((((((O.al (.cells #[ab ae (c.E.at m).r.at_] 124)).other d.symm 0 (ab ae 0)).other d.symm 1 (ab ae 0)).other d.symm 2 (aa ⟨#[]⟩)).other d.symm 3 (.slice none 0 0)).other D.symm 0 (ab ae (c.E.at m).r.at_)).set 0 (am false)
   have q4:Bk B (w.heap.size+1+1) [am false]:=by rw [y];exact j4.dr
   have a3:=z.c 0 _ rfl
   have a4:=z.c 1 _ rfl
   have a5:=z.c 2 _ rfl
   have a6:=z.c 3 _ rfl
   have a7:=q3.c 0 _ rfl
   have a8:=q4.c 0 _ rfl
   exact ⟨aK #[aN #[ab ae 0,ab ae 0,aa ⟨#[]⟩,.slice none 0 0],ab ae (c.E.at m).r.at_,am false],by simp [results,Tryz.results34,go_sem,a3,a4,a5,a6,a7,a8],WOut.bad L.out rfl l⟩
end Go.Proofs.YtlikcjbjibhjgaaGreatDoor
namespace Go.Proofs.YtlikcjbjibhjgaaGreatDoor
open Go.RowKit Hb Go.Shelf
theorem Bu (A:Option Addr) (n a:Nat) (l:List OpR) (w:ai) (b:n=l.length) (c:OpsAt w A l) :
  aJ ah 18 #[.slice A n a] w fun e w'=>e=aw (am (bB l))/\ax w.heap.size w w':=by
 by_cases f:100<n
 ·have g:decide ((100:Int)<n)=true:=by simp;omega
  have d:=zq (kE l (by omega))
  clear b c f
  go_enter Tryz.func18,Tryz.ntmps18
  go_wp2_with fail
  go_ret
  exact ⟨bN d.out.symm,aj _ _⟩
 ·exact mG A n a l w b (by omega) c
theorem uq (f:Option Addr) (on g:Nat) (q u:Int) (c d:Bool) (b:Option Addr) (a h:Nat) (l:List OpR) (n:List (Int×Int)) (w:ai) (F:Tab w f on g l) (G:a=n.length) (H:a<=maxLen) (E:Pairs w b n) :
  aJ ah 32 #[aN #[.slice f on g,ab ae q,ab ae u,am c,am d,.slice b a h]] w fun e w'=>e=aw (am (bB l&&(Ci ⟨q,u,c,d⟩&&jz n)))/\ax w.heap.size w w':=by
 have C:=zq F
 have Q:=zq G
 have R:=zq H
 have P:=zq E
 have o:Hid (ax w.heap.size w (w.alloc (.cells #[.slice f on g,ab ae q,ab ae u,am c,am d,.slice b a h] 32))):=zq ((aj _ _).alloc (ag _) _)
 have B:Hid (Bk (w.alloc (.cells #[.slice f on g,ab ae q,ab ae u,am c,am d,.slice b a h] 32)) w.heap.size [.slice f on g,ab ae q,ab ae u,am c,am d,.slice b a h]):=zq (Bk.new w [.slice f on g,ab ae q,ab ae u,am c,am d,.slice b a h] 32)
 have x:=zq (fun W=>KN ⟨q,u,c,d⟩ W)
 obtain ⟨D,p⟩:=lz (bB l)
 obtain ⟨U,s⟩:=lz (Ci ⟨q,u,c,d⟩)
 obtain ⟨V,v⟩:=lz (jz n)
 rw [<-p.out,<-s.out,<-v.out]
 rw [<-s.out] at x
 unfold MA at x
 have T:Hid (∀W,ax w.heap.size w W->aJ ah 18 #[.slice f on g] W fun e w'=>e=aw (am D)/\ax W.heap.size W w'):=zq fun W A=>by
  have:=Bu f on g l W C.out.len (C.out.ops.below A)
  rwa [<-p.out] at this
 have S:Hid (∀W,ax w.heap.size w W->aJ ah 57 #[.slice b a h] W fun e w'=>e=aw (am V)/\ax W.heap.size W w'):=zq fun W A=>by
  have:=oB b a h n W Q.out R.out (P.out.below A)
  rwa [<-v.out] at this
 clear F G H E p s v
 go_enter Tryz.func32,Tryz.ntmps32
 go_wp2_with fail
 refine (T.out _ o.out).mono ?_;rintro e k ⟨rfl,y⟩
 have r:=bz o y
 have i:=zq (B.out.call y)
 clear y o B
 have I:k.cell? ⟨w.heap.size,0,none⟩=some (.slice f on g):=i.out.c 0 _ rfl
 have J:k.cell? ⟨w.heap.size,1,none⟩=some (ab ae q):=i.out.c 1 _ rfl
 have K:k.cell? ⟨w.heap.size,2,none⟩=some (ab ae u):=i.out.c 2 _ rfl
 have L:k.cell? ⟨w.heap.size,3,none⟩=some (am c):=i.out.c 3 _ rfl
 have M:k.cell? ⟨w.heap.size,4,none⟩=some (am d):=i.out.c 4 _ rfl
 have N:k.cell? ⟨w.heap.size,5,none⟩=some (.slice b a h):=i.out.c 5 _ rfl
 cases D
 ·go_wp2_with fail
  go_ret
  exact ⟨rfl,r.out⟩
 go_wp2_with fail
 refine (x.out _).mono ?_;rintro e m ⟨rfl,z⟩
 have t:=bz r z
 have j:=zq (i.out.call z)
 clear z r i I J K L M N
 have I:m.cell? ⟨w.heap.size,0,none⟩=some (.slice f on g):=j.out.c 0 _ rfl
 have J:m.cell? ⟨w.heap.size,1,none⟩=some (ab ae q):=j.out.c 1 _ rfl
 have K:m.cell? ⟨w.heap.size,2,none⟩=some (ab ae u):=j.out.c 2 _ rfl
 have L:m.cell? ⟨w.heap.size,3,none⟩=some (am c):=j.out.c 3 _ rfl
 have M:m.cell? ⟨w.heap.size,4,none⟩=some (am d):=j.out.c 4 _ rfl
 have N:m.cell? ⟨w.heap.size,5,none⟩=some (.slice b a h):=j.out.c 5 _ rfl
 cases U
 ·go_wp2_with fail
  go_ret
  exact ⟨rfl,t.out⟩
 go_wp2_with fail
 refine (S.out _ t.out).mono ?_;rintro e Y ⟨rfl,X⟩
 have O:=bz t X
 go_wp2_with fail
 go_ret
 exact ⟨rfl,O.out⟩
end Go.Proofs.YtlikcjbjibhjgaaGreatDoor
namespace Hb
open Go Go.RowKit
structure Sy where
 P:List OpR
 q:Int
 u:Int
 c:Bool
 d:Bool
 C:List (Int×Int)
def Sy.ok (s:Sy):Bool:=bB s.P&&(Ci ⟨s.q,s.u,s.c,s.d⟩&&jz s.C)
def Sy.conv (s:Sy):List (Int×Int):=if s.c=true then s.C else []
structure RdR where
 t:Tm
 names:List (List UInt8×Nat)
 singles:List (List UInt8×Nat)
 end_:Int
 where_:Int
 err:Int
def nX (k:Int) (e:Int):RdR:=⟨.mk 0 0 ⟨#[]⟩ [],[],[],0,k,e⟩
def GF (v:VS):List (List UInt8×Nat):=v.m.filter fun p=>v.o.count p.2==1
def xv (E:RE) (t:Tm) (m:Nat):RdR :=
 if cd t=true then ⟨t,(cM E.T m).m,GF (cM E.T m),(E.at m).r.end_,0,0⟩ else nX (E.at 0).r.at_ 2
def vG (E:RE):RdR :=
 match rj E with
 | .error k=>nX (E.at k).r.at_ 7
 | .ok (t,m)=>xv E t m
def li (L:List UInt8) (a:Int) (s:Sy):Bool:=decide (16384<L.length)||(decide (a<0)||(decide ((L.length:Int)<a) || !s.ok))
def iB (L:List UInt8) (a:Int) (s:Sy):AllR:=pZ (cU (jZ s.conv) L) L a.toNat
def tu (L:List UInt8) (a:Int) (s:Sy):RdR :=
 if li L a s=true then nX 0 1
 else if ¬(iB L a s).err=0 then nX (iB L a s).where_ (iB L a s).err
 else vG ⟨(iB L a s).l,s.P,s.q⟩
def NmAt (K:Nat->Prop) (w:ai) (A:Option Addr) (m:List (List UInt8×Nat)):Prop :=
 m.length<=maxLen/\∀j (h:j<m.length),∃b off,A=some ⟨b,off,none⟩/\K b/\w.cell? ⟨b,off+j * 2,none⟩=some (aa ⟨m[j].1.toArray⟩)/\w.cell? ⟨b,off+j * 2+1,none⟩=some (ab ae (m[j].2:Int))
theorem NmAt.keep {K K':Nat->Prop} {w w':ai} {A:Option Addr} {m:List (List UInt8×Nat)} (h:NmAt K w A m) (g:∀b,K b->w'.heap[b]? = w.heap[b]?) (i:∀b,K b->K' b):NmAt K' w' A m:=⟨h.1,fun j k=>by
 obtain ⟨b,l,e,a,d,f⟩:=h.2 j k
 have c:∀o,w'.cell? ⟨b,o,none⟩=w.cell? ⟨b,o,none⟩:=fun o=>World.cell?_of_block (g b a)
 exact ⟨b,l,e,i b a,(c _).trans d,(c _).trans f⟩⟩
theorem NmAt.nil {K:Nat->Prop} {w:ai} {A:Option Addr}:NmAt K w A []:=⟨by decide,fun j h=>absurd h (by simp)⟩
theorem sm:∀(m:List (List UInt8×Nat)) (j:Nat) (h:j<m.length),(iF m)[j * 2]? = some (aa ⟨m[j].1.toArray⟩)/\(iF m)[j * 2+1]? = some (ab ae (m[j].2:Int))
 | p::l,0,_=>⟨rfl,rfl⟩
 | p::l,j+1,h=>by
  have:=sm l j (by simpa using h)
  have e:iF (p::l)=aa ⟨p.1.toArray⟩::ab ae (p.2:Int)::iF l:=rfl
  rw [e,show (j+1) * 2=j * 2+2 by omega,show j * 2+2+1=j * 2+1+2 by omega]
  exact this
theorem NmAt.own {w:ai} {c e:Nat} {A:Option Addr} {n f:Nat} {m:List (List UInt8×Nat)} (h:w.ownsRow c e 2 (.slice A n f) m.length (iF m)):n=m.length/\NmAt (fun b=>c<=b/\b<w.heap.size) w A m:=by
 have x:=h.1
 rcases h.2 with ⟨a,i⟩ | ⟨g,t,v,a,l,o,z,y,rest⟩
 ·have:m=[]:=List.eq_nil_of_length_eq_zero i
  subst this
  injection a with _ a _
  exact ⟨a,NmAt.nil⟩
 ·injection a with hA hn2 _
  subst hA
  refine ⟨hn2,by omega,fun j p=>?_⟩
  obtain ⟨r,s⟩:=sm m j p
  have d:∀k u,(iF m)[k]? = some u->w.cell? ⟨g,0+k,none⟩=some u:=fun k u q=>by
   have:=h.cells (g:=g) rfl k u q
   rw [fC] at this
   exact this
  exact ⟨g,0,rfl,⟨l,(Array.getElem?_eq_some_iff.1 o).1⟩,d _ _ r,d _ _ s⟩
end Hb
