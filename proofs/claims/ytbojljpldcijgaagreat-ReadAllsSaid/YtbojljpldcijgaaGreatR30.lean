/- Parts of the proof. -/
import Derived.Test.YtbojljpldcijgaaGreatR01
import Derived.Test.YtbojljpldcijgaaGreatR26
import Derived.Test.YtbojljpldcijgaaGreatR27
import Derived.Test.YtbojljpldcijgaaGreatR29
import Derived.Test.YtbojljpldcijgaaGreatR12
set_option maxHeartbeats 12800000
set_option maxRecDepth 100000
set_option linter.unusedSimpArgs false
open Go renaming World -> au
open Go.IntKind renaming i64 -> ab
open Go.Proofs.Tryz renaming prog -> am
open Go.RowKit.Below renaming refl -> ap
open Go.Value renaming int -> aa, ownBlock -> eJ, slice -> dc, string -> ac
open List renaming append_nil -> aj, cons_append -> ag, length_map -> bZ, mem_singleton -> aK, nil_append -> ai, set_cons_zero -> an
open Nat renaming le_refl -> ae, lt_of_lt_of_le -> aA, reduceAdd -> af, zero_add -> ah
namespace Hb
open Go Go.RowKit
def lG (E:RE) (S:PT) (a:List Tm) (j m:Nat):RR (List Tm×Nat):=if dp (E.at m) [44]=true then rZ a (qp E S j (m+1)) else .ok (a,m)
theorem sU (E:RE) (S:PT) (k n:Nat) {t:Tm} {p:Int} {m:Nat} (h:S 999 n=.ok (t,p,m)):qp E S (k+1) n=lG E S [t] k m:=by
 rw [kO,h];rfl
theorem ut (E:RE) (S:PT) (a:List Tm) (k m:Nat) (b:dp (E.at m) [44]=true) {t:Tm} {p:Int} {i:Nat} (h:S 999 (m+1)=.ok (t,p,i)):lG E S a (k+1) m=lG E S (a++[t]) k i:=by
 unfold lG
 rw [if_pos b,kO,h]
 simp only
 split
 ·rw [tg]
 ·rfl
theorem wZ (E:RE) (S:PT) (a:List Tm) (k m:Nat) (b:dp (E.at m) [44]=true) {i:Nat} (h:S 999 (m+1)=.error i):lG E S a (k+1) m=.error i:=by
 unfold lG
 rw [if_pos b,kO,h]
 rfl
theorem wY (E:RE) (S:PT) (a:List Tm) (k m:Nat) (b:dp (E.at m) [44]=false):lG E S a k m=.ok (a,m):=by
 unfold lG
 rw [b,if_neg (by simp)]
def AnQ {α:Type} (R:RR α) (n:Nat) (a:α) (m:Nat) (wr:Bool):Prop:=n<=m/\((wr=true/\R=.error m)\/(wr=false/\n<m/\R=.ok a))
end Hb
namespace Go.Proofs.YtbojljpldcijgaaGreat
open Go.RowKit Hb
attribute [local go_sem] Oper.semAt_some
def TQ (c:QC) (n:Nat) (b:VV) (w0:au) (R:RR (Tm×Int×Nat)) (e:Ending) (w':au):Prop :=
 ∃(t:Tm) (p:Int) (m:Nat) (wr:Bool) (A:Option Addr) (a:Nat) (y:VV),e=.returned (.tuple #[fI t A a,aa ab p])/\PsQ c m wr (bv c.E.T m) y w'/\StQ c b w0 y w'/\TmsK (c.new y w0 w') w' A t.args/\AnQ R n (t,p,m) m wr
def RQ (c:QC) (n:Nat) (b:VV) (w0:au) (R:RR (List Tm×Nat)) (e:Ending) (w':au):Prop :=
 ∃(l:List Tm) (m:Nat) (wr:Bool) (A:Option Addr) (a:Nat) (y:VV),e=.returned (.slice A l.length a)/\PsQ c m wr (bv c.E.T m) y w'/\StQ c b w0 y w'/\TmsK (c.new y w0 w') w' A l/\AnQ R n (l,m) m wr
def zw (c:QC) (S:PT) (k:Nat):Prop:=∀(a:Int) (n:Nat) (b:VV) (w:au),k<=n->PsQ c n false (bv c.E.T n) b w->Calls am 39 #[.pointer (some ⟨c.P,0,none⟩),aa ab a] w (TQ c n b w (S a n))
theorem PsQ.skip {c:QC} {n:Nat} {wr:Bool} {a:VV} {w:au} (b:mB (c.E.at n)=false) (d:n<c.E.T.length) (p:PsQ c (n+1) wr (bv c.E.T n) a w):PsQ c (n+1) wr (bv c.E.T (n+1)) a w:=by rw [fU d b];exact p
theorem OwnQ.put {c:QC} {i:VV} {w0 w w':au} {F:List Nat} {v:Value} {rs:List TR} (h:OwnQ c i w0 w F v rs) {g:Nat} (f:g∈F) (d:∀k,k≠g->w'.heap[k]? = w.heap[k]?) (m:w.heap.size<=w'.heap.size):OwnQ c i w0 w' F v rs :=
 ⟨dJ h.own fun k j=>d k (fun e=>(h.off k j).2 (e ▸ f)),h.off,fun r l=>(h.sub r l).keep (fun b a=>d b (fun e=>a.1.2 (e ▸ f))) fun _ a=>⟨⟨⟨a.1.1.1,aA a.1.1.2.1 m,a.1.1.2.2⟩,a.1.2⟩,a.2⟩⟩
theorem OwnQ.lit {c:QC} {n:Nat} {wr:Bool} {v:VS} {f:VV} {w0 w:au} {F:List Nat} (p:PsQ c n wr v f w) (o:w0.heap.size<=w.heap.size) (k:∀b∈F,b<w.heap.size) (r:TR) (m:Trq c f w0 w F r.2.1 r.1.args):OwnQ c f w0 (w.alloc (.cells (fL r).toArray 30)) F (.slice (some ⟨w.heap.size,0,none⟩) 1 1) [r]:=by
 have h:Below w.heap.size w (w.alloc (.cells (fL r).toArray 30)):=(ap _ _).alloc (ae _) _
 refine ⟨?_,fun g l=>?_,fun q i=>?_⟩
 ·have j:dM [r]=(fL r).toArray.toList:=by unfold dM;simp
  rw [j]
  exact World.ownsRow_lit w (fL r).toArray 1 o (by unfold maxLen;omega) rfl
 ·have e:w.heap.size=g:=by simpa [eJ] using l
  subst e
  exact ⟨fun d=>by have:=p.lts d;omega,fun d=>by have:=k _ d;omega⟩
 ·rw [aK] at i
  subst i
  refine m.keep (fun b a=>h.block b a.1.2.1) fun b a=>⟨⟨⟨a.1.1,aA a.1.2.1 h.size,a.1.2.2⟩,a.2⟩,fun e=>?_⟩
  have s:w.heap.size=b:=by simpa [eJ] using e
  have:=a.1.2.1
  omega
theorem xY {c:QC} {S:PT} {k n:Nat} {Q:VV} {w:au} (hS:zw c S k) (N:k<=n) (p:PsQ c n false (bv c.E.T n) Q w) :
  Calls am 111 #[.pointer (some ⟨c.P,0,none⟩)] w (RQ c n Q w (kN c.E S n)):=by
 obtain ⟨R,HR⟩:=lz (kN c.E S n)
 rw [<-HR.out]
 have HS:=zq hS
 have b9:=zq (Wq.start p)
 have HK:=zq N
 have b5:=zq p.ok.len
 obtain ⟨O,b4⟩:∃O,Hid (c.E.T.length=O+1):=⟨c.E.T.length-1,zq (by have:=p.ok.pos;omega)⟩
 have hC:=hS 999 n Q w N p
 clear p hS N
 go_enter Tryz.func111,Tryz.ntmps111
 go_wp2_with fail
 refine hC.mono ?_;rintro e d ⟨t,pr,m,wb,q,D,y,rfl,d5,e0,e2,a9⟩
 clear hC
 have r:Hid (n<=m/\((wb=true/\R=.error m)\/(wb=false/\n<m/\R=lG c.E S [t] O m))):=zq (by
  refine ⟨a9.1,?_⟩
  rw [HR.out];unfold kN;rw [b4.out]
  rcases a9.2 with ⟨F,J⟩ | ⟨F,J,h3⟩
  ·exact .inl ⟨F,by rw [kO,J]⟩
  ·exact .inr ⟨F,J,sU c.E S O n h3⟩)
 have a4:=zq (b9.out.step d5 e0)
 have c6:Hid (Trq c y w d [] q t.args):=zq (e2.keep (fun _ _=>rfl) fun b f=>⟨f,by simp⟩)
 clear d5 e0 e2 a9 b9 HR
 obtain ⟨wa,L⟩:=lz (d.alloc (.cells #[aa ab t.kind,aa ab t.num,ac t.name,.slice q t.args.length D] 30))
 have A:=zq (a4.out.new [aa ab t.kind,aa ab t.num,ac t.name,.slice q t.args.length D] 30 (g:=d.heap.size) rfl)
 have a6:=zq (c6.out.new (.cells #[aa ab t.kind,aa ab t.num,ac t.name,.slice q t.args.length D] 30) (g:=d.heap.size) rfl)
 rw [<-L.out] at a6
 have A:Hid (Wq c m wb (bv c.E.T m) Q w y wa [(d.heap.size,[aa ab t.kind,aa ab t.num,ac t.name,.slice q t.args.length D])]):=zq (by rw [L.out];exact A.out)
 have d4:d.heap.size<wa.heap.size:=by rw [L.out];simp
 have HG:Hid (w.heap.size<=d.heap.size):=zq a4.out.s.size
 have HO:=zq (OwnQ.lit A.out.p A.out.s.size (by intro b f;rw [aK] at f;subst f;exact d4) (t,q,D) a6.out)
 have c4:=zq (A.out.call ((ap _ _).alloc (ae _) (.cells (fL (t,q,D)).toArray 30)))
 have cb:=A.out.b.all
 simp only [QC.cells,ag,ai,aj,aH,aP,ah,af,and_true] at cb
 clear a4 c6 a6 A d4
 unfold fI
 go_upto_region 2 with fail
 rw [<-L.out]
 clear L
 go_wp2_with fail
 clear cb
 go_loopw [5] (fun v5 wr=>∃(a:Nat) (U:Bool) (H:VV) (rs:List TR) (j:Nat) (u0 u1 u2 u3:Value),n<=a/\rs.length<=a+1/\c.E.T.length<=a+j+1/\Hid (Wq c a U (bv c.E.T a) Q w H wr [(d.heap.size,[u0,u1,u2,u3])])/\Hid (OwnQ c H w wr [d.heap.size] v5 rs)/\Hid ((U=true/\R=.error a)\/(U=false/\n<a/\R=lG c.E S (rs.map (·.1)) j a))) (fun _ wr=>match wr.cell? ⟨c.P,1,none⟩ with | some (aa _ i)=>c.E.T.length-i.toNat | _=>0)
 case atStart=>exact ⟨m,wb,y,[(t,q,D)],O,_,_,_,_,r.out.1,by simp,by have:=b4.out;omega,c4,HO,zq r.out.2⟩
 case round=>
  obtain ⟨a,U,H,rs,j,u0,u1,u2,u3,b2,d9,hj,z,X,W⟩:=hrel
  obtain ⟨V,c3,f6,e3⟩:=X.out.tms
  subst f6
  have a7:=zq e3
  clear e3 HO c4
  have M:=z.out.b.all
  simp only [QC.cells,ag,ai,aj,aH,aP,ah,af,and_true] at M
  cases U with
  | true=>
   have K:Hid (R=.error a):=zq (by
    rcases W.out with h | h
    ·exact h.2
    ·exact absurd h.1 (by simp))
   clear X W
   go_wp2_with fail
   go_ret
   exact ⟨rs.map (·.1),a,true,V,c3,H,by rw [bZ];rfl,z.out.p,z.out.s,a7.out.out,b2,.inl ⟨rfl,K.out⟩⟩
  | false=>
   have K:Hid (n<a/\R=lG c.E S (rs.map (·.1)) j a):=zq (by
    rcases W.out with h | h
    ·exact absurd h.1 (by simp)
    ·exact h.2)
   have d7:wr.cell? ⟨c.P,1,none⟩=some (aa ab (a:Int)):=z.out.p.bk.c 1 _ rfl
   have e9:=zq d7
   have u:=zq (⟨b2,d9,hj⟩:_/\_/\_)
   clear W b2 d9 hj d7
   go_wp2_with fail
   refine (jv z.out.p 0 (by omega)).mono ?_;rintro e w5 ⟨rfl,a0⟩
   have c5:=zq (z.out.call a0)
   have b6:=zq (X.out.call a0)
   have c7:=zq (a7.out.call a0)
   clear a0 z X a7 M
   simp only [Nat.add_zero]
   go_wp2_with fail
   refine (gf (c.E.at a) ⟨#[44]⟩ _).mono ?_;rintro e w6 ⟨rfl,a1⟩
   have B:=zq (c5.out.call a1)
   have b7:=zq (b6.out.call a1)
   have d0:=zq (c7.out.call a1)
   clear a1 c5 b6 c7
   have d3:(⟨#[44]⟩:ByteArray).data.toList=[44]:=rfl
   rw [d3]
   clear d3
   cases hc:dp (c.E.at a) [44]
   ·have f1:Hid (R=.ok (rs.map (·.1),a)):=zq (by rw [K.out.2,wY _ _ _ _ _ hc])
    clear hc
    go_wp2_with fail
    go_ret
    exact ⟨rs.map (·.1),a,false,V,c3,H,by rw [bZ];rfl,B.out.p,B.out.s,d0.out.out,u.out.1,.inr ⟨rfl,K.out.1,f1.out⟩⟩
   ·have e5:=dP hc
    have b1:=B.out.p.more (jA hc)
    have d2:=fU B.out.p.n1 e5
    obtain ⟨i,rfl⟩:∃i,j=i+1:=⟨j-1,by have:=u.out;omega⟩
    have HC:=zq hc
    have f7:wrap64 ((a:Int)+1)=(a:Int)+1:=jd (by have:=b5.out;omega)
    have HM:=zq b1
    have C:=zq (B.out.inc b1)
    rw [<-d2] at C
    have Y:=zq (b7.out.step ((StQ.refl c H w6).put 1 (aa ab ((a:Int)+1))))
    have M:=B.out.b.all
    simp only [QC.cells,ag,ai,aj,aH,aP,ah,af,and_true] at M
    obtain ⟨w7,a8⟩:=lz (w6.setCell ⟨c.P,1,none⟩ (aa ab ((a:Int)+1)))
    rw [<-a8.out] at C Y
    clear e5 b1 d2 hc B b7 d0
    go_upto_region 5 with fail
    rw [<-a8.out]
    clear M f7 a8
    go_wp2_with fail
    refine (HS.out 999 (a+1) H w7 (by have:=HK.out;have:=u.out;omega) C.out.p).mono ?_;rintro e w8 ⟨l,p2,G,a2,o,v,y2,rfl,d6,b3,e4,b0⟩
    have r:Hid (a+1<=G/\((a2=true/\R=.error G)\/(a2=false/\n<G/\R=lG c.E S ((rs++[((l,o,v):TR)]).map (·.1)) i G))):=zq (by
     refine ⟨b0.1,?_⟩
     rw [K.out.2]
     rcases b0.2 with ⟨F,J⟩ | ⟨F,J,h3⟩
     ·exact .inl ⟨F,wZ _ _ _ _ _ HC.out J⟩
     ·refine .inr ⟨F,?_,?_⟩
      ·have:=u.out;omega
      ·rw [List.map_append];exact ut _ _ _ _ _ HC.out h3)
    have a5:=zq (C.out.step d6 b3)
    have b8:=zq (Y.out.step b3)
    have f5:d.heap.size<w7.heap.size:=C.out.b.lt 0 rfl
    have e1:=C.out.s.size
    have d1:Hid (TmsK (fun b=>(c.new y2 w w8 b/\b ∉ [d.heap.size])/\(dc V rs.length c3).ownBlock≠some b) w8 o l.args):=zq (e4.keep (fun _ _=>rfl) fun b f=>⟨⟨⟨Nat.le_trans e1 f.1,f.2⟩,fun e=>by
     rw [aK] at e
     have:=f.1;omega⟩,fun e=>by
     have:=(Y.out.own.lt b e).2;have:=f.1;omega⟩)
    have I:=zq (a5.out.put4 0 rfl (aa ab l.kind) (aa ab l.num) (ac l.name) (.slice o l.args.length v) HG.out)
    have a3:=zq (b8.out.put (w':=(((w8.setCell ⟨d.heap.size,0,none⟩ (aa ab l.kind)).setCell ⟨d.heap.size,1,none⟩ (aa ab l.num)).setCell ⟨d.heap.size,2,none⟩ (ac l.name)).setCell ⟨d.heap.size,3,none⟩ (.slice o l.args.length v)) (aK.2 rfl) (fun k N=>bH _ _ _ _ _ _ _ N) (by simp))
    have c8:=a5.out.b.all
    simp only [QC.cells,ag,ai,aj,aH,aP,ah,af,and_true] at c8
    clear d6 b3 e4 b0 f5 e1 C Y b8
    obtain ⟨w9,Z⟩:=lz ((((w8.setCell ⟨d.heap.size,0,none⟩ (aa ab l.kind)).setCell ⟨d.heap.size,1,none⟩ (aa ab l.num)).setCell ⟨d.heap.size,2,none⟩ (ac l.name)).setCell ⟨d.heap.size,3,none⟩ (.slice o l.args.length v))
    have f4:Hid (TmsK (fun b=>(c.new y2 w w9 b/\b ∉ [d.heap.size])/\(dc V rs.length c3).ownBlock≠some b) w9 o l.args):=zq (by rw [Z.out];exact d1.out.keep (fun b f=>bH _ _ _ _ _ _ _ (fun e=>f.1.2 (aK.2 e))) fun b f=>⟨⟨⟨f.1.1.1,by simpa using f.1.1.2.1,f.1.1.2.2⟩,f.1.2⟩,f.2⟩)
    clear d1
    rw [<-Z.out] at I a3
    unfold fI
    go_upto_region 6 with fail
    rw [<-Z.out]
    clear c8 a5 Z
    have c9:=I.out.b.all
    simp only [an,QC.cells,ag,ai,aj,aH,aP,ah,af,and_true] at c9
    have f3:Hid (w.heap.size<=w9.heap.size):=zq I.out.s.size
    have e7:Hid (d.heap.size<w9.heap.size):=zq (I.out.b.lt 0 rfl)
    have f2:Hid (rs.length<=100000):=zq (by have:=u.out;have:=b5.out;have:=HM.out;omega)
    go_wp2_with (at_builtin;go_must (refine nJ rfl _ _ rfl c G a2 _ y2 w [d.heap.size] _ rs rfl a3.out I.out.p f3.out (by intro b f;rw [aK] at f;subst f;exact e7.out) (l,o,v) f4.out _ rfl rfl rfl f2.out ?_;intro f9 f8 e8 e6;have c0:=zq ((I.out.call ((ap _ _).alloc (ae _) (.cells (fL (l,o,v)).toArray 30))).grown (a3.out.call ((ap _ _).alloc (ae _) (.cells (fL (l,o,v)).toArray 30))) (by intro x hx;simp only [an,aK] at hx |-;subst hx;rfl) e6.out)))
    have d8:f8.cell? ⟨c.P,1,none⟩=some (aa ab (G:Int)):=c0.out.p.bk.c 1 _ rfl
    have f0:=zq d8
    clear d8 c9
    go_roundw
    case rel=>exact ⟨G,a2,y2,rs++[(l,o,v)],i,_,_,_,_,by have:=r.out.1;have:=u.out;omega,by have:=r.out.1;have:=u.out;simp;omega,by have:=r.out.1;have:=u.out;omega,c0,e8,zq r.out.2⟩
    case measure=>rw [f0.out,e9.out];have:=r.out.1;have:=HM.out;simp;omega
end Go.Proofs.YtbojljpldcijgaaGreat
