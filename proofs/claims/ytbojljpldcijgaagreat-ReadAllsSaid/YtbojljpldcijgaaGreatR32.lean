/- Parts of the proof. -/
import Derived.Test.YtbojljpldcijgaaGreatR01
import Derived.Test.YtbojljpldcijgaaGreatR30
import Derived.Test.YtbojljpldcijgaaGreatR31
import Derived.Test.YtbojljpldcijgaaGreatR16
set_option maxHeartbeats 12800000
set_option maxRecDepth 100000
set_option linter.unusedSimpArgs false
open Go renaming Value -> aC, World -> au, bodyPost_ret -> aw
open Go.Ending renaming returned -> aD
open Go.IntKind renaming i64 -> ab
open Go.Proofs.Tryz renaming prog -> am
open Go.RowKit.Below renaming refl -> ap
open Go.Value renaming agg -> aV, bool -> av, int -> aa, string -> ac, tuple -> aJ
open List renaming append_nil -> aj, cons_append -> ag, mem_append -> di, mem_cons -> bh, mem_nil_iff -> be, mem_singleton -> aK, nil_append -> ai
open List.Sublist renaming cons_cons -> eA
open Nat renaming add_zero -> bj, le_of_lt -> eX, le_refl -> ae, le_succ -> bm, le_trans -> aQ, reduceAdd -> af, zero_add -> ah
namespace Hb
open Go Go.RowKit
def CM (E:RE) (s:List UInt8) (m:Nat) (wr:Bool) (a:Nat) (b:Bool):Prop:=(b=true/\a=m/\(wr=true\/(wr=false/\dp (E.at m) s=false)))\/(b=false/\wr=false/\dp (E.at m) s=true/\a=m+1)
def jb {α β:Type} (E:RE) (s:List UInt8) (G:α->β):RR (α×Nat)->RR (β×Nat)
 | .error e=>.error e
 | .ok (a,m)=>gy E s m (G a)
theorem kR {α β:Type} {i:RR (α×Nat)} {n m g:Nat} {wr wr2:Bool} {a:α} {E:RE} {s:List UInt8} (G:α->β) (h:AnQ i n (a,m) m wr) (b:CM E s m wr g wr2):AnQ (jb E s G i) n (G a,g) g wr2:=by
 rcases b with ⟨e,rfl,b⟩ | ⟨e,b,j,rfl⟩
 ·refine ⟨h.1,.inl ⟨e,?_⟩⟩
  rcases h.2 with ⟨c,d⟩ | ⟨c,d,f⟩
  ·rw [d];rfl
  ·rcases b with b | ⟨_,b⟩
   ·rw [b] at c;cases c
   ·rw [f];unfold jb gy;simp [b]
 ·have k:=h.1
  rcases h.2 with ⟨c,d⟩ | ⟨c,d,f⟩
  ·rw [b] at c;cases c
  ·exact ⟨by omega,.inr ⟨e,by omega,by rw [f];unfold jb gy;simp [j]⟩⟩
def lF {α:Type} (p:Int):RR (α×Nat)->RR (α×Int×Nat)
 | .error e=>.error e
 | .ok (a,m)=>.ok (a,p,m)
theorem jM {α:Type} {d:RR (α×Nat)} {n m:Nat} {wr:Bool} {a:α} (p:Int) (h:AnQ d n (a,m) m wr):AnQ (lF p d) n (a,p,m) m wr:=by
 refine ⟨h.1,?_⟩
 rcases h.2 with ⟨b,c⟩ | ⟨b,c,e⟩
 ·exact .inl ⟨b,by rw [c];rfl⟩
 ·exact .inr ⟨b,c,by rw [e];rfl⟩
theorem AnQ.from {α:Type} {c:RR α} {n d m:Nat} {wr:Bool} {a:α} (h:AnQ c d a m wr) (f:n<=d):AnQ c n a m wr:=by
 refine ⟨aQ f h.1,?_⟩
 rcases h.2 with b | ⟨b,g,e⟩
 ·exact .inl b
 ·exact .inr ⟨b,by omega,e⟩
theorem AnQ.map {α β:Type} {d:RR α} {n m:Nat} {wr:Bool} {a:α} (G:α->β) (h:AnQ d n a m wr):AnQ (d.map G) n (G a) m wr:=by
 refine ⟨h.1,?_⟩
 rcases h.2 with ⟨b,c⟩ | ⟨b,c,e⟩
 ·exact .inl ⟨b,by rw [c];rfl⟩
 ·exact .inr ⟨b,c,by rw [e];rfl⟩
def yr (E:RE) (s:ByteArray) (b:Bool) (a:Int) (n:Nat):Bool:=b&&(lv E.P s 1&&(decide (((dK E.P s 1).getD jL).prec<=a) && !jo E n))
def vL (E:RE) (S:PT) (t:NextR) (s:ByteArray) (b:Bool) (a:Int) (n:Nat):RR (Tm×Int×Nat) :=
 if qW (E.at n)=true then lF 0 (jb E [41] (ju s) (kN E S (n+1)))
 else if kF E t n=true then .ok (pQ (if (E.at n).r.n=-9223372036854775808 then (E.at n).r.n else -(E.at n).r.n),0,n+1)
 else if yr E s b a n=true then (S (ig ((dK E.P s 1).getD jL)) n).map fun x=>(ju s [x.1],((dK E.P s 1).getD jL).prec,x.2.2)
 else .ok (qj s,0,n)
end Hb
namespace Go.Proofs.YtbojljpldcijgaaGreat
open Go.RowKit Hb
attribute [local go_sem] Oper.semAt_some
theorem ml {c:QC} {m:Nat} {wr:Bool} {a:VV} {w:au} (p:PsQ c m wr (bv c.E.T m) a w) (s:ByteArray):Calls am 109 #[.pointer (some ⟨c.P,0,none⟩),ac s] w fun e w'=>e=aD (aJ #[])/\∃m2 wr2,PsQ c m2 wr2 (bv c.E.T m2) a w'/\StQ c a w a w'/\CM c.E s.data.toList m wr m2 wr2:=by
 cases wr with
 | true=>exact (qo p s).mono fun e w' h=>⟨h.1,m,true,h.2.1,h.2.2,.inl ⟨rfl,rfl,.inl rfl⟩⟩
 | false=>
  cases hc:dp (c.E.at m) s.data.toList with
  | false=>exact (rL p s hc).mono fun e w' h=>⟨h.1,m,true,h.2.1,h.2.2,.inl ⟨rfl,rfl,.inr ⟨rfl,hc⟩⟩⟩
  | true=>exact (qn p s hc).mono fun e w' h=>⟨h.1,m+1,false,PsQ.skip (dP hc) p.n1 h.2.1,h.2.2,.inr ⟨rfl,rfl,hc,rfl⟩⟩
structure RgQ (c:QC) (n:Nat) (wr:Bool) (v:VS) (nv0:VV) (w0:au) (nv:VV) (L:List (Nat×List aC)) (g:Nat) (w:au):Prop where
 wk:Wq c n wr v nv0 w0 nv w L
 rb:∃u0 u1 u2 u3,Bk w g [u0,u1,u2,u3]
 gm:¬c.mine nv g
 gL:∀x∈L,x.1≠g
 gw:w0.heap.size<=g
theorem RgQ.call {c:QC} {n:Nat} {wr:Bool} {v:VS} {d:VV} {w0:au} {b:VV} {L:List (Nat×List aC)} {g:Nat} {w w':au} (h:RgQ c n wr v d w0 b L g w) (a:Below w.heap.size w w'):RgQ c n wr v d w0 b L g w':=by
 obtain ⟨u0,u1,u2,u3,e⟩:=h.rb
 exact ⟨h.wk.call a,⟨u0,u1,u2,u3,e.call a⟩,h.gm,h.gL,h.gw⟩
theorem RgQ.put4 {c:QC} {n:Nat} {wr:Bool} {v:VS} {m:VV} {w0:au} {j:VV} {L:List (Nat×List aC)} {g:Nat} {w:au} (h:RgQ c n wr v m w0 j L g w) (x y z u:aC):RgQ c n wr v m w0 j L g ((((w.setCell ⟨g,0,none⟩ x).setCell ⟨g,1,none⟩ y).setCell ⟨g,2,none⟩ z).setCell ⟨g,3,none⟩ u):=by
 obtain ⟨u0,u1,u2,u3,i⟩:=h.rb
 have d:∀k,k≠g->((((w.setCell ⟨g,0,none⟩ x).setCell ⟨g,1,none⟩ y).setCell ⟨g,2,none⟩ z).setCell ⟨g,3,none⟩ u).heap[k]? = w.heap[k]?:=fun k d=>bH _ _ _ _ _ _ _ d
 have l:∀k,c.mine j k->k≠g:=fun k f e=>h.gm (e ▸ f)
 have q:∀k,k<c.B1->k≠g:=fun k f e=>by have:=h.gw;have:=h.wk.start0;omega
 have r:=h.wk.p.keep (w':=((((w.setCell ⟨g,0,none⟩ x).setCell ⟨g,1,none⟩ y).setCell ⟨g,2,none⟩ z).setCell ⟨g,3,none⟩ u)) (by simp) (fun b f=>d b (l b f)) (fun b i=>d b (q b i))
 refine ⟨⟨r,⟨h.wk.s.os,h.wk.s.tape,h.wk.s.output,by simpa using h.wk.s.size,fun b i f=>(d b (by have:=h.gw;omega)).trans (h.wk.s.block b i f),h.wk.s.own⟩,gM h.wk.low g (aQ h.wk.start0 h.gw) _ _ _ _,⟨fun y a=>?_,h.wk.b.ord⟩,h.wk.off,h.wk.start0⟩,⟨x,y,z,u,(((i.set 0 x).set 1 y).set 2 z).set 3 u⟩,h.gm,h.gL,h.gw⟩
 have o:=h.wk.b.bk y a
 refine o.keeps (d _ ?_)
 rcases di.1 a with a | a
 ·exact h.gL y a
 ·rw [aK] at a;subst a;exact l _ (.inl rfl)
theorem Wq.sub {c:QC} {n:Nat} {wr:Bool} {v:VS} {g:VV} {w0:au} {a:VV} {w:au} {L L':List (Nat×List aC)} (h:Wq c n wr v g w0 a w L) (d:L'.Sublist L):Wq c n wr v g w0 a w L' :=
 ⟨h.p,h.s,h.low,⟨fun x f=>h.b.bk x (by
  rcases di.1 f with e | e
  ·exact List.mem_append_left _ (d.subset e)
  ·exact List.mem_append_right _ e),by
   have i:((L'++[(c.P,c.cells n wr v a)]).map (·.1)).Sublist ((L++[(c.P,c.cells n wr v a)]).map (·.1)):=(d.append (List.Sublist.refl _)).map _
   exact h.b.ord.sublist i⟩,fun x f=>h.off x (d.subset f),h.start0⟩
theorem BY {c:QC} {S:PT} {k n i:Nat} {D:VV} {w:au} (hS:zw c S k) (hk:k<=i) (j1:n<i) (p:PsQ c i false (bv c.E.T i) D w) (t:NextR) (s:ByteArray) (op:Bool) (a2:Int) (j4:t.r.kind=1->(s.toList==[45])=(t.r.text==[45])) (i7:(c.E.at i).r.kind=4->0<=(c.E.at i).r.n\/(c.E.at i).r.n=-9223372036854775808) (j5:stopT (c.E.at i)=(if (c.E.at i).r.kind=7 then true else if (c.E.at i).r.kind=6 then decide (¬(c.E.at i).r.text=[40])&&(decide (¬(c.E.at i).r.text=[91])&&decide (¬(c.E.at i).r.text=[123])) else false)) :
  Calls am 110 #[.pointer (some ⟨c.P,0,none⟩),kk t,ac s,av op,aa ab a2] w (TQ c n D w (vL c.E S t s op a2 i)):=by
 obtain ⟨R,HR⟩:=lz (vL c.E S t s op a2 i)
 rw [<-HR.out]
 have b2:=zq (((Wq.start p).new [aa ab t.r.kind,ac t.txt,aa ab t.r.n,aa ab t.r.at_,aa ab t.r.end_,av t.lay] 76 rfl).new [aa ab 0,aa ab 0,ac ⟨#[]⟩,.slice none 0 0] 30 (g:=w.heap.size+1) (by simp))
 have h6:=zq (fun Y W (h:PsQ c (i+1) false (bv c.E.T (i+1)) Y W)=>xY hS (by omega:k<=i+1) h)
 have HS:=zq (fun (m:Int) Y W (h:PsQ c i false (bv c.E.T i) Y W)=>hS m i Y W hk h)
 have a6:=zq (fun (j:Nat) (hj:j<=1) Y W (h:PsQ c i false (bv c.E.T i) Y W)=>jv h j hj)
 have b6:=zq (fun Y W (h:PsQ c i false (bv c.E.T i) Y W)=>wW h j5)
 have e9:=zq j4
 have b8:=zq i7
 have c0:=zq p.more
 have b7:Hid (i<c.E.T.length/\c.E.T.length<=20000):=zq ⟨p.n1,p.ok.len⟩
 have a9:=zq (show -9223372036854775808<=(c.E.at i).r.n/\(c.E.at i).r.n<=9223372036854775807 from (p.ok.txt _ (by rw [c.E.at_get p.n1];exact List.getElem_mem _)).2)
 have a3:=zq j1
 clear p hS hk j1 j4 i7 j5
 unfold kk at *
 have f7:=b2.out.b.all
 simp only [QC.cells,ag,ai,aj,aH,aP,ah,af,and_true] at f7
 by_cases ho:qW (c.E.at i)=true
 ·have Z:Hid (R=lF 0 (jb c.E [41] (ju s) (kN c.E S (i+1)))):=zq (by rw [HR.out];unfold vL;rw [if_pos ho])
  have HO:=zq ho
  clear ho HR HS b6 e9 b8 a9
  go_enter Tryz.func110,Tryz.ntmps110
  go_wp2_with fail
  refine (a6.out 0 (by omega) D _ b2.out.p).mono ?_;rintro e w1 ⟨rfl,C⟩
  have c9:=zq (b2.out.call C)
  clear C b2 f7
  simp only [bj]
  go_wp2_with fail
  refine (pp (c.E.at i) _).mono ?_;rintro e w2 ⟨rfl,C⟩
  rw [HO.out]
  have b3:=zq (c9.out.call C)
  clear C c9
  have i9:=c0.out (jA (se HO.out))
  have k8:wrap64 ((i:Int)+1)=(i:Int)+1:=jd (by have:=b7.out;omega)
  have a5:=zq (b3.out.inc i9)
  rw [<-fU b7.out.1 (dP (se HO.out))] at a5
  have cc:=b3.out.b.all
  simp only [QC.cells,ag,ai,aj,aH,aP,ah,af,and_true] at cc
  obtain ⟨w3,f6⟩:=lz (w2.setCell ⟨c.P,1,none⟩ (aa ab ((i:Int)+1)))
  rw [<-f6.out] at a5
  clear i9 b3
  go_upto_region 3 with fail
  rw [<-f6.out]
  clear cc k8 f6
  go_wp2_with fail
  refine (h6.out D w3 a5.out.p).mono ?_;rintro e w4 ⟨l,m,wb,A4,c4,y,rfl,hp,hs,ht,d2⟩
  have e7:=zq (a5.out.step hp hs)
  have h8:=zq (Trq.sub (w0:=w) (F:=[w.heap.size+1,w.heap.size]) ht a5.out.s.size (by intro b U;simp only [bh,be,or_false] at U;rcases U with rfl|rfl;exact a5.out.b.lt 0 rfl;exact a5.out.b.lt 1 rfl))
  have g1:=zq d2
  clear hp hs ht d2 a5
  go_wp2_with fail
  refine (ml e7.out.p ⟨#[41]⟩).mono ?_;rintro e w5 ⟨rfl,m2,l0,hp,hs,j0⟩
  have h5:=zq (e7.out.step hp hs)
  have h9:=zq (h8.out.step hs)
  have j6:=zq ((jM 0 (kR (ju s) g1.out j0)).from (by have:=a3.out;omega:n<=i+1))
  clear hp hs j0 e7 h8 g1
  go_wp2_with fail
  refine (iU s _ _ _ _).mono ?_;rintro e w6 ⟨rfl,C⟩
  have d1:=zq (h5.out.call C)
  have k1:=zq (h9.out.call C)
  clear C h5 h9
  have cc:=d1.out.b.all
  simp only [QC.cells,ag,ai,aj,aH,aP,ah,af,and_true] at cc
  go_wp2_with fail
  have O:=d1.out.put4 0 rfl (aa ab 3) (aa ab 0) (ac s) (.slice A4 l.length c4) (bm _)
  have ht:=k1.out.put (g:=w.heap.size+1) (by simp) (fun b U=>bH _ _ (aa ab 3) (aa ab 0) (ac s) (.slice A4 l.length c4) b U) (by simp)
  refine aw (v:=aJ #[aV #[aa ab 3,aa ab 0,ac s,.slice A4 l.length c4],aa ab 0]) (by simp [results,Tryz.results110,go_sem,cc]) rfl ?_
  exact ⟨ju s l,0,m2,l0,A4,c4,y,rfl,O.p,O.s,ht.out,by rw [Z.out];exact j6.out⟩
 ·have Z:Hid (R=if kF c.E t i=true then .ok (pQ (if (c.E.at i).r.n=-9223372036854775808 then (c.E.at i).r.n else -(c.E.at i).r.n),0,i+1) else if yr c.E s op a2 i=true then (S (ig ((dK c.E.P s 1).getD jL)) i).map fun x=>(ju s [x.1],((dK c.E.P s 1).getD jL).prec,x.2.2) else .ok (qj s,0,i)):=zq (by rw [HR.out];unfold vL;rw [if_neg ho])
  have HO:Hid (qW (c.E.at i)=false):=zq (by simpa using ho)
  obtain ⟨B,d6⟩:=lz ((dK c.E.P s 1).getD jL)
  obtain ⟨bP,e3⟩:=lz (lv c.E.P s 1)
  have d5:Hid (∀X Y,PsQ c i false (bv c.E.T i) Y X->Calls am 115 #[.slice c.OA c.on c.oc,aa ab 1,ac s] X fun e w'=>e=aD (aJ #[aV #[ac B.name,aa ab B.typ,aa ab B.prec],av bP])/\Below X.heap.size X w'):=zq fun X Y h=>by
   rw [d6.out,e3.out];exact iy h.tab (by have:=h.ok.few;omega) 1 s
  have c2:Hid (∀X,Calls am 68 #[aV #[ac B.name,aa ab B.typ,aa ab B.prec]] X fun e w'=>e=aD (aJ #[aa ab (kL B),aa ab (ig B)])/\Below X.heap.size X w'):=zq fun X=>qM B X
  obtain ⟨cn,e4⟩:=lz (yr c.E s op a2 i)
  obtain ⟨al,e2⟩:=lz (jo c.E i)
  have c6:Hid (cn=(op&&(bP&&(decide (B.prec<=a2) && !al)))):=zq (by rw [e4.out,e3.out,d6.out,e2.out];rfl)
  rw [<-e4.out,<-d6.out] at Z
  rw [<-e2.out] at b6
  clear ho HR h6 d6 e3 e4 e2
  go_enter Tryz.func110,Tryz.ntmps110
  go_wp2_with fail
  refine (a6.out 0 (by omega) D _ b2.out.p).mono ?_;rintro e w1 ⟨rfl,C⟩
  have c9:=zq (b2.out.call C)
  clear C b2 f7
  simp only [bj]
  go_wp2_with fail
  refine (pp (c.E.at i) _).mono ?_;rintro e w2 ⟨rfl,C⟩
  rw [HO.out]
  have b3:=zq (c9.out.call C)
  clear C c9
  go_wp2_with fail
  refine (a6.out 0 (by omega) D _ b3.out.p).mono ?_;rintro e w5 ⟨rfl,C⟩
  have d1:=zq (b3.out.call C)
  clear C b3 HO
  obtain ⟨z,c8⟩:=lz ((c.E.at i))
  rw [bj,<-c8.out]
  rw [<-c8.out] at c0 a9 Z b8
  have V:=zq (d1.out.new [aa ab z.r.kind,ac z.txt,aa ab z.r.n,aa ab z.r.at_,aa ab z.r.end_,av z.lay] 76 (g:=w5.heap.size) (by simp))
  clear d1
  go_upto_region 7 with fail
  obtain ⟨wb,i0⟩:=lz ((w5.alloc (.cells #[aa ab z.r.kind,ac z.txt,aa ab z.r.n,aa ab z.r.at_,aa ab z.r.end_,av z.lay] 76)))
  obtain ⟨M,g4⟩:=lz (w5.heap.size)
  rw [<-i0.out] at V |-
  rw [<-g4.out] at V |-
  clear i0 g4
  obtain ⟨mi,b9⟩:=lz ((t.r.kind==1&&(s.toList==[45]&&(z.r.kind==4 && !z.lay))))
  have g9:Hid (kF c.E t i=mi):=zq (by
   rw [b9.out,c8.out];unfold kF
   by_cases h:t.r.kind=1
   ·rw [e9.out h]
   ·rw [show (t.r.kind==1)=false by simpa using h];rfl)
  rw [g9.out] at Z
  clear g9 e9
  go_cut [55] from 39 to 55 (fun x wc=>x=av mi/\wc=wb)
  case first=>
   have d7:=V.out.b.all
   simp only [QC.cells,ag,ai,aj,aH,aP,ah,af,and_true] at d7
   have K:=b9.out
   clear Z d5 c2 HS a6 b6 b8 c0 a9 b9 c8 c6 V b7
   obtain ⟨q2,k7⟩:∃q2,(s.toList==[45])=q2:=⟨_,rfl⟩
   rw [k7] at K
   by_cases h1:t.r.kind=1
   ·have b1:(t.r.kind==1)=true:=by simpa using h1
    rw [b1] at K
    clear h1
    cases q2
    ·have N:mi=false:=K
     clear K
     subst N
     go_wp2_with fail
     go_meet
     exact ⟨rfl,rfl⟩
    ·by_cases h4:z.r.kind=4
     ·have b4:(z.r.kind==4)=true:=by simpa using h4
      rw [b4] at K
      clear h4
      have N:mi=!z.lay:=K
      clear K
      subst N
      go_wp2_with fail
      go_meet
      exact ⟨rfl,rfl⟩
     ·have b4:(z.r.kind==4)=false:=by simpa using h4
      rw [b4] at K
      clear h4
      have N:mi=false:=K
      clear K
      subst N
      go_wp2_with fail
      go_meet
      exact ⟨rfl,rfl⟩
   ·have b1:(t.r.kind==1)=false:=by simpa using h1
    rw [b1] at K
    clear h1
    have N:mi=false:=K
    clear K
    subst N
    go_wp2_with fail
    go_meet
    exact ⟨rfl,rfl⟩
  case rest=>
   obtain ⟨rfl,rfl⟩:=hcut
   cases mi
   rotate_left
   ·have K:=b9.out
    have h4:z.r.kind=4:=by simp at K;exact K.2.2.1
    have HV:Hid (R=.ok (pQ (if z.r.n=-9223372036854775808 then z.r.n else -z.r.n),0,i+1)):=zq (by rw [Z.out,if_pos rfl])
    have i8:=c0.out (by rw [h4];decide)
    have HN:=zq (b8.out h4)
    have hi:wrap64 ((i:Int)+1)=(i:Int)+1:=jd (by have:=b7.out;omega)
    have b5:=zq (V.out.inc i8)
    rw [<-fU b7.out.1 (by rw [<-c8.out];exact kd h4 (by decide))] at b5
    clear Z d5 c2 HS a6 b6 b8 c0 h4 K i8 b9 c6
    have d7:=V.out.b.all
    simp only [QC.cells,ag,ai,aj,aH,aP,ah,af,and_true] at d7
    go_upto_region 9 with fail
    obtain ⟨wn,i3⟩:=lz (wc.setCell ⟨c.P,1,none⟩ (aa ab ((i:Int)+1)))
    rw [<-i3.out] at b5 |-
    clear i3 V d7 hi
    have c3:=b5.out.b.all
    simp only [QC.cells,ag,ai,aj,aH,aP,ah,af,and_true] at c3
    by_cases e0:z.r.n<0
    ·have k4:decide (z.r.n<0)=true:=decide_eq_true e0
     have f5:Hid (R=.ok (pQ z.r.n,0,i+1)):=zq (by
      rw [HV.out,if_pos]
      rcases HN.out with h | h
      ·omega
      ·exact h)
     clear e0 HN a9 HV
     go_wp2_with fail
     refine (mj z.r.n _).mono ?_;rintro e d3 ⟨rfl,C⟩
     have L:=zq (b5.out.call C)
     clear C b5 c3
     have a7:=L.out.b.all
     simp only [QC.cells,ag,ai,aj,aH,aP,ah,af,and_true] at a7
     go_wp2_with fail
     have O:=L.out.put4 1 rfl (aa ab 1) (aa ab z.r.n) (ac ⟨#[]⟩) (.slice none 0 0) (bm _)
     refine aw (v:=aJ #[aV #[aa ab 1,aa ab z.r.n,ac ⟨#[]⟩,.slice none 0 0],aa ab 0]) (by simp [results,Tryz.results110,go_sem,a7]) rfl ?_
     exact ⟨pQ z.r.n,0,i+1,false,none,0,D,rfl,O.p,O.s,TmsK.nil,by have:=a3.out;omega,.inr ⟨rfl,by have:=a3.out;omega,f5.out⟩⟩
    ·have k4:decide (z.r.n<0)=false:=decide_eq_false e0
     have f9:¬z.r.n=-9223372036854775808:=by omega
     have f5:Hid (R=.ok (pQ (-z.r.n),0,i+1)):=zq (by rw [HV.out,if_neg f9])
     have f8:=AO a9.out
     rw [if_neg f9] at f8
     have j8:=zq f8
     clear e0 HN a9 HV f9 f8
     go_wp2_with fail
     rw [j8.out]
     refine (mj (-z.r.n) _).mono ?_;rintro e d3 ⟨rfl,C⟩
     have L:=zq (b5.out.call C)
     clear C b5 c3
     have a7:=L.out.b.all
     simp only [QC.cells,ag,ai,aj,aH,aP,ah,af,and_true] at a7
     go_wp2_with fail
     have O:=L.out.put4 1 rfl (aa ab 1) (aa ab (-z.r.n)) (ac ⟨#[]⟩) (.slice none 0 0) (bm _)
     refine aw (v:=aJ #[aV #[aa ab 1,aa ab (-z.r.n),ac ⟨#[]⟩,.slice none 0 0],aa ab 0]) (by simp [results,Tryz.results110,go_sem,a7]) rfl ?_
     exact ⟨pQ (-z.r.n),0,i+1,false,none,0,D,rfl,O.p,O.s,TmsK.nil,by have:=a3.out;omega,.inr ⟨rfl,by have:=a3.out;omega,f5.out⟩⟩
   have c7:Hid (R=if cn=true then (S (ig B) i).map fun x=>(ju s [x.1],B.prec,x.2.2) else .ok (qj s,0,i)):=Z
   clear Z c0 a9 b9 b8
   have c3:=V.out.b.all
   simp only [QC.cells,ag,ai,aj,aH,aP,ah,af,and_true] at c3
   go_wp2_with fail
   refine (d5.out _ D V.out.p).mono ?_;rintro e d3 ⟨rfl,C⟩
   have h2:=zq (V.out.call C)
   clear C V c3 d5
   have L:=zq (h2.out.new [ac B.name,aa ab B.typ,aa ab B.prec] 61 (g:=d3.heap.size) (by simp))
   clear h2
   go_upto_region 13 with fail
   obtain ⟨wd,i1⟩:=lz ((d3.alloc (.cells #[ac B.name,aa ab B.typ,aa ab B.prec] 61)))
   obtain ⟨J,g6⟩:=lz (d3.heap.size)
   rw [<-i1.out] at L |-
   rw [<-g6.out] at L |-
   clear i1 g6
   go_cut [100] from 82 to 100 (fun x wc=>x=av cn/\Hid (Wq c i false (bv c.E.T i) D w D wc [(J,[ac B.name,aa ab B.typ,aa ab B.prec]),(M,[aa ab z.r.kind,ac z.txt,aa ab z.r.n,aa ab z.r.at_,aa ab z.r.end_,av z.lay]),(w.heap.size+1,[aa ab 0,aa ab 0,ac ⟨#[]⟩,.slice none 0 0]),(w.heap.size,[aa ab t.r.kind,ac t.txt,aa ab t.r.n,aa ab t.r.at_,aa ab t.r.end_,av t.lay])]))
   case first=>
    have a7:=L.out.b.all
    simp only [QC.cells,ag,ai,aj,aH,aP,ah,af,and_true] at a7
    have a0:=c6.out
    clear c7 c2 HS c6 b7
    cases op
    ·have N:cn=false:=a0
     clear a0
     subst N
     go_wp2_with fail
     go_meet
     exact ⟨rfl,L⟩
    cases bP
    ·have N:cn=false:=a0
     clear a0
     subst N
     go_wp2_with fail
     go_meet
     exact ⟨rfl,L⟩
    by_cases d9:B.prec<=a2
    ·have hd:decide (B.prec<=a2)=true:=decide_eq_true d9
     rw [hd] at a0
     clear d9
     have N:cn=!al:=a0
     clear a0
     subst N
     go_wp2_with fail
     refine (a6.out 0 (by omega) D _ L.out.p).mono ?_;rintro e l1 ⟨rfl,C⟩
     have e5:=zq (L.out.call C)
     clear C L a7
     rw [bj]
     go_wp2_with fail
     refine (a6.out 1 (by omega) D _ e5.out.p).mono ?_;rintro e l2 ⟨rfl,C⟩
     have e6:=zq (e5.out.call C)
     clear C e5
     go_wp2_with fail
     refine (b6.out D _ e6.out.p).mono ?_;rintro e l3 ⟨rfl,C⟩
     have j9:=zq (e6.out.call C)
     clear C e6
     go_wp2_with fail
     go_meet
     exact ⟨rfl,j9⟩
    ·have hd:decide (B.prec<=a2)=false:=decide_eq_false d9
     rw [hd] at a0
     clear d9
     have N:cn=false:=a0
     clear a0
     subst N
     go_wp2_with fail
     go_meet
     exact ⟨rfl,L⟩
   case rest=>
    obtain ⟨rfl,d0⟩:=hcut
    clear L a6 b6 c6
    cases cn
    ·have HV:Hid (R=.ok (qj s,0,i)):=zq (by rw [c7.out];rfl)
     clear c7 c2 HS
     go_wp2_with fail
     refine (ne s _).mono ?_;rintro e k9 ⟨rfl,C⟩
     have a4:=zq (d0.out.call C)
     clear C d0
     have i5:=a4.out.b.all
     simp only [QC.cells,ag,ai,aj,aH,aP,ah,af,and_true] at i5
     go_wp2_with fail
     have O:=a4.out.put4 2 rfl (aa ab 2) (aa ab 0) (ac s) (.slice none 0 0) (bm _)
     refine aw (v:=aJ #[aV #[aa ab 2,aa ab 0,ac s,.slice none 0 0],aa ab 0]) (by simp [results,Tryz.results110,go_sem,i5]) rfl ?_
     exact ⟨qj s,0,i,false,none,0,D,rfl,O.p,O.s,TmsK.nil,eX a3.out,.inr ⟨rfl,a3.out,HV.out⟩⟩
    ·have j7:Hid (R=(S (ig B) i).map fun x=>(ju s [x.1],B.prec,x.2.2)):=zq (by rw [c7.out];rfl)
     clear c7
     have i4:=d0.out.b.all
     simp only [QC.cells,ag,ai,aj,aH,aP,ah,af,and_true] at i4
     go_wp2_with fail
     refine (c2.out _).mono ?_;rintro e k9 ⟨rfl,C⟩
     have a4:=zq (d0.out.call C)
     clear C d0 i4 c2
     go_wp2_with fail
     refine (HS.out (ig B) D _ a4.out.p).mono ?_;rintro e d4 ⟨u,pu,m,wr,H,I,y,rfl,hp,hs,ht,d2⟩
     have HA:=zq (d2.map (fun x=>(ju s [x.1],B.prec,x.2.2)))
     have h7:=zq (Trq.sub (w0:=w) (F:=[w.heap.size+1]) ht a4.out.s.size (by intro b U;rw [aK] at U;subst U;exact a4.out.b.lt 2 rfl))
     have h3:=zq (a4.out.step hp hs)
     clear hp hs ht d2 a4 HS
     unfold fI
     have Q:=zq (h3.out.new [aa ab u.kind,aa ab u.num,ac u.name,.slice H u.args.length I] 30 (g:=d4.heap.size) rfl)
     have f4:=zq (h7.out.call ((ap d4.heap.size d4).alloc (ae _) (.cells #[aa ab u.kind,aa ab u.num,ac u.name,.slice H u.args.length I] 30)))
     obtain ⟨we,i2⟩:=lz (d4.alloc (.cells #[aa ab u.kind,aa ab u.num,ac u.name,.slice H u.args.length I] 30))
     obtain ⟨G,g8⟩:=lz (d4.heap.size)
     go_upto_region 16 with fail
     rw [<-i2.out] at Q f4 |-
     rw [<-g8.out] at Q |-
     clear h3 h7 i2 g8
     have e8:Hid (RgQ c m wr (bv c.E.T m) D w y [(G,[aa ab u.kind,aa ab u.num,ac u.name,.slice H u.args.length I]),(J,[ac B.name,aa ab B.typ,aa ab B.prec]),(M,[aa ab z.r.kind,ac z.txt,aa ab z.r.n,aa ab z.r.at_,aa ab z.r.end_,av z.lay]),(w.heap.size,[aa ab t.r.kind,ac t.txt,aa ab t.r.n,aa ab t.r.at_,aa ab t.r.end_,av t.lay])] (w.heap.size+1) we):=zq ⟨Q.out.sub (by
       refine eA _ (eA _ (eA _ (List.Sublist.cons _ (List.Sublist.refl _))))),⟨_,_,_,_,Q.out.b.at 3 _ _ rfl⟩,Q.out.off (w.heap.size+1,[aa ab 0,aa ab 0,ac ⟨#[]⟩,.slice none 0 0]) (by simp),by
       have k6:=Q.out.b.ord
       have h4:G > w.heap.size+1/\J > w.heap.size+1/\M > w.heap.size+1:=by
        simp only [ag,ai,List.map_cons,List.map_nil,List.pairwise_cons,bh,be,or_false,forall_eq_or_imp,forall_eq] at k6
        grind
       intro x hx
       simp only [bh,be,or_false] at hx
       rcases hx with rfl|rfl|rfl|rfl <;> simp only <;> omega,bm _⟩
     have a8:Hid (∀X,RgQ c m wr (bv c.E.T m) D w y [(G,[aa ab u.kind,aa ab u.num,ac u.name,.slice H u.args.length I]),(J,[ac B.name,aa ab B.typ,aa ab B.prec]),(M,[aa ab z.r.kind,ac z.txt,aa ab z.r.n,aa ab z.r.at_,aa ab z.r.end_,av z.lay]),(w.heap.size,[aa ab t.r.kind,ac t.txt,aa ab t.r.n,aa ab t.r.at_,aa ab t.r.end_,av t.lay])] (w.heap.size+1) X->X.cell? ⟨G,0,none⟩=some (aa ab u.kind)/\X.cell? ⟨G,1,none⟩=some (aa ab u.num)/\X.cell? ⟨G,2,none⟩=some (ac u.name)/\X.cell? ⟨G,3,none⟩=some (.slice H u.args.length I)/\X.cell? ⟨J,2,none⟩=some (aa ab B.prec)/\RgQ c m wr (bv c.E.T m) D w y [(G,[aa ab u.kind,aa ab u.num,ac u.name,.slice H u.args.length I]),(J,[ac B.name,aa ab B.typ,aa ab B.prec]),(M,[aa ab z.r.kind,ac z.txt,aa ab z.r.n,aa ab z.r.at_,aa ab z.r.end_,av z.lay]),(w.heap.size,[aa ab t.r.kind,ac t.txt,aa ab t.r.n,aa ab t.r.at_,aa ab t.r.end_,av t.lay])] (w.heap.size+1) X):=zq fun X h=>by
      have b0:=h.wk.b.at 0 _ _ rfl
      exact ⟨b0.c 0 _ rfl,b0.c 1 _ rfl,b0.c 2 _ rfl,b0.c 3 _ rfl,(h.wk.b.at 1 _ _ rfl).c 2 _ rfl,h⟩
     have c1:Hid (∀X,(X.cell? ⟨G,0,none⟩=some (aa ab u.kind)/\X.cell? ⟨G,1,none⟩=some (aa ab u.num)/\X.cell? ⟨G,2,none⟩=some (ac u.name)/\X.cell? ⟨G,3,none⟩=some (.slice H u.args.length I)/\X.cell? ⟨J,2,none⟩=some (aa ab B.prec)/\RgQ c m wr (bv c.E.T m) D w y [(G,[aa ab u.kind,aa ab u.num,ac u.name,.slice H u.args.length I]),(J,[ac B.name,aa ab B.typ,aa ab B.prec]),(M,[aa ab z.r.kind,ac z.txt,aa ab z.r.n,aa ab z.r.at_,aa ab z.r.end_,av z.lay]),(w.heap.size,[aa ab t.r.kind,ac t.txt,aa ab t.r.n,aa ab t.r.at_,aa ab t.r.end_,av t.lay])] (w.heap.size+1) X)->RgQ c m wr (bv c.E.T m) D w y [(G,[aa ab u.kind,aa ab u.num,ac u.name,.slice H u.args.length I]),(J,[ac B.name,aa ab B.typ,aa ab B.prec]),(M,[aa ab z.r.kind,ac z.txt,aa ab z.r.n,aa ab z.r.at_,aa ab z.r.end_,av z.lay]),(w.heap.size,[aa ab t.r.kind,ac t.txt,aa ab t.r.n,aa ab t.r.at_,aa ab t.r.end_,av t.lay])] (w.heap.size+1) X):=zq fun X h=>h.2.2.2.2.2
     have g3:Hid (RgQ c m wr (bv c.E.T m) D w y [(G,[aa ab u.kind,aa ab u.num,ac u.name,.slice H u.args.length I]),(J,[ac B.name,aa ab B.typ,aa ab B.prec]),(M,[aa ab z.r.kind,ac z.txt,aa ab z.r.n,aa ab z.r.at_,aa ab z.r.end_,av z.lay]),(w.heap.size,[aa ab t.r.kind,ac t.txt,aa ab t.r.n,aa ab t.r.at_,aa ab t.r.end_,av t.lay])] (w.heap.size+1) we.drew):=zq (e8.out.call (ap _ _).drew)
     have g0:Hid (∀X (o:Obj),RgQ c m wr (bv c.E.T m) D w y [(G,[aa ab u.kind,aa ab u.num,ac u.name,.slice H u.args.length I]),(J,[ac B.name,aa ab B.typ,aa ab B.prec]),(M,[aa ab z.r.kind,ac z.txt,aa ab z.r.n,aa ab z.r.at_,aa ab z.r.end_,av z.lay]),(w.heap.size,[aa ab t.r.kind,ac t.txt,aa ab t.r.n,aa ab t.r.at_,aa ab t.r.end_,av t.lay])] (w.heap.size+1) X->RgQ c m wr (bv c.E.T m) D w y [(G,[aa ab u.kind,aa ab u.num,ac u.name,.slice H u.args.length I]),(J,[ac B.name,aa ab B.typ,aa ab B.prec]),(M,[aa ab z.r.kind,ac z.txt,aa ab z.r.n,aa ab z.r.at_,aa ab z.r.end_,av z.lay]),(w.heap.size,[aa ab t.r.kind,ac t.txt,aa ab t.r.n,aa ab t.r.at_,aa ab t.r.end_,av t.lay])] (w.heap.size+1) (X.alloc o)):=zq fun X o h=>h.call ((ap _ _).alloc (ae _) o)
     have e1:Hid (∀X (o:Obj),RgQ c m wr (bv c.E.T m) D w y [(G,[aa ab u.kind,aa ab u.num,ac u.name,.slice H u.args.length I]),(J,[ac B.name,aa ab B.typ,aa ab B.prec]),(M,[aa ab z.r.kind,ac z.txt,aa ab z.r.n,aa ab z.r.at_,aa ab z.r.end_,av z.lay]),(w.heap.size,[aa ab t.r.kind,ac t.txt,aa ab t.r.n,aa ab t.r.at_,aa ab t.r.end_,av t.lay])] (w.heap.size+1) X->RgQ c m wr (bv c.E.T m) D w y [(G,[aa ab u.kind,aa ab u.num,ac u.name,.slice H u.args.length I]),(J,[ac B.name,aa ab B.typ,aa ab B.prec]),(M,[aa ab z.r.kind,ac z.txt,aa ab z.r.n,aa ab z.r.at_,aa ab z.r.end_,av z.lay]),(w.heap.size,[aa ab t.r.kind,ac t.txt,aa ab t.r.n,aa ab t.r.at_,aa ab t.r.end_,av t.lay])] (w.heap.size+1) (X.alloc o).drew):=zq fun X o h=>(h.call ((ap _ _).alloc (ae _) o)).call (ap _ _).drew
     have h0:Hid (∀X a b c' d,RgQ c m wr (bv c.E.T m) D w y [(G,[aa ab u.kind,aa ab u.num,ac u.name,.slice H u.args.length I]),(J,[ac B.name,aa ab B.typ,aa ab B.prec]),(M,[aa ab z.r.kind,ac z.txt,aa ab z.r.n,aa ab z.r.at_,aa ab z.r.end_,av z.lay]),(w.heap.size,[aa ab t.r.kind,ac t.txt,aa ab t.r.n,aa ab t.r.at_,aa ab t.r.end_,av t.lay])] (w.heap.size+1) X->RgQ c m wr (bv c.E.T m) D w y [(G,[aa ab u.kind,aa ab u.num,ac u.name,.slice H u.args.length I]),(J,[ac B.name,aa ab B.typ,aa ab B.prec]),(M,[aa ab z.r.kind,ac z.txt,aa ab z.r.n,aa ab z.r.at_,aa ab z.r.end_,av z.lay]),(w.heap.size,[aa ab t.r.kind,ac t.txt,aa ab t.r.n,aa ab t.r.at_,aa ab t.r.end_,av t.lay])] (w.heap.size+1) ((((X.setCell ⟨w.heap.size+1,0,none⟩ a).setCell ⟨w.heap.size+1,1,none⟩ b).setCell ⟨w.heap.size+1,2,none⟩ c').setCell ⟨w.heap.size+1,3,none⟩ d)):=zq fun X a b c' d h=>h.put4 a b c' d
     have k0:=zq (fun (A:Option Addr) (m k3:Nat) (W:au)=>iU s A m k3 W)
     have cc:=Q.out.b.all
     simp only [QC.cells,ag,ai,aj,aH,aP,ah,af,and_true] at cc
     go_region_held3 (fun X=>X.cell? ⟨G,0,none⟩=some (aa ab u.kind)/\X.cell? ⟨G,1,none⟩=some (aa ab u.num)/\X.cell? ⟨G,2,none⟩=some (ac u.name)/\X.cell? ⟨G,3,none⟩=some (.slice H u.args.length I)/\X.cell? ⟨J,2,none⟩=some (aa ab B.prec)/\RgQ c m wr (bv c.E.T m) D w y [(G,[aa ab u.kind,aa ab u.num,ac u.name,.slice H u.args.length I]),(J,[ac B.name,aa ab B.typ,aa ab B.prec]),(M,[aa ab z.r.kind,ac z.txt,aa ab z.r.n,aa ab z.r.at_,aa ab z.r.end_,av z.lay]),(w.heap.size,[aa ab t.r.kind,ac t.txt,aa ab t.r.n,aa ab t.r.at_,aa ab t.r.end_,av t.lay])] (w.heap.size+1) X)
      (first
       | with_reducible exact a8.out _ g3.out
       | with_reducible exact a8.out _ (RgQ.call (c1.out _ (by with_reducible assumption)) (by with_reducible assumption))
       | with_reducible exact a8.out _ (g0.out _ _ (c1.out _ (by with_reducible assumption)))
       | with_reducible exact a8.out _ (e1.out _ _ e8.out)
       | with_reducible exact a8.out _ (e1.out _ _ (c1.out _ (by with_reducible assumption)))
       | with_reducible exact a8.out _ (h0.out _ _ _ _ _ (c1.out _ (by with_reducible assumption)))
       | fail)
      (first
       | (go_at_call 69;(with_reducible refine (k0.out _ _ _ _).mono ?_);rintro e wS ⟨rfl,d8⟩;(have i6:=RgQ.call (c1.out _ (by with_reducible assumption)) d8);(obtain ⟨q0,q1,q2,q3,a1⟩:=i6.rb);have r0:=a1.c 0 _ rfl;have r1:=a1.c 1 _ rfl;have r2:=a1.c 2 _ rfl;have r3:=a1.c 3 _ rfl;have f0:=a1.f 0;have f1:=a1.f 1;have f2:=a1.f 2;have f3:=a1.f 3;have k5:=a1.lt)
       | fail)
     all_goals
      have hX:=((ap we.heap.size we).alloc (ae _) (.cells #[aa ab u.kind,aa ab u.num,ac u.name,.slice H u.args.length I] 30)).drew.trans (d8.mono (by simp [World.drew]))
      have O:=(Q.out.call hX).put4 3 rfl (aa ab 3) (aa ab 0) (ac s) (.slice (some ⟨we.heap.size,0,none⟩) 1 1) (bm _)
      have j2:=Trq.row Q.out.p Q.out.s.size (F:=[w.heap.size+1]) (by intro b U;rw [aK] at U;subst U;exact Q.out.b.lt 3 rfl) 30 [(u,H,I)] (by simp [maxLen]) (by intro q hq;rw [aK] at hq;subst hq;exact f4.out)
      have j3:=(j2.call (ap _ _).drew).call d8
      have k2:=zq (j3.put (g:=w.heap.size+1) (by simp) (fun b U=>bH _ _ (aa ab 3) (aa ab 0) (ac s) (.slice (some ⟨we.heap.size,0,none⟩) 1 1) b U) (by simp))
      have HZ:=zq O
      clear hX O j2 j3 i6 d8 cc Q f4 e8 a8 c1 g3 g0 e1 h0
      go_wp2_with fail
      refine aw (v:=aJ #[aV #[aa ab 3,aa ab 0,ac s,.slice (some ⟨we.heap.size,0,none⟩) 1 1],aa ab B.prec]) (by simp [results,Tryz.results110,go_sem,r0,r1,r2,r3,k5]) rfl ?_
      exact ⟨ju s [u],B.prec,m,wr,_,_,y,rfl,HZ.out.p,HZ.out.s,k2.out.out,by rw [j7.out];exact HA.out.from (eX a3.out)⟩
end Go.Proofs.YtbojljpldcijgaaGreat
