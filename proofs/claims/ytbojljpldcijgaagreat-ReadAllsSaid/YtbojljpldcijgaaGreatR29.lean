/- Parts of the proof. -/
import Derived.Test.YtbojljpldcijgaaGreatR01
import Derived.Test.YtbojljpldcijgaaGreatR27
import Derived.Test.YtbojljpldcijgaaGreatR28
set_option maxHeartbeats 12800000
set_option maxRecDepth 100000
set_option linter.unusedSimpArgs false
open Go renaming bodyPost_ret -> aw
open Go.IntKind renaming i64 -> ab, i64 -> dN
open Go.Value renaming int -> aa, int -> dA, slice -> dc, string -> ac
open List renaming append_nil -> aj, cons_append -> ag, length_append -> bC, length_map -> bZ, nil_append -> ai, set_cons_succ -> ao, set_cons_zero -> an
open Nat renaming reduceAdd -> af, zero_add -> ah
namespace Hb
open Go Go.RowKit
theorem sa {w:World} {c e size:Nat} {v:Value} {n:Nat} {f:List Value} (h:w.ownsRow c e size v n f):∃A a,v=.slice A n a/\(0<n->∃g,A=some ⟨g,0,none⟩):=by
 rcases h.2 with ⟨b,d⟩ | ⟨g,a,i,b,j⟩
 ·exact ⟨none,0,by rw [b,d],fun h=>by omega⟩
 ·exact ⟨some ⟨g,0,none⟩,a,b,fun _=>⟨g,rfl⟩⟩
theorem zO {a b:ByteArray} (h:a.data.toList=b.data.toList):(a.toList==b.toList)=true:=by rw [jW,jW,h];simp
theorem Bc {a b:ByteArray} (h:¬a.data.toList=b.data.toList):(a.toList==b.toList)=false:=by rw [jW,jW];simpa using h
theorem vQ {a:ByteArray} {l:List UInt8} (h:a.data.toList=l):(a.toList==l)=true:=by rw [jW,h];simp
theorem yO {a:ByteArray} {l:List UInt8} (h:¬a.data.toList=l):(a.toList==l)=false:=by rw [jW];simpa using h
theorem AP {k:Nat} (h:k<=100000):wrap64 ((k:Int)+1)=(k:Int)+1:=IntWalk.wrap64_in _ (by omega)
end Hb
namespace Go.Proofs.YtbojljpldcijgaaGreat
open Go.RowKit Hb
attribute [local go_sem] Oper.semAt_some
theorem sS {c:QC} {n:Nat} {v:VS} {z:VV} {w:World} (p:PsQ c n false v z w) (hv:v.Nice) (s:ByteArray) (b0:v.o.length+1<=n) :
  Calls Tryz.prog 106 #[.pointer (some ⟨c.P,0,none⟩),ac s] w fun e w'=>e=.returned (.agg #[aa ab 0,aa ab (v.num s.data.toList:Nat),ac ⟨#[]⟩,.slice none 0 0])/\∃y1 y2,PsQ c n false (v.step s.data.toList) (y1,y2) w'/\StQ c z w (y1,y2) w':=by
 obtain ⟨z1,z2⟩:=z
 obtain ⟨J,c1,a3,c0⟩:=sa p.nm
 obtain ⟨K,c2,a4,c3⟩:=sa p.om
 have a3:z1=.slice J v.m.length c1:=a3
 have a4:z2=.slice K v.m.length c2:=a4
 subst a3 a4
 obtain ⟨x,C⟩:=lz (s.data.toList)
 rw [<-C.out]
 have G:=zq hv
 have T:=zq b0
 have F:Hid (v.m.length<=20000/\n<=20000/\v.c<=20000):=zq (by have:=p.vc.mo;have:=p.vc.co;have:=p.n1;have:=p.ok.len;omega)
 have X:=zq p.n1
 have b3:=zq (Pq.of ((Wq.start p).new [aa ab 0,aa ab 0,ac ⟨#[]⟩,.slice none 0 0] 30 rfl) p (by intro y hy;simp only [List.mem_cons,List.mem_nil_iff,or_false] at hy;subst hy;exact Nat.le_refl _))
 clear p hv b0 c0
 go_enter Tryz.func106,Tryz.ntmps106
 go_wp2_with fail
 go_loopw [5] (fun iv wr=>∃j:Nat,iv=aa ab (j:Int)/\j<=v.m.length/\Hid (x=[95]\/∀i (E:i<v.m.length),i<j->¬v.m[i].1=x)/\Hid (Pq c (c.cells n false v (.slice J v.m.length c1,.slice K v.m.length c2)) (.slice J v.m.length c1,.slice K v.m.length c2) v.m (ec v) (.slice J v.m.length c1,.slice K v.m.length c2) w [(w.heap.size,[aa ab 0,aa ab 0,ac ⟨#[]⟩,.slice none 0 0])] wr)) (fun iv _=>v.m.length-(intOf iv).toNat)
 case atStart=>exact ⟨0,rfl,Nat.zero_le _,zq (.inr fun i _ h=>by omega),b3⟩
 case round=>
  obtain ⟨j,rfl,hj,HF,f⟩:=hrel
  have cc:=f.out.bk.all0
  simp only [QC.cells,ag,ai,aj,aH,aP,ah,af,and_true] at cc
  have U:=f.out.bs.all
  simp only [QC.cells,ag,ai,aj,aH,aP,ah,af,and_true] at U
  by_cases t:j<v.m.length
  ·have c7:=zb t
   obtain ⟨k0,k1⟩:=qY t
   obtain ⟨_,W⟩:=NmAt.own f.out.nm
   obtain ⟨b1,o1,Y,Z,n0,n1⟩:=W.2 j t
   subst Y
   obtain ⟨q,N⟩:=lz (v.m[j])
   rw [<-N.out] at n0 n1
   obtain ⟨I,a6⟩:=lz (α:=ByteArray) (⟨q.1.toArray⟩)
   rw [<-a6.out] at n0
   have R:I.data.toList=q.1:=by rw [a6.out]
   by_cases b:x=[95]
   ·have Q:(s.toList==[95])=true:=vQ (C.out.symm.trans b)
    have b6:=zq b
    have S:=zq (qE t (by have:=F.out;omega))
    have c5:(I.toList==s.toList)=true\/(I.toList==s.toList)=false:=by cases I.toList==s.toList <;> simp
    clear b R W Z
    rcases c5 with a2 | a2
    all_goals
     go_wp2_with fail
     go_roundw
     case rel=>exact ⟨j+1,congrArg (dA dN) S.out,t,zq (.inl b6.out),f⟩
     case measure=>exact oB S.out t
   have Q:(s.toList==[95])=false:=yO (fun e=>b (C.out.trans e))
   have V:∀i (E:i<v.m.length),i<j->¬v.m[i].1=x:=by
    rcases HF.out with h | h
    ·exact absurd h b
    ·exact h
   by_cases H:q.1=x
   ·have a2:(I.toList==s.toList)=true:=zO (by rw [R,H,C.out])
    obtain ⟨A,r,D,B⟩:=Bp v G.out b t (by rw [<-N.out];exact H) V
    rw [<-N.out] at A B
    rw [show ((v.o.count q.2+1:Nat):Int)=(v.o.count q.2:Nat)+1 by omega] at A
    obtain ⟨g2,Y⟩:=c3 (by omega)
    subst Y
    have O:=f.out.om
    have a1:(ec v).length=v.m.length:=by unfold ec;rw [bZ]
    rw [a1] at O
    have d0:wr.cell? ⟨g2,j,none⟩=some (dA ab ((v.o.count q.2:Nat):Int)):=by
     have:=O.cells (g:=g2) rfl j (aa ab ((v.o.count q.2:Nat):Int)) (by unfold ec;rw [List.getElem?_map,List.getElem?_eq_getElem t,N.out];rfl)
     rw [eO,ah] at this
     exact this
    have d4:=O.frozenAt j
    have d5:=(O.lt g2 rfl).2
    have c4:v.o.count q.2<=20000:=by have:=List.count_le_length (a:=q.2) (l:=v.o);have:=T.out;have:=F.out;omega
    have c6:=AP (k:=v.o.count q.2) (by omega)
    have d3:b1≠g2:=fun e=>f.out.dis g2 (by rw [<-e];rfl) rfl
    have u:=zq ((f.out.oset a1.symm j (aa ab ((v.o.count q.2:Nat)+1:Int))).put4 0 rfl (aa ab 0) (aa ab (q.2:Nat)) (ac ⟨#[]⟩) (.slice none 0 0))
    rw [<-A] at u
    have d:=zq (⟨r,D,B⟩:(v.step x).m=v.m/\(v.step x).c=v.c/\v.num x=q.2)
    obtain ⟨k,HK⟩:=lz (v.o.count q.2)
    rw [<-HK.out] at d0 c6 u
    have d7:w.heap.size≠g2:=fun e=>(f.out.off _ (List.mem_cons_self ..)).1 (by show c.mine _ w.heap.size;rw [e];exact .inr (.inr rfl))
    have d6:c.P≠g2:=fun e=>by have:=f.out.om.lt g2 rfl;have:=f.out.ok.p1;omega
    clear b H V A r D B O a1 c4 W Z R
    go_wp2_with fail
    refine aw (v:=.agg #[aa ab 0,aa ab (q.2:Nat),ac ⟨#[]⟩,.slice none 0 0]) (by simp [results,Tryz.results106,go_sem,U]) rfl ⟨by rw [d.out.2.2],.slice (some ⟨b1,o1,none⟩) v.m.length c1,.slice (some ⟨g2,0,none⟩) v.m.length c2,?_,u.out.s⟩
    exact u.out.back (by unfold QC.cells;rw [d.out.2.1]) rfl d.out.1.symm X.out (by rw [VS.step_len];exact T.out) (VS.step_ok G.out.ok x)
   ·have a2:(I.toList==s.toList)=false:=Bc (by rw [R,<-C.out];exact H)
    have b2:Hid (∀i (E:i<v.m.length),i<j+1->¬v.m[i].1=x):=zq fun i E h=>by
     rcases Nat.lt_or_ge i j with r | r
     ·exact V i E r
     ·have:i=j:=by omega
      subst this
      rw [<-N.out];exact H
    have S:=zq (qE t (by have:=F.out;omega))
    clear b H V W Z R
    go_wp2_with fail
    go_roundw
    case rel=>exact ⟨j+1,congrArg (dA dN) S.out,t,zq (.inr b2.out),f⟩
    case measure=>exact oB S.out t
  ·have c8:j=v.m.length:=by omega
   subst c8
   have c7:=zc (Nat.lt_irrefl v.m.length)
   have d8:=AP (k:=v.c) (by have:=F.out;omega)
   by_cases b:x=[95]
   ·have Q:(s.toList==[95])=true:=vQ (C.out.symm.trans b)
    have d1:(s.toList != [95])=false:=by simp [bne,Q]
    subst b
    obtain ⟨A,r,D⟩:=yJ v G.out
    have B:v.num [95]=v.c:=by unfold VS.num;rw [if_pos rfl]
    have u:=zq ((f.out.cell 5 (aa ab ((v.c:Nat)+1:Int))).put4 0 rfl (aa ab 0) (aa ab (v.c:Nat)) (ac ⟨#[]⟩) (.slice none 0 0))
    have d:=zq (⟨A,r,D,B⟩:ec (v.step [95])=ec v/\(v.step [95]).m=v.m/\(v.step [95]).c=v.c+1/\v.num [95]=v.c)
    clear A r D B
    go_wp2_with fail
    refine aw (v:=.agg #[aa ab 0,aa ab (v.c:Nat),ac ⟨#[]⟩,.slice none 0 0]) (by simp [results,Tryz.results106,go_sem,U]) rfl ⟨by rw [d.out.2.2.2],.slice J v.m.length c1,.slice K v.m.length c2,?_,u.out.s⟩
    exact u.out.back (by unfold QC.cells;rw [d.out.2.2.1];rfl) d.out.1.symm d.out.2.1.symm X.out (by rw [VS.step_len];exact T.out) (VS.step_ok G.out.ok _)
   ·have Q:(s.toList==[95])=false:=yO (fun e=>b (C.out.trans e))
    have d1:(s.toList != [95])=true:=by simp [bne,Q]
    have a8:v.look x=none:=Am v x fun i E=>by
     rcases HF.out with h | h
     ·exact absurd h b
     ·exact h i E E
    obtain ⟨A,r,D,B⟩:=Bq v G.out b a8
    have d:=zq (⟨A,r,D,B⟩:ec (v.step x)=ec v++[dA ab 1]/\(v.step x).m=v.m++[(x,v.c)]/\(v.step x).c=v.c+1/\v.num x=v.c)
    have b5:Hid (s=⟨x.toArray⟩):=zq (by rw [C.out])
    clear A r D B b a8
    have b4:=zq (f.out.cell 5 (aa ab ((v.c:Nat)+1:Int)))
    have a9:(ec v).length=v.m.length:=by unfold ec;rw [bZ]
    go_upto_region 11 with (at_builtin;go_must (refine nK rfl _ _ rfl b4.out rfl (x,v.c) (by rw [<-b5.out]) (by show dc (some ⟨wr.heap.size,0,none⟩) 1 1=dc (some ⟨_,0,none⟩) 1 1;simp) (by have:=F.out;omega) ?_;intro d9 w3 L;(obtain ⟨A3,k3,rfl⟩:=fp L.out.nm);have a5:=zq (L.out.cell 6 (.slice A3 (v.m.length+1) k3));have b7:=L.out.bk.all0;simp only [QC.cells,an,ao,aP,ah,af,and_true] at b7))
    have a0:(v.m++[(x,v.c)]).length=v.m.length+1:=by rw [bC];rfl
    rw [a0] at L a5
    have d2:=zq a0
    clear a0 cc
    have b9:=L.out.bs.all
    simp only [QC.cells,ag,ai,aj,aH,aP,ah,af,and_true] at b9
    clear U
    go_wp2_with (at_builtin;go_must (refine pd rfl _ _ rfl a5.out rfl rfl (by show dc (some ⟨w3.heap.size,0,none⟩) 1 1=dc (some ⟨_,0,none⟩) 1 1;simp) (by rw [a9];have:=F.out;omega) ?_;intro e0 w5 M;(obtain ⟨A5,k5,rfl⟩:=fp M.out.om);have c9:(ec v++[dA ab 1]).length=v.m.length+1:=(by rw [bC,a9];rfl);rw [c9] at M |-;have u:=zq ((M.out.cell 7 (.slice A5 (v.m.length+1) k5)).put4 0 rfl (aa ab 0) (aa ab (v.c:Nat)) (ac ⟨#[]⟩) (.slice none 0 0));have b8:=M.out.bk.all0;simp only [QC.cells,an,ao,aP,ah,af,and_true] at b8;have a7:=M.out.bs.all;simp only [QC.cells,ag,ai,aj,aH,aP,ah,af,and_true] at a7))
    refine aw (v:=.agg #[aa ab 0,aa ab (v.c:Nat),ac ⟨#[]⟩,.slice none 0 0]) (by simp [results,Tryz.results106,go_sem,a7]) rfl ⟨by rw [d.out.2.2.2],.slice A3 (v.m.length+1) k3,.slice A5 (v.m.length+1) k5,?_,u.out.s⟩
    exact u.out.back (by unfold QC.cells;rw [d.out.2.2.1];rfl) d.out.1.symm d.out.2.1.symm X.out (by rw [VS.step_len];exact T.out) (VS.step_ok G.out.ok _)
end Go.Proofs.YtbojljpldcijgaaGreat
