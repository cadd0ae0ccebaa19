/- Parts of the proof. -/
import Derived.Test.YtlikcjbjibhjgaaGreatDoorR01
import Derived.Test.YtlikcjbjibhjgaaGreatDoorR30
import Derived.Test.YtlikcjbjibhjgaaGreatDoorR10
import Derived.Test.YtlikcjbjibhjgaaGreatDoorR26
import Derived.Test.YtlikcjbjibhjgaaGreatDoorR28
open Bool renaming and_eq_true -> aF
open List renaming append_nil -> aA, filter_append -> fu, filter_cons -> cT, flatMap_cons -> ek, foldl_append -> eL, foldl_cons -> dW, length_append -> aB, length_cons -> bo, map_cons -> bE, map_nil -> eG, mem_append -> dm, mem_cons_of_mem -> aW, mem_cons_self -> aV, mem_map -> eT, mem_singleton -> aG
open Nat renaming le_refl -> ag
namespace Hb
open Go Go.RowKit
structure VOk (v:VS):Prop where
 lt:∀x n,v.look x=some n->n<v.c
 inj:∀x y n,v.look x=some n->v.look y=some n->x=y
theorem Io (v:VS) (x y:List UInt8) (n:Nat) (c:Nat) (o:List Nat):(⟨c,v.m++[(x,n)],o⟩:VS).look y=match v.look y with | some k=>some k | none=>if x=y then some n else none:=by
 unfold VS.look
 simp only [List.find?_append]
 cases h:v.m.find? (fun p=>p.1==y) with
 | some p=>simp
 | none=>
  simp only [Option.map_none,Option.none_or,List.find?_cons,List.find?_nil]
  by_cases e:x=y
  ·subst e;simp
  ·have b:(x==y)=false:=by simpa using e
   simp [b,e]
theorem step_look (v:VS) (x y:List UInt8):(v.step x).look y=match v.look y with | some k=>some k | none=>if x=y/\¬x=[95] then some v.c else none:=by
 unfold VS.step
 by_cases h:v.old x=true\/x=[95]
 ·rw [if_pos h]
  show v.look y=_
  cases hy:v.look y with
  | some k=>rfl
  | none=>
   simp only
   rw [if_neg]
   rintro ⟨rfl,a⟩
   rcases h with h | h
   ·unfold VS.old at h;rw [hy] at h;simp at h
   ·exact a h
 ·rw [if_neg h,Io]
  simp only [not_or] at h
  cases hy:v.look y with
  | some k=>rfl
  | none=>simp [h.2]
theorem Eb {v:VS} {x y:List UInt8} {n:Nat} (h:v.look y=some n):(v.step x).look y=some n:=by rw [step_look,h]
theorem Ea (v:VS) {x:List UInt8} (a:¬x=[95]):(v.step x).look x=some (v.num x):=by
 rw [step_look]
 unfold VS.num
 rw [if_neg a]
 cases h:v.look x with
 | some k=>rfl
 | none=>simp [a]
theorem FL {v:VS} (h:VOk v) (x:List UInt8):VOk (v.step x):=by
 have l:v.c<=(v.step x).c:=by unfold VS.step;simp only;split <;> omega
 have f:∀y n,(v.step x).look y=some n->v.look y=some n\/(v.look y=none/\x=y/\n=v.c/\v.c<(v.step x).c):=by
  intro y n a
  rw [step_look] at a
  cases d:v.look y with
  | some k=>rw [d] at a;exact .inl a
  | none=>
   rw [d] at a
   simp only at a
   split at a
   ·rename_i g
    injection a with a
    refine .inr ⟨rfl,g.1,a.symm,?_⟩
    have j:¬v.old x=true:=by unfold VS.old;rw [g.1,d];simp
    unfold VS.step
    simp only
    rw [if_neg j];omega
   ·cases a
 refine ⟨fun y n a=>?_,fun y z n a i=>?_⟩
 ·rcases f y n a with b | ⟨_,_,rfl,d⟩
  ·have:=h.lt y n b;omega
  ·exact d
 ·rcases f y n a with b | ⟨_,b,d,_⟩
  ·rcases f z n i with e | ⟨_,_,m,_⟩
   ·exact h.inj y z n b e
   ·have:=h.lt y n b;omega
  ·rcases f z n i with e | ⟨_,e,_,_⟩
   ·have:=h.lt z n e;omega
   ·rw [<-b,<-e]
theorem yv:∀(l:List NextR) (v:VS),VOk v->VOk (l.foldl (fun v t=>v.step t.r.text) v)
 | [],_,h=>h
 | _::l,_,h=>yv l _ (FL h _)
theorem FM (T:List NextR):VOk (pw T):=yv _ _ ⟨fun x n h=>(by cases h),fun x y n h=>(by cases h)⟩
theorem vS:∀(l:List NextR) (v:VS) {y:List UInt8} {n:Nat},v.look y=some n->(l.foldl (fun v t=>v.step t.r.text) v).look y=some n
 | [],_,_,_,h=>h
 | _::l,_,_,_,h=>vS l _ (Eb h)
theorem IC:∀(l:List NextR) (v:VS),(l.foldl (fun v t=>v.step t.r.text) v).c<=v.c+l.length
 | [],_=>by simp
 | t::l,v=>by
  rw [dW,bo]
  have:=IC l (v.step t.r.text)
  have a:(v.step t.r.text).c<=v.c+1:=by unfold VS.step;simp only;split <;> omega
  omega
theorem LO (T:List NextR):(pw T).c<=T.length:=by
 have h:=IC (T.filter qB) vs0
 have a:=List.length_filter_le qB T
 show ((T.filter qB).foldl _ vs0).c<=_
 have:vs0.c=0:=rfl
 omega
theorem Ls {T:List NextR} {i:Nat} (b:i<T.length) {x:List UInt8} (c:T[i].r.kind=3) (d:T[i].r.text=x) (f:¬x=[95]):(pw T).look x=some ((cM T i).num x):=by
 have e:T.filter qB=(T.take i).filter qB++T[i]::(T.drop (i+1)).filter qB:=by
  conv=>lhs;rw [<-List.take_append_drop i T,fu,List.drop_eq_getElem_cons b,cT]
  have a:qB T[i]=true:=by unfold qB;rw [c];rfl
  rw [if_pos a]
 unfold pw
 rw [e,eL,dW,d]
 exact vS _ _ (Ea _ f)
theorem tN {v:VS} {x:List UInt8} {n:Nat} (h:v.look x=some n) (a:¬x=[95]):v.num x=n:=by
 unfold VS.num
 rw [if_neg a,h];rfl
theorem tG (u:Int):¬pV u=[95]:=by
 intro e
 have h:Lib.itoa u=[]:=by unfold pV at e;injection e
 unfold Lib.itoa at h
 split at h
 ·cases h
 ·have:=(oA u.toNat).2.2
  have a:Lib.decDigits u.toNat=[]:=h
  rw [a] at this;simp at this
theorem Bs {u w:Nat} (h:pV u=pV w):u=w:=by
 rw [Br,Br] at h
 injection h with _ h
 have a:=(oA u).1
 have b:=(oA w).1
 rw [h] at a
 omega
def tt (T:List NextR) (u:Int):Int:=((pw T).num (pV u):Nat)
def rW (T:List NextR) (u:Int):Prop:=∃i,∃h:i<T.length,T[i].r.kind=3/\T[i].r.text=pV u
theorem rr {T:List NextR} {u:Int} (h:rW T u):(pw T).look (pV u)=some ((pw T).num (pV u)):=by
 obtain ⟨i,c,a,b⟩:=h
 have:=Ls c a b (tG u)
 rw [this,tN this (tG u)]
theorem JY {T:List NextR} {u w:Int} (f:rW T u) (g:rW T w) (i:0<=u) (j:0<=w) (h:tt T u=tt T w):u=w:=by
 have a:=rr f
 have b:=rr g
 unfold tt at h
 have e:(pw T).num (pV u)=(pw T).num (pV w):=by omega
 rw [e] at a
 have:=(FM T).inj _ _ _ a b
 have c:u=(u.toNat:Int):=by omega
 have d:w=(w.toNat:Int):=by omega
 rw [c,d] at this
 have:=Bs this
 omega
theorem Ma {T:List NextR} {u:Int} (c:rW T u):0<=tt T u/\tt T u<T.length:=by
 have a:=(FM T).lt _ _ (rr c)
 have b:=LO T
 unfold tt
 omega
theorem at_get {T:List NextR} {P:List OpR} {q:Int} {i:Nat} (h:i<T.length):(⟨T,P,q⟩:RE).at i=T[i]:=by
 show wO T i=_
 unfold wO
 rw [show min i (T.length-1)=i by omega,List.getD_eq_getElem?_getD,List.getElem?_eq_getElem h];rfl
theorem JW (T:List NextR) (P:List OpR) (q:Int):∀i,i<T.length->∀u:Int,((⟨T,P,q⟩:RE).at i).r.kind=3->((⟨T,P,q⟩:RE).at i).r.text=pV u->rW T u/\((cM T i).num (pV u):Int)=tt T u:=by
 intro i c u a b
 rw [at_get c] at a b
 have:=Ls c a b (tG u)
 refine ⟨⟨i,c,a,b⟩,?_⟩
 unfold tt
 rw [tN this (tG u)]
theorem GM {f g:Int->Int}:∀t:Tm,fX f t=fX g t->Tm.All (fun x=>x.kind=0->f x.num=g x.num) t:=Tm.ind fun t c h=>by
 refine .mk t (fun k=>?_) fun a b=>c a b ?_
 ·have:=congrArg Tm.num h
  rw [oN,oN,if_pos k,if_pos k] at this
  exact this
 ·have:=congrArg Tm.args h
  rw [kJ,kJ] at this
  exact List.map_inj_left.1 this a b
theorem Kb (f g:Int->Int):∀t:Tm,fX g (fX f t)=fX (fun n=>g (f n)) t:=Tm.ind fun t d=>by
 rw [jy g,jy (fun n=>g (f n)),qm,oN,yY,kJ,List.map_map]
 congr 1
 ·by_cases c:t.kind=0 <;> simp [c]
 ·exact List.map_congr_left fun a b=>d a b
theorem FO {f:Int->Int} {D:Int->Prop} (q:∀a b,D a->D b->f a=f b->a=b):∀(t:Tm),Tm.All (fun x=>x.kind=0->D x.num) t->∀acc:List Int,(∀n∈acc,D n)->dJ (fX f t) (acc.map f)=(dJ t acc).map f/\∀n∈dJ t acc,D n:=by
 refine Tm.ind fun t s j acc i=>?_
 rw [lA,lA,kJ]
 have o:jK (fX f t) (acc.map f)=(jK t acc).map f/\∀n∈jK t acc,D n:=by
  unfold jK
  rw [qm,oN]
  by_cases k:t.kind=0
  ·rw [if_pos k]
   have e:(f t.num∈acc.map f)↔t.num∈acc:=by
    rw [eT]
    constructor
    ·rintro ⟨a,d,h⟩
     rw [<-q a t.num (i a d) (j.here k) h];exact d
    ·intro h;exact ⟨_,h,rfl⟩
   by_cases h:t.num∈acc
   ·rw [if_neg (fun x=>x.2 (e.2 h)),if_neg (fun x=>x.2 h)]
    exact ⟨rfl,i⟩
   ·rw [if_pos ⟨k,fun x=>h (e.1 x)⟩,if_pos ⟨k,h⟩]
    refine ⟨by simp,fun n g=>?_⟩
    rcases dm.1 g with g | g
    ·exact i n g
    ·rw [aG.1 g];exact j.here k
  ·rw [if_neg (fun x=>k x.1),if_neg (fun x=>k x.1)]
   exact ⟨rfl,i⟩
 have w:∀(l:List Tm),(∀a∈l,a∈t.args)->∀c:List Int,(∀n∈c,D n)->(l.map (fX f)).foldl (fun acc a=>dJ a acc) (c.map f)=(l.foldl (fun acc a=>dJ a acc) c).map f/\∀n∈l.foldl (fun acc a=>dJ a acc) c,D n:=by
  intro l
  induction l with
  | nil=>intro _ c m;exact ⟨rfl,m⟩
  | cons a l ihl=>
   intro p c m
   have d:=p a (aV ..)
   obtain ⟨u,v⟩:=s a d (j.sub a d) c m
   rw [bE,dW,dW,u]
   exact ihl (fun x r=>p x (aW _ r)) _ v
 rw [o.1]
 exact w t.args (fun _ h=>h) _ o.2
theorem Ho {f:Int->Int} {D:Int->Prop} (d:∀a b,D a->D b->f a=f b->a=b):∀(l:List Int),(∀n∈l,D n)->∀x,D x->ed (l.map f) (f x)=ed l x:=by
 intro l g x i
 have q:∀l:List Int,(∀n∈l,D n)->(l.map f).idxOf (f x)=l.idxOf x:=by
  intro l
  induction l with
  | nil=>intro _;rfl
  | cons a l ih=>
   intro h
   rw [bE,List.idxOf_cons,List.idxOf_cons]
   by_cases e:a=x
   ·subst e;simp
   ·have m:¬f a=f x:=fun o=>e (d a x (h a (aV ..)) i o)
    have j:(a==x)=false:=by simpa using e
    have k:(f a==f x)=false:=by simpa using m
    rw [j,k]
    simp only [cond_false]
    rw [ih fun n p=>h n (aW _ p)]
 have e:(f x∈l.map f)↔x∈l:=by
  rw [eT]
  constructor
  ·rintro ⟨a,c,h⟩
   rw [<-d a x (g a c) i h];exact c
  ·intro h;exact ⟨_,h,rfl⟩
 unfold ed
 by_cases h:x∈l
 ·rw [if_pos h,if_pos (e.2 h),q l g]
 ·rw [if_neg h,if_neg (fun x=>h (e.1 x))]
theorem yw {f:Int->Int} {D:Int->Prop} (h:∀a b,D a->D b->f a=f b->a=b) (m:∀a,D a->0<=f a/\f a<=1099511627776) {t:Tm} (i:cd t=true) (d:Tm.All (fun x=>x.kind=0->D x.num) t):cd (fX f t)=true/\gy (fX f t)=gy t:=by
 have c:=i
 unfold cd at c
 simp only [aF,decide_eq_true_iff] at c
 have g:cd (fX f t)=true:=by
  unfold cd
  rw [EB,Mb t c.2 (Tm.All.imp (fun x e k=>m _ (e k)) t d),decide_eq_true c.1];rfl
 refine ⟨g,?_⟩
 unfold gy
 rw [if_pos g,if_pos i,Kb]
 obtain ⟨j,o⟩:=FO h t d [] (fun n l=>by cases l)
 rw [eG] at j
 rw [j]
 exact ru t (Tm.All.imp (fun x e k=>Ho h _ o _ (e k)) t d)
theorem wh:∀L:List CI,(∀x∈L,TokText x.2)->L.length<=(fA L).length
 | [],_=>by simp
 | x::l,h=>by
  have b:=(h x (aV ..)).pos
  have c:=wh l fun y a=>h y (aW _ a)
  rw [fA]
  simp only [aB,bo]
  omega
def lY (o:WO) (T:List OpR) (S:Tm->WR) (t:Tm):List (List UInt8):=bl (bu o T S t 1200 false)
theorem Dz {o:WO} {T:List OpR} {S:Tm->WR} (j:o.q=true) (h:o.nu=false) (l:bB T=true) (k:∀t:Tm,Tm.All NOk t->t.kind=3->S t=mw o T S t) (K:List NextR) (q:Int) (f:Int->Int) (e:∀u,rW K u->f u=tt K u):Cx o T S ⟨K,T,q⟩ f :=
 ⟨j,h,l,rfl,k,fun i g u a b=>by
  obtain ⟨c,d⟩:=JW K T q i g u a b
  rw [e u c];exact d⟩
theorem sV {o:WO} {T:List OpR} {S:Tm->WR} {t:Tm} (k:Tm.All NOk t) (a:Nat) (s:Bool) (q:Int) (m:∀x∈ji [] false (lY o T S t),TokText x.2) (f:Int->Int)
  (i:Cx o T S ⟨jg 0 (ji [] false (lY o T S t))++[nw a s],T,q⟩ f) :
  rj ⟨jg 0 (ji [] false (lY o T S t))++[nw a s],T,q⟩=.ok (fX f t,(ji [] false (lY o T S t)).length):=by
 have v:=Nl T q (ji [] false (lY o T S t)) 0 m (nw a s)
 have e:=GG T q (ji [] false (lY o T S t)) 0 (nw a s)
 have g:((⟨jg 0 (ji [] false (lY o T S t))++[nw a s],T,q⟩:RE).T).length=(ji [] false (lY o T S t)).length+1:=by
  show (jg 0 (ji [] false (lY o T S t))++[nw a s]).length=_
  rw [aB,jY];rfl
 generalize y:(⟨jg 0 (ji [] false (lY o T S t))++[nw a s],T,q⟩:RE)=E at *
 have j:(ji [] false (lY o T S t)).length=tl (bl (bu o T S t 1200 false)):=rfl
 rw [j] at e g |-
 have c:(E.at (tl (bl (bu o T S t 1200 false)))).r.kind=7:=by rw [e];rfl
 have d:∀x,isP (E.at (tl (bl (bu o T S t 1200 false)))) x=false:=fun x=>by unfold isP;rw [c];rfl
 have l:ge (E.at (tl (bl (bu o T S t 1200 false))))=false:=by unfold ge;rw [c];rfl
 have w:Stop E (tl (bl (bu o T S t 1200 false))) 1200:=by
  intro b
  unfold hQ at b
  simp only at b
  rw [l,d,d,if_pos (by rfl)] at b
  cases b
 have b:Nx E (tl (bl (bu o T S t 1200 false))):=⟨by unfold opn;rw [d];rfl,by rw [c];decide⟩
 have n:gE E (tl (bl (bu o T S t 1200 false)))=true:=by unfold gE;rw [if_pos c]
 have h:=Ke i k 1200 false 0 (tl (bl (bu o T S t 1200 false))) [] ⟨[],false,by rw [aA];exact v⟩
 rw [Nat.zero_add] at h
 obtain ⟨p,u⟩:=h (by omega) (ag _) b w (fun _=>n)
 unfold rj
 rw [g,u]
 simp only
 rw [if_pos c]
def Jk (o:WO) (T:List OpR) (S:Tm->WR) (t:Tm) (s:Bool):List NextR:=jg 0 (ji [] false (lY o T S t))++[nw (fJ (lY o T S t)).length s]
theorem zc {o:WO} {T:List OpR} {S:Tm->WR} (z:o.q=true) (y:o.nu=false) (B:bB T=true) (A:∀t:Tm,Tm.All NOk t->t.kind=3->S t=mw o T S t) {t:Tm} (l:Tm.All NOk t) (Y:cd t=true) {R:List UInt8} (M:DotOk R) (s:Bool)
  (P:s=false->∀p,(lY o T S t).getLast? = some p->fv p [46]=false) (q u:Int) (c d:Bool) (V:Sy.ok ⟨T,q,u,c,d,[]⟩=true) (Q:(fJ (lY o T S t)++(ki s++46::R)).length<=16384) :
  ∃names singles,tu (fJ (lY o T S t)++(ki s++46::R)) 0 ⟨T,q,u,c,d,[]⟩=⟨fX (tt (Jk o T S t s)) t,names,singles,(((fJ (lY o T S t)).length+(ki s).length:Nat):Int)+1,0,0⟩/\cd (fX (tt (Jk o T S t s)) t)=true/\gy (fX (tt (Jk o T S t s)) t)=gy t:=by
 have v:PL (bu o T S t 1200 false):=Dc (Dz z y B A [] 0 (tt []) fun _ _=>rfl) l 1200 false
 have N:=Cv M (lY o T S t) s v.pc v.sp P
 have w:∀x∈ji [] false (lY o T S t),TokText x.2:=qN _ _ _ v.pc
 have G:=wh _ w
 have a2:(ji [] false (lY o T S t)).length<=(fJ (lY o T S t)).length:=by
  have e:fA (ji [] false (lY o T S t))=fJ (lY o T S t):=qO _ [] v.sp
  rw [e] at G;exact G
 obtain ⟨K,i⟩:∃K,K=jg 0 (ji [] false (lY o T S t))++[nw (fJ (lY o T S t)).length s]:=⟨_,rfl⟩
 have a1:K.length<=16385:=by
  rw [i,aB,jY]
  rw [aB] at Q
  simp only [bo,List.length_nil]
  omega
 have C:=sV (q:=q) l (fJ (lY o T S t)).length s w (tt K) (by rw [<-i];exact Dz z y B A K q (tt K) fun _ _=>rfl)
 open Classical in
 have j:=sV (q:=q) l (fJ (lY o T S t)).length s w (fun n=>if rW K n then tt K n else tt K n+1) (by rw [<-i];exact Dz z y B A K q _ fun n h=>if_pos h)
 rw [C] at j
 injection j with j
 injection j with j _
 have U:Tm.All (fun x=>x.kind=0->rW K x.num) t:=by
  refine Tm.All.imp (fun x Z k=>?_) t (GM t j)
  have h:=Z k
  by_cases I:rW K x.num
  ·exact I
  ·rw [if_neg I] at h;omega
 have L:Tm.All (fun x=>x.kind=0->(rW K x.num/\0<=x.num)) t:=by
  have a0:∀t:Tm,Tm.All NOk t->Tm.All (fun x=>x.kind=0->rW K x.num) t->Tm.All (fun x=>x.kind=0->(rW K x.num/\0<=x.num)) t :=
   Tm.ind fun t ih E F=>.mk t (fun k=>⟨F.here k,(E.here.var k).1⟩) fun a g=>ih a g (E.sub a g) (F.sub a g)
  exact a0 t l U
 obtain ⟨J,X⟩:=yw (f:=tt K) (D:=fun n=>rW K n/\0<=n) (fun a b g r h=>JY g.1 r.1 g.2 r.2 h) (fun a g=>by have:=Ma g.1;omega) Y L
 have r:li (fJ (lY o T S t)++(ki s++46::R)) 0 ⟨T,q,u,c,d,[]⟩=false:=by
  unfold li
  rw [V,decide_eq_false (by omega),decide_eq_false (by omega),decide_eq_false (by omega)];rfl
 have W:iB (fJ (lY o T S t)++(ki s++46::R)) 0 ⟨T,q,u,c,d,[]⟩=⟨K,0,0⟩:=by
  unfold iB
  have O:(Sy.conv ⟨T,q,u,c,d,[]⟩:List (Int×Int))=[]:=by unfold Sy.conv;simp
  rw [O,ME,show (0:Int).toNat=0 from rfl,N,i]
 have H:=GG T q (ji [] false (lY o T S t)) 0 (nw (fJ (lY o T S t)).length s)
 rw [<-i] at C H
 rw [show Jk o T S t s=K from i.symm]
 refine ⟨(cM K (ji [] false (lY o T S t)).length).m,GF (cM K (ji [] false (lY o T S t)).length),?_,J,X⟩
 unfold tu
 rw [r,if_neg (by simp),W,if_neg (by simp)]
 unfold vG
 rw [C]
 simp only
 unfold xv
 rw [if_pos J,H]
 rfl
theorem Mn:∀t:Tm,Tm.All Okf t->Tm.All NOk t:=fun t h=>Tm.All.imp (fun _ h=>⟨h.1,(eX _).1 h.2⟩) t h
theorem Nq:∀t:Tm,Tm.All NOk t->Tm.All Okf t:=fun t h=>Tm.All.imp (fun _ h=>⟨h.1,(eX _).2 h.2⟩) t h
theorem LX (o:WO) (T:List OpR):∀t:Tm,Tm.All NOk t->t.kind=3->str o T t=mw o T (str o T) t:=fun t h _=>rp o T (Okf.k4 (Nq t h))
theorem Km (o:WO) (T:List OpR) (t:Tm):lY o T (str o T) t=uN (qZ o T t 1200 false):=rfl
def If:Tm->List Int
 | .mk k n _ l=>(if k=0 then [n] else [])++(l.attach.map fun ⟨a,_⟩=>If a).flatten
theorem tM (t:Tm):If t=(if t.kind=0 then [t.num] else [])++t.args.flatMap If:=by
 cases t with
 | mk k n s l=>
  conv=>lhs;unfold If
  show _=(if k=0 then [n] else [])++l.flatMap If
  rw [List.flatMap]
  congr 2
  simp
def uJ (a:List Int) (n:Int):List Int:=if n∈a then a else a++[n]
theorem FP:∀(t:Tm) (acc:List Int),dJ t acc=(If t).foldl uJ acc:=by
 refine Tm.ind fun t e acc=>?_
 rw [lA,tM,eL]
 have c:jK t acc=(if t.kind=0 then [t.num] else []).foldl uJ acc:=by
  unfold jK
  by_cases k:t.kind=0
  ·rw [if_pos k]
   show _=uJ acc t.num
   unfold uJ
   by_cases h:t.num∈acc
   ·rw [if_neg (fun x=>x.2 h),if_pos h]
   ·rw [if_pos ⟨k,h⟩,if_neg h]
  ·rw [if_neg k,if_neg (fun x=>k x.1)];rfl
 rw [<-c]
 have f:∀(l:List Tm),(∀a∈l,a∈t.args)->∀ac:List Int,l.foldl (fun acc a=>dJ a acc) ac=(l.flatMap If).foldl uJ ac:=by
  intro l
  induction l with
  | nil=>intro _ ac;rfl
  | cons a l ihl=>
   intro b ac
   rw [dW,ek,eL,e a (b a (aV ..))]
   exact ihl (fun x d=>b x (aW _ d)) _
 exact f t.args (fun _ h=>h) _
def vp (p:List UInt8):List (List UInt8):=if p=[32] then [] else ((eC p).filter fun x=>(cC x x 0).kind==3).map fun x=>(cC x x 0).text
def FK (L:List CI):List (List UInt8):=(L.filter fun x=>(cC x.2 x.2 0).kind==3).map fun x=>(cC x.2 x.2 0).text
theorem CC (a b:List CI):FK (a++b)=FK a++FK b:=by unfold FK;rw [fu,List.map_append]
theorem DO (s:Bool) (p:List UInt8) (h:¬p=[32]):FK (ip s p)=vp p:=by
 unfold vp ip
 rw [if_neg h]
 cases hs:eC p with
 | nil=>exact absurd hs (th p)
 | cons t l=>
  simp only
  have e:∀(x:Bool),(x,t)::l.map (fun u=>((false,u):CI))=[((x,t):CI)]++l.map (fun u=>((false,u):CI)):=fun _=>rfl
  have b:∀l:List (List UInt8),FK (l.map fun u=>((false,u):CI))=(l.filter fun x=>(cC x x 0).kind==3).map fun x=>(cC x x 0).text:=by
   intro l
   induction l with
   | nil=>rfl
   | cons a l ih=>
    unfold FK at ih |-
    rw [bE,cT,cT]
    simp only
    split
    ·rw [bE,bE,ih]
    ·exact ih
  rw [e,CC,b l,cT]
  unfold FK
  rw [cT]
  simp only
  split <;> simp
theorem wJ:∀(l:List (List UInt8)) (a:List UInt8) (b:Bool),FK (ji a b l)=l.flatMap vp
 | [],_,_=>rfl
 | p::l,a,b=>by
  rw [ji,ek]
  by_cases h:p=[32]
  ·rw [if_pos h,wJ l]
   unfold vp
   rw [if_pos h];rfl
  ·rw [if_neg h,CC,DO _ _ h,wJ l]
theorem qH (s:Bool) (k:Nat):∀(L:List CI) (a:Nat),(∀x∈L,TokText x.2)->((jg a L++[nw k s]).filter qB).map (fun t=>t.r.text)=FK L
 | [],_,_=>rfl
 | x::l,a,h=>by
  have b:=qH s k l (a+(ki x.1).length+x.2.length) fun y d=>h y (aW _ d)
  have c:=h x (aV ..)
  rw [jg,List.cons_append,cT]
  unfold FK at b |-
  rw [cT]
  have e:qB ⟨uQ (((a+(ki x.1).length:Nat):Int)) (cC x.2 x.2 0),x.1,0⟩=((cC x.2 x.2 0).kind==3):=by
   rw [oK _ _ c.err];rfl
  rw [e]
  cases ((cC x.2 x.2 0).kind==3)
  ·rw [if_neg (by simp),if_neg (by simp)];exact b
  ·rw [if_pos rfl,if_pos rfl,bE,bE,b,oK _ _ c.err]
section
variable {o:WO} {T:List OpR} {S:Tm->WR} {E:RE} {ρ:Int->Int}
theorem wK {c:UInt8} (a:c=40\/c=41\/c=91\/c=93\/c=123\/c=125\/c=44\/c=124):vp [c]=[]:=by
 obtain ⟨b,d⟩:=mV a
 unfold vp
 rw [if_neg b.sp,d,cT,(jc a).2];rfl
theorem CD {s:List UInt8} (h:s.length<=100):vp (gA s)=[]:=by
 obtain ⟨f,d⟩:=oS s h
 unfold vp
 rw [if_neg f.sp]
 rcases d with ⟨b | b,e⟩ | ⟨_,_,g,_,a⟩
 ·subst b
  rw [e,show eC [91,93]=[[91],[93]] from rfl,cT,cT,(jc (c:=91) (by simp)).2,(jc (c:=93) (by simp)).2];rfl
 ·subst b
  rw [e,show eC [123,125]=[[123],[125]] from rfl,cT,cT,(jc (c:=123) (by simp)).2,(jc (c:=125) (by simp)).2];rfl
 ·rw [g,cT]
  rcases a with ⟨_,a⟩ | ⟨_,a⟩ <;> rw [a] <;> rfl
theorem LR {n:Int} (h:-9223372036854775808<=n/\n<=9223372036854775807):vp (pI n)=[]:=by
 unfold vp
 by_cases d:0<=n
 ·have e:n=(n.toNat:Int):=by omega
  obtain ⟨a,c,b⟩:=tF n.toNat (by omega)
  rw [e,if_neg a.sp,b,c,cT,(lq _ (by omega)).2];rfl
 ·have e:n=-((-n).toNat:Int):=by omega
  obtain ⟨a,c,b⟩:=xB (-n).toNat (by omega) (by omega)
  rw [e,if_neg a.sp,b,cT,cT,rl.2,(lq _ (by omega)).2];rfl
theorem LQ {u:Nat} (h:u<=9223372036854775807):vp (pV u)=[pV u]:=by
 obtain ⟨_,a,b,c⟩:=wT u h
 unfold vp
 rw [if_neg b.sp,c]
 have e:([pV (u:Int)].filter fun x=>(cC x x 0).kind==3)=[pV u]:=by rw [cT,a];rfl
 rw [e,bE,eG,a]
def vl (l:List ByteArray):List (List UInt8):=(bl l).flatMap vp
theorem mh (a b:List ByteArray):vl (a++b)=vl a++vl b:=by unfold vl;rw [fB,List.flatMap_append]
theorem lO (a:ByteArray) (b:List ByteArray):vl (a::b)=vp a.data.toList++vl b:=by unfold vl;rw [bW,ek]
theorem px:vl []=[]:=rfl
theorem kB {c:UInt8} {b:List ByteArray} (a:c=40\/c=41\/c=91\/c=93\/c=123\/c=125\/c=44\/c=124):vl (s1 c::b)=vl b:=by
 rw [lO,show (s1 c).data.toList=[c] from rfl,wK a];rfl
theorem wL (l:List ByteArray) (b:Bool):vl (brk l b)=vl l:=by
 cases b
 ·rw [qS]
 ·rw [qQ,kB (by simp),mh,kB (by simp),px,aA]
def ov (t:Tm):List (List UInt8):=(If t).map pV
theorem sN (t:Tm) (k:t.kind=3):ov t=t.args.flatMap ov:=by
 unfold ov
 rw [tM,if_neg (by omega),List.nil_append,List.map_flatMap]
theorem xG {t:Tm} (h:NOk t) (k:t.kind=1\/t.kind=2):ov t=[]:=by
 have e:t.args=[]:=by
  rcases k with k | k
  ·exact (h.int k).2
  ·exact (h.atom k).2.2
 unfold ov
 rw [tM,if_neg (by omega),e];rfl
theorem sX (f:Cx o T S E ρ) {t:Tm} (h:NOk t) (k:t.kind=3->vl (S t).1=ov t) (m:Int) (b:Bool):vl (bu o T S t m b)=ov t:=by
 unfold bu
 by_cases a:t.kind=0
 ·rw [if_pos a]
  obtain ⟨i,j,_,g⟩:=h.var a
  have e:t.num=(t.num.toNat:Int):=by omega
  rw [lO,vh,px,aA,e,LQ (by omega),<-e]
  unfold ov
  rw [tM,if_pos a,g];rfl
 rw [if_neg a]
 by_cases d:t.kind=1
 ·rw [if_pos d,xG h (.inl d),lO,um,LR h.2];rfl
 rw [if_neg d]
 by_cases c:t.kind=2
 ·rw [if_pos c,xG h (.inr c),wL,lO,mY f,CD (h.atom c).2.1];rfl
 rw [if_neg c,wL]
 have l:=h.kinds
 exact k (by omega)
theorem Jx (a:Cx o T S E ρ) {t:Tm} (h:NOk t) (k:t.kind=3->vl (S t).1=ov t) (op:OpR):vl (dE o T S t op)=ov t:=by
 unfold dE
 by_cases c:t.kind=3
 ·rw [if_pos c,wL];exact k c
 ·rw [if_neg c];exact sX a h k _ _
theorem AP {P:Tm->List ByteArray}:∀l:List Tm,(∀t∈l,vl (P t)=ov t)->vl (dh P l)=l.flatMap ov
 | [],_=>rfl
 | [t],h=>by
  have e:dh P [t]=P t:=by unfold dh;simp
  rw [e,h t (aG.2 rfl)];simp
 | t::u::l,h=>by
  have e:dh P (t::u::l)=P t++(s1 44::dh P (u::l)):=by unfold dh;simp
  rw [e,mh,kB (by simp),h t (aV ..),AP (u::l) fun x a=>h x (aW _ a)]
  rfl
theorem LB:∀(n:Nat) (t:Tm),t.nodes<=n->(cK t).flatMap ov++ov (di t)=ov t
 | 0,t,h=>absurd h (by have:=t.nodes_pos;omega)
 | n+1,t,h=>by
  cases hc:t.cons
  ·rw [iH hc,jt hc];rfl
  ·have a:=Tm.cons_len hc
   have c:=t.nodes_arg 1 (by omega)
   have b:=LB n (t.arg 1) (by omega)
   rw [iw hc,jL hc,ek,List.append_assoc,b,sN t (uz hc).1,qV a]
   simp
theorem FN (f:Cx o T S E ρ):∀(n:Nat) (t:Tm),t.nodes<=n->Tm.All NOk t->t.kind=3->vl (S t).1=ov t
 | 0,t,h,_,_=>absurd h (by have:=t.nodes_pos;omega)
 | n+1,t,h,hA,k=>by
  have H:∀u:Tm,Tm.All NOk u->u.nodes<t.nodes->u.kind=3->vl (S u).1=ov u:=fun u w F O=>FN f n u (by omega) w O
  have g:∀u:Tm,Tm.All NOk u->u.nodes<t.nodes->∀m b,vl (bu o T S u m b)=ov u:=fun u w F m b=>sX f w.here (H u w F) m b
  obtain ⟨_,L,d,_⟩:=hA.here.str k
  have i:∀j,j<t.args.length->Tm.All NOk (t.arg j):=by
   intro j l
   rw [Tm.arg_get t j l];exact hA.sub _ (List.getElem_mem l)
  have v:vp (jB o t.name).data.toList=[]:=by rw [mY f];exact CD L
  have C:∀op,vl (dE o T S (t.arg 0) op)=ov (t.arg 0):=fun op=>Jx f (i 0 d).here (H _ (i 0 d) (t.nodes_arg 0 d)) op
  have B:∀x∈t.args,Tm.All NOk x/\x.nodes<t.nodes:=by
   intro x c
   refine ⟨hA.sub x c,?_⟩
   obtain ⟨j,l,rfl⟩:=List.getElem_of_mem c
   rw [<-Tm.arg_get t j l]
   exact t.nodes_arg j l
  have z:t.args.length=1->ov t=ov (t.arg 0):=fun e=>by rw [sN t k,qW e];simp
  have J:t.args.length=2->ov t=ov (t.arg 0)++ov (t.arg 1):=fun e=>by rw [sN t k,qV e];simp
  rw [f.st t hA k]
  unfold mw
  rw [qC f,if_neg (by simp)]
  by_cases y:(t.isNm [46]&&t.args.length==2)=true
  ·rw [if_pos y]
   have K:t.cons=true:=by unfold Tm.cons;rw [k,y];rfl
   obtain ⟨A,I,Q,_⟩:=qJ _ t (ag _) hA
   show vl (s1 91::((dh (cR o T S) (cK t)++jd (cR o T S) (di t))++[s1 93]))=_
   rw [kB (by simp),mh,mh,kB (by simp),px,aA,AP (P:=cR o T S) _ fun x c=>g x (A x c).1 (A x c).2 999 false,<-LB _ t (ag _)]
   congr 1
   unfold jd
   split
   ·rename_i G
    simp only [aF,beq_iff_eq] at G
    rw [xG I.here (.inr G.1)];rfl
   ·rw [kB (by simp)];exact g _ I (Q K) 999 false
  rw [if_neg y]
  by_cases p:(!o.ig&&(t.isNm [123,125]&&t.args.length==1))=true
  ·rw [if_pos p]
   simp only [aF,beq_iff_eq] at p
   show vl (s1 123::(bu o T S (t.arg 0) 1200 false++[s1 125]))=_
   rw [kB (by simp),mh,kB (by simp),px,aA,g _ (i 0 d) (t.nodes_arg 0 d),z p.2.2]
  rw [if_neg p]
  by_cases q:(!o.ig&&(has T t.name 2&&t.args.length==2))=true
  ·rw [if_pos q]
   simp only [aF,beq_iff_eq] at q
   have D:1<t.args.length:=by omega
   have a:vp (jj o t.name).data.toList=[]:=by
    unfold jj
    split
    ·rename_i a
     rw [Lib.toList_data] at a
     simp only [Bool.or_eq_true,beq_iff_eq] at a
     rcases a with a | a
     ·rw [a];exact wK (by simp)
     ·rw [a];exact wK (by simp)
    ·exact v
   show vl ((dE o T S (t.arg 0) (cP T t.name 2)++[jj o t.name])++bu o T S (t.arg 1) (dB (cP T t.name 2)) true)=_
   rw [mh,mh,C,lO,a,px,g _ (i 1 D) (t.nodes_arg 1 D),J q.2.2]
   simp
  rw [if_neg q]
  by_cases r:(!o.ig&&(has T t.name 1&&t.args.length==1))=true
  ·rw [if_pos r]
   simp only [aF,beq_iff_eq] at r
   have M:vl (gD o T S (t.arg 0) (cP T t.name 1))=ov (t.arg 0):=by
    unfold gD
    simp only
    rw [wL];exact g _ (i 0 d) (t.nodes_arg 0 d) _ _
   have N:vl (if sx t.name (gD o T S (t.arg 0) (cP T t.name 1))=true then [s1 32] else [])=[]:=by
    split
    ·rfl
    ·rfl
   show vl (jB o t.name::((if sx t.name (gD o T S (t.arg 0) (cP T t.name 1))=true then [s1 32] else [])++gD o T S (t.arg 0) (cP T t.name 1)))=_
   rw [lO,v,mh,N,M,z r.2.2];rfl
  rw [if_neg r]
  by_cases s:(!o.ig&&(has T t.name 3&&t.args.length==1))=true
  ·rw [if_pos s]
   simp only [aF,beq_iff_eq] at s
   show vl (dE o T S (t.arg 0) (cP T t.name 3)++[jB o t.name])=_
   rw [mh,C,lO,v,px,z s.2.2]
   simp
  rw [if_neg s]
  show vl (jB o t.name::(s1 40::(dh (cR o T S) t.args++[s1 41])))=_
  rw [lO,v,kB (by simp),mh,kB (by simp),px,aA,AP (P:=cR o T S) _ fun x c=>g x (B x c).1 (B x c).2 999 false,sN t k];rfl
theorem Jw (a:Cx o T S E ρ) {t:Tm} (c:Tm.All NOk t) (m:Int) (b:Bool):vl (bu o T S t m b)=ov t :=
 sX a c.here (fun k=>FN a _ t (ag _) c k) m b
end
structure VIs (v:VS) (acc:List Int):Prop where
 c:v.c=acc.length
 pos:∀n∈acc,0<=n
 look:∀u:Int,0<=u->v.look (pV u)=if u∈acc then some (acc.idxOf u) else none
theorem VIs.step {v:VS} {acc:List Int} (h:VIs v acc) {n:Int} (o:0<=n):VIs (v.step (pV n)) (uJ acc n):=by
 have g:=h.look n o
 by_cases f:n∈acc
 ·have e:uJ acc n=acc:=by unfold uJ;rw [if_pos f]
  rw [if_pos f] at g
  have k:v.old (pV n)=true:=by
   unfold VS.old
   rw [g,decide_eq_true (tG n)];rfl
  rw [e]
  refine ⟨?_,h.pos,fun u l=>?_⟩
  ·unfold VS.step
   simp only
   rw [if_pos k];exact h.c
  ·rw [step_look,h.look u l]
   by_cases b:u∈acc
   ·rw [if_pos b]
   ·rw [if_neg b]
    simp only
    rw [if_neg]
    rintro ⟨d,_⟩
    have i:n=(n.toNat:Int):=by omega
    have j:u=(u.toNat:Int):=by omega
    rw [i,j] at d
    have:=Bs d
    have:n=u:=by omega
    subst this
    exact b f
 ·have e:uJ acc n=acc++[n]:=by unfold uJ;rw [if_neg f]
  rw [if_neg f] at g
  have k:¬v.old (pV n)=true:=by
   unfold VS.old
   rw [g];simp
  rw [e]
  refine ⟨?_,fun x a=>?_,fun u l=>?_⟩
  ·unfold VS.step
   simp only
   rw [if_neg k,h.c,aB];rfl
  ·rcases dm.1 a with a | a
   ·exact h.pos x a
   ·rw [aG.1 a];exact o
  ·rw [step_look,h.look u l]
   by_cases b:u∈acc
   ·rw [if_pos b,if_pos (List.mem_append_left _ b),List.idxOf_append,if_pos b]
   ·rw [if_neg b]
    simp only
    by_cases d:n=u
    ·subst d
     rw [if_pos ⟨rfl,tG n⟩,if_pos (by simp),h.c,List.idxOf_append,if_neg b]
     simp
    ·rw [if_neg,if_neg]
     ·intro a
      rcases dm.1 a with a | a
      ·exact b a
      ·exact d (aG.1 a).symm
     ·rintro ⟨m,_⟩
      have i:n=(n.toNat:Int):=by omega
      have j:u=(u.toNat:Int):=by omega
      rw [i,j] at m
      have:=Bs m
      omega
theorem VIs.fold:∀(l:List Int) (v:VS) (a:List Int),(∀n∈l,0<=n)->VIs v a->VIs ((l.map pV).foldl VS.step v) (l.foldl uJ a)
 | [],_,_,_,h=>h
 | n::l,v,a,hl,h=>by
  rw [bE,dW,dW]
  exact VIs.fold l _ _ (fun x b=>hl x (aW _ b)) (h.step (hl n (aV ..)))
theorem Kz:∀t:Tm,Tm.All NOk t->∀n∈If t,0<=n:=Tm.ind fun t e c n b=>by
 rw [tM] at b
 rcases dm.1 b with b | b
 ·by_cases k:t.kind=0
  ·rw [if_pos k] at b
   rw [aG.1 b]
   exact (c.here.var k).1
  ·rw [if_neg k] at b;cases b
 ·obtain ⟨a,d,b⟩:=List.mem_flatMap.1 b
  exact e a d (c.sub a d) n b
theorem JX {o:WO} {T:List OpR} {S:Tm->WR} (z:o.q=true) (w:o.nu=false) (B:bB T=true) (A:∀t:Tm,Tm.All NOk t->t.kind=3->S t=mw o T S t) {t:Tm} (b:Tm.All NOk t) (s:Bool):fX (tt (Jk o T S t s)) t=fX (ed (dJ t [])) t:=by
 have d:=Dz z w B A [] 0 (tt []) fun _ _=>rfl
 have y:PL (bu o T S t 1200 false):=Dc d b 1200 false
 have l:∀x∈ji [] false (lY o T S t),TokText x.2:=qN _ _ _ y.pc
 have C:vl (bu o T S t 1200 false)=ov t:=Jw d b 1200 false
 have g:=qH s (fJ (lY o T S t)).length (ji [] false (lY o T S t)) 0 l
 rw [wJ] at g
 have p:((Jk o T S t s).filter qB).map (fun t=>t.r.text)=(If t).map pV:=g.trans C
 have D:pw (Jk o T S t s)=((If t).map pV).foldl VS.step vs0:=by
  unfold pw
  rw [<-p,List.foldl_map]
 have j:VIs (pw (Jk o T S t s)) (dJ t []):=by
  rw [D,FP]
  exact VIs.fold _ _ _ (Kz t b) ⟨rfl,(fun n v=>by cases v),fun u _=>rfl⟩
 refine ru t ?_
 have m:=(oF t []).2.2
 have F:∀u:Tm,Tm.All NOk u->Tm.All (fun x=>x.kind=0->x.num∈dJ t []) u->Tm.All (fun x=>x.kind=0->tt (Jk o T S t s) x.num=ed (dJ t []) x.num) u :=
  Tm.ind fun u E e f=>.mk u (fun k=>by
   have i:=f.here k
   have h:=j.look u.num (e.here.var k).1
   rw [if_pos i] at h
   unfold tt ed
   rw [tN h (tG _),if_pos i]) fun a c=>E a c (e.sub a c) (f.sub a c)
 exact F t b m
theorem zb {o:WO} {T:List OpR} {S:Tm->WR} (i:o.q=true) (g:o.nu=false) (k:bB T=true) (j:∀t:Tm,Tm.All NOk t->t.kind=3->S t=mw o T S t) {t:Tm} (f:Tm.All NOk t) (l:cd t=true) (q u:Int) (c d:Bool) (p:Sy.ok ⟨T,q,u,c,d,[]⟩=true) (r:(fJ (lY o T S t)).length<=16382) :
  ∃names singles,tu (fJ (lY o T S t)++[32,46]) 0 ⟨T,q,u,c,d,[]⟩=⟨gy t,names,singles,((fJ (lY o T S t)).length:Int)+2,0,0⟩/\cd (gy t)=true/\gy (gy t)=gy t:=by
 obtain ⟨n,s,h,a,b⟩:=zc i g k j f l Fl true (fun h=>by cases h) q u c d p (by rw [aB];show _+2<=_;omega)
 have m:fX (tt (Jk o T S t true)) t=gy t:=by
  rw [JX i g k j f true]
  unfold gy
  rw [if_pos l]
 rw [m] at h a b
 refine ⟨n,s,?_,a,b⟩
 have e:(((fJ (lY o T S t)).length+(ki true).length:Nat):Int)+1=((fJ (lY o T S t)).length:Int)+2:=by
  have:(ki true).length=1:=rfl
  omega
 rw [e] at h
 exact h
theorem pX {o:WO} {T:List OpR} (r:o.q=true) (p:o.nu=false) {t:Tm} (l:Tm.All (fun x=>dP x=true) t) (h:(oZ o T t).2=0) (e:(oZ o T t).1.size<=16382) (q u:Int) (c d:Bool) (m:Ci ⟨q,u,c,d⟩=true) :
  cd t=true/\bB T=true/\∃names singles,tu ((oZ o T t).1.data.toList++[32,46]) 0 ⟨T,q,u,c,d,[]⟩=⟨gy t,names,singles,((oZ o T t).1.size:Int)+2,0,0⟩/\cd (gy t)=true/\gy (gy t)=gy t:=by
 cases hb:(cd t&&bB T)
 ·rw [wM hb] at h;cases h
 ·have f:=hb
  rw [aF] at f
  obtain ⟨b,a⟩:=f
  refine ⟨b,a,?_⟩
  rw [qc hb] at h e |-
  by_cases g:(jU (qZ o T t 1200 false)).size<=16384
  ·rw [qw g] at e |-
   have hd:(jU (qZ o T t 1200 false)).data.toList=fJ (lY o T (str o T) t):=by unfold jU;rw [Km]
   have s:(jU (qZ o T t 1200 false)).size=(fJ (lY o T (str o T) t)).length:=by rw [<-hd,<-ByteArray.size_data,<-Array.length_toList]
   have v:(jU (qZ o T t 1200 false)).size<=16382:=e
   obtain ⟨n,i,j,k⟩:=zb r p a (LX o T) (Mn t (Okf.of_valid b l).1) b q u c d (by unfold Sy.ok;rw [a,m];rfl) (by omega)
   refine ⟨n,i,?_,k⟩
   show tu ((jU (qZ o T t 1200 false)).data.toList++[32,46]) 0 _=⟨gy t,n,i,((jU (qZ o T t 1200 false)).size:Int)+2,0,0⟩
   rw [hd,j,s]
  ·rw [xV g] at h;cases h
end Hb
