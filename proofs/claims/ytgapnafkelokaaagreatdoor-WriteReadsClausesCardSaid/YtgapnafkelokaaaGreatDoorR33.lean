/- Parts of the proof. -/
import Derived.Test.YtgapnafkelokaaaGreatDoorR01
import Derived.Test.YtgapnafkelokaaaGreatDoorR32
import Derived.Test.YtgapnafkelokaaaGreatDoorR12
import Derived.Test.YtgapnafkelokaaaGreatDoorR29
import Derived.Test.YtgapnafkelokaaaGreatDoorR11
open Bool renaming and_eq_true -> aE
open List renaming append_assoc -> bG, append_nil -> az, cons_append -> ai, foldl_cons -> fB, getElem_mem -> aQ, getElem_of_mem -> dO, length_append -> aC, length_cons -> be, map_cons -> bR, map_nil -> ek, mem_append -> dl, mem_cons -> bi, mem_cons_of_mem -> ba, mem_cons_self -> aY, mem_map -> fe, mem_singleton -> aJ, nil_append -> am
open Nat renaming le_refl -> ag
namespace Hb
open Go Go.RowKit
section
variable {o:WO} {T:List OpR} {S:Tm->WR} {E:RE} {ρ:Int->Int}
theorem zZ {t:Tm} (h:t.cons=true):t.kind=3/\t.name.toList=[46]/\t.args.length=2:=by
 unfold Tm.cons Tm.isNm at h
 simp only [aE,beq_iff_eq] at h
 exact ⟨h.1,h.2.1,h.2.2⟩
theorem sR:∀(n:Nat) (t:Tm),t.nodes<=n->Tm.All NOk t->(∀x∈cE t,Tm.All NOk x/\x.nodes<t.nodes)/\Tm.All NOk (cS t)/\(t.cons=true->(cS t).nodes<t.nodes)/\(t.cons=false->cS t=t)
 | 0,t,h,_=>absurd h (by have:=t.nodes_pos;omega)
 | n+1,t,h,hA=>by
  cases hc:t.cons
  ·rw [iI hc,jl hc]
   exact ⟨(fun x a=>by cases a),hA,(fun h=>by cases h),fun _=>rfl⟩
  ·have k:=Tm.cons_len hc
   have i:=t.nodes_arg 0 (by omega)
   have j:=t.nodes_arg 1 (by omega)
   have b:Tm.All NOk (t.arg 0):=by rw [Tm.arg_get t 0 (by omega)];exact hA.sub _ (aQ _)
   have c:Tm.All NOk (t.arg 1):=by rw [Tm.arg_get t 1 (by omega)];exact hA.sub _ (aQ _)
   obtain ⟨d,e,f,g⟩:=sR n (t.arg 1) (by omega) c
   rw [ju hc,kG hc]
   refine ⟨fun x a=>?_,e,fun _=>?_,(fun h=>by cases h)⟩
   ·rcases bi.1 a with rfl | a
    ·exact ⟨b,i⟩
    ·have:=d x a
     exact ⟨this.1,by omega⟩
   ·cases h1:(t.arg 1).cons
    ·rw [g h1];exact j
    ·have:=f h1;omega
theorem ET:∀(n:Nat) (t:Tm),t.nodes<=n->Tm.All NOk t->qV ((cE t).map (fT ρ)) (fT ρ (cS t))=fT ρ t
 | 0,t,h,_=>absurd h (by have:=t.nodes_pos;omega)
 | n+1,t,h,hA=>by
  cases hc:t.cons
  ·rw [iI hc,jl hc];rfl
  ·have c:=Tm.cons_len hc
   have e:=t.nodes_arg 1 (by omega)
   have a:Tm.All NOk (t.arg 1):=by rw [Tm.arg_get t 1 (by omega)];exact hA.sub _ (aQ _)
   obtain ⟨b,d,_⟩:=zZ hc
   rw [ju hc,kG hc,bR]
   show mw ⟨#[46]⟩ [fT ρ (t.arg 0),qV ((cE (t.arg 1)).map (fT ρ)) (fT ρ (cS (t.arg 1)))]=_
   rw [ET n (t.arg 1) (by omega) a,lX hA.here b,yC c,uD d]
   rfl
theorem xb {P:Tm->List ByteArray}:∀l:List Tm,(∀t∈l,1<=tl (bl (P t)))->l.length<=tl (bl (cY P l))
 | [],_=>by simp
 | [t],h=>by
  have e:cY P [t]=P t:=by unfold cY;simp
  rw [e];exact h t (aJ.2 rfl)
 | t::u::l,h=>by
  have e:cY P (t::u::l)=P t++(s1 44::cY P (u::l)):=by unfold cY;simp
  have:=xb (u::l) fun x a=>h x (ba _ a)
  have b:=h t (aY ..)
  rw [e,fw,kh,bQ,show (s1 44).data.toList=[44] from rfl,iB (by simp),be]
  omega
theorem Jc {P:Tm->List ByteArray} {l:List Tm} (a:¬l=[]) (h:∀t∈l,HdL (P t)):HdL (cY P l):=by
 cases l with
 | nil=>exact absurd rfl a
 | cons t l=>unfold cY;exact (h t (aY ..)).app
theorem zO {i:Nat} {l:List ByteArray} {r:List (List UInt8)} (h:HdL l) (a:Sp E i (bl l++r)):isP (E.at i) [93]=false/\isP (E.at i) [125]=false:=by
 obtain ⟨p,x,rfl,d⟩:=h
 rw [bQ,ai] at a
 obtain ⟨b,c,_⟩:=d.facts a
 exact ⟨b,c⟩
theorem ti (a:Cx o T S E ρ) {u:Tm} (c:Tm.All NOk u) (m:Int) (b:Bool):HdL (bo o T S u m b):=qe a c.here (fun k=>(zN a u c k).1) m b
theorem rg (g:Cx o T S E ρ) {t:Tm} (j:Sm S E ρ t) {l:List Tm} (s:¬l=[]) (e:∀x∈l,Tm.All NOk x/\x.nodes<t.nodes) {i f:Nat} {c:UInt8} {r:List (List UInt8)} (d:c=41\/c=93\/c=124)
  (h:Sp E i (bl (cY (cF o T S) l)++[c]::r)) (n:i+tl (bl (cY (cF o T S) l))<E.T.length) (q:tl (bl (cY (cF o T S) l))<=f) :
  pN E (ly E (f+1)) i=.ok (l.map (fT ρ),i+tl (bl (cY (cF o T S) l)))/\PuTk (E.at (i+tl (bl (cY (cF o T S) l)))) c/\Sp E (i+tl (bl (cY (cF o T S) l))+1) r:=by
 obtain ⟨_,k⟩:=h.app
 obtain ⟨a,m⟩:=k.solo (by rcases d with rfl|rfl|rfl <;> simp)
 have u:Stop E (i+tl (bl (cY (cF o T S) l))) 999:=by
  rcases d with rfl|rfl|rfl
  ·exact a.stop (by decide)
  ·exact a.stop (by decide)
  ·exact Aq a (.inr rfl)
 have p:=rR g l s (fun x b=>lH g (j x (e x b).1 (e x b).2).1 (j x (e x b).1 (e x b).2).2 999 false) i f _ h n q (a.nx (by rcases d with rfl|rfl|rfl <;> decide)) u (a.alone (by rcases d with rfl|rfl|rfl <;> decide)) (a.notP (by rcases d with rfl|rfl|rfl <;> decide))
 refine ⟨Gy p ?_,a,m⟩
 have:=xb (P:=cF o T S) l fun x b=>Fi (ti g (e x b).1 999 false)
 rw [List.length_map]
 omega
theorem Em (d:Cx o T S E ρ) {t:Tm} (w:Tm.All NOk t) (u:Sm S E ρ t) (y:t.cons=true) :
  Dg E ρ t (s1 91::((cY (cF o T S) (cE t)++iR (cF o T S) (cS t))++[s1 93])) op0:=by
 intro i f most r A h e b N C
 obtain ⟨m,F,M,_⟩:=sR _ t (ag _) w
 have p:¬cE t=[]:=by rw [ju y];simp
 have z:=Jc (P:=cF o T S) p (fun x b=>ti d (m x b).1 999 false)
 rw [bQ,show (s1 91).data.toList=[91] from rfl,ai] at A
 obtain ⟨D,a⟩:=A.solo (by simp)
 have v:=ET (ρ:=ρ) _ t (ag _) w
 by_cases c:((cS t).kind==2&&(cS t).isNm [91,93])=true
 ·have l:iR (cF o T S) (cS t)=[]:=by unfold iR;rw [if_pos c]
  rw [l,az] at a h e b C |-
  have n:tl (bl (s1 91::(cY (cF o T S) (cE t)++[s1 93])))=tl (bl (cY (cF o T S) (cE t)))+2:=by
   rw [bQ,fw,show (s1 91).data.toList=[91] from rfl,iB (by simp),kh,bQ,show (s1 93).data.toList=[93] from rfl,iB (by simp),ga,kF];omega
  rw [n] at h e b |-
  rw [fw,bQ,ga,bG,ai,am,show (s1 93).data.toList=[93] from rfl] at a
  obtain ⟨f,rfl⟩:∃g,f=g+1:=⟨f-1,by omega⟩
  obtain ⟨s,j,_⟩:=rg (f:=f) d u p m (.inr (.inl rfl)) a (by omega) (by omega)
  have:=xA (most:=most) D (zO z a).1 s (DI (j.notP (by decide))) j.isP
  have H:(pU:Tm)=fT ρ (cS t):=by
   simp only [aE,beq_iff_eq] at c
   rw [xe F.here c.1]
   have:(cS t).name=⟨#[91,93]⟩:=uD (by have:=c.2;unfold Tm.isNm at this;simpa using this)
   rw [this];rfl
  rw [H,v,show i+1+tl (bl (cY (cF o T S) (cE t)))+1=i+(tl (bl (cY (cF o T S) (cE t)))+2) by omega] at this
  exact Rch.opd this (by omega)
 ·have l:iR (cF o T S) (cS t)=s1 124::cF o T S (cS t):=by unfold iR;rw [if_neg c]
  rw [l] at a h e b C |-
  have n:tl (bl (s1 91::((cY (cF o T S) (cE t)++s1 124::cF o T S (cS t))++[s1 93])))=tl (bl (cY (cF o T S) (cE t)))+(tl (bl (cF o T S (cS t)))+3):=by
   rw [bQ,fw,fw,show (s1 91).data.toList=[91] from rfl,iB (by simp),kh,kh,bQ,bQ,show (s1 93).data.toList=[93] from rfl,show (s1 124).data.toList=[124] from rfl,iB (by simp),iB (by simp),ga,kF];omega
  rw [n] at h e b |-
  rw [fw,fw,bQ,bQ,ga,bG,bG,ai,ai,am,show (s1 93).data.toList=[93] from rfl,show (s1 124).data.toList=[124] from rfl] at a
  obtain ⟨f,rfl⟩:∃g,f=g+1:=⟨f-1,by omega⟩
  obtain ⟨s,j,B⟩:=rg (f:=f) d u p m (.inr (.inr rfl)) a (by omega) (by omega)
  obtain ⟨_,J⟩:=B.app
  obtain ⟨k,_⟩:=J.solo (by simp)
  obtain ⟨L,K⟩:=u _ F (M y)
  obtain ⟨q,I⟩:=lH d L K 999 false _ f _ B (show _<_ by show i+1+tl (bl (cY (cF o T S) (cE t)))+1+tl (bl (cF o T S (cS t)))<_;omega) (show tl (bl (cF o T S (cS t)))<=_ by omega) (k.nx (by decide)) (k.stop (by decide)) (fun _=>k.alone (by decide))
  have:=xA (most:=most) D (zO z a).1 s (DK j.isP I) k.isP
  rw [v] at this
  have G:i+1+tl (bl (cY (cF o T S) (cE t)))+1+tl (bl (bo o T S (cS t) 999 false))+1=i+(tl (bl (cY (cF o T S) (cE t)))+(tl (bl (cF o T S (cS t)))+3)):=by
   show i+1+tl (bl (cY (cF o T S) (cE t)))+1+tl (bl (cF o T S (cS t)))+1=_
   omega
  rw [G] at this
  exact Rch.opd this (by omega)
theorem Ce (d:Cx o T S E ρ) {t:Tm} (c:Tm.All NOk t) (k:t.kind=3) (w:Sm S E ρ t) (p:t.name.toList=[123,125]) (m:t.args.length=1) :
  Dg E ρ t (s1 123::(bo o T S (t.arg 0) 1200 false++[s1 125])) op0:=by
 intro i f most r e n l v A B
 obtain ⟨y,x⟩:=rI w c (show 0<t.args.length by omega)
 have j:Tm.All NOk (t.arg 0):=by rw [Tm.arg_get t 0 (by omega)];exact c.sub _ (aQ _)
 rw [bQ,show (s1 123).data.toList=[123] from rfl,ai] at e
 obtain ⟨z,a⟩:=e.solo (by simp)
 have h:tl (bl (s1 123::(bo o T S (t.arg 0) 1200 false++[s1 125])))=tl (bl (bo o T S (t.arg 0) 1200 false))+2:=by
  rw [bQ,fw,show (s1 123).data.toList=[123] from rfl,iB (by simp),kh,bQ,show (s1 125).data.toList=[125] from rfl,iB (by simp),ga,kF];omega
 rw [h] at n l v |-
 rw [fw,bQ,ga,bG,ai,am,show (s1 125).data.toList=[125] from rfl] at a
 obtain ⟨_,u⟩:=a.app
 obtain ⟨b,_⟩:=u.solo (by simp)
 obtain ⟨f,rfl⟩:∃g,f=g+1:=⟨f-1,by omega⟩
 obtain ⟨q,s⟩:=lH d y x 1200 false _ f _ a (by omega) (by omega) (b.nx (by decide)) (b.stop (by decide)) (fun _=>b.alone (by decide))
 have:=Cl (most:=most) z (zO (ti d j 1200 false) a).2 s b.isP
 rw [show i+1+tl (bl (bo o T S (t.arg 0) 1200 false))+1=i+(tl (bl (bo o T S (t.arg 0) 1200 false))+2) by omega] at this
 rw [lX c.here k,th m,bR,ek,uD p]
 exact Rch.opd this (by omega)
theorem En (c:Cx o T S E ρ) {t:Tm} (h:Tm.All NOk t) (k:t.kind=3) (F:Sm S E ρ t) :
  Dg E ρ t (jo o t.name::(s1 40::(cY (cF o T S) t.args++[s1 41]))) op0:=by
 intro i f most r D A w d N O
 obtain ⟨_,B,z,_⟩:=h.here.str k
 have C:¬t.args=[]:=fun e=>by rw [e] at z;simp at z
 have u:∀x∈t.args,Tm.All NOk x/\x.nodes<t.nodes:=by
  intro x d
  refine ⟨h.sub x d,?_⟩
  obtain ⟨j,y,rfl⟩:=dO d
  rw [<-Tm.arg_get t j y]
  exact t.nodes_arg j y
 rw [bQ,mT c,ai,bQ,show (s1 40).data.toList=[40] from rfl,ai,fw,bQ,ga,bG,ai,am,show (s1 41).data.toList=[41] from rfl] at D
 have M:∀x,tl (bl (s1 40::(cY (cF o T S) t.args++[s1 41])))+x=tl (bl (cY (cF o T S) t.args))+2+x:=by
  intro x
  rw [uK]
 rcases mU B D with ⟨a,b,v,e,K,L,m⟩ | ⟨I,J,H,m⟩
 ·have l:tl (bl (jo o t.name::(s1 40::(cY (cF o T S) t.args++[s1 41]))))=tl (bl (cY (cF o T S) t.args))+4:=by
   rw [bQ,mT c,e,uJ v,uK];omega
  rw [l] at A w d |-
  obtain ⟨n,q⟩:=uQ m
  obtain ⟨f,rfl⟩:∃g,f=g+1:=⟨f-1,by omega⟩
  obtain ⟨p,s,_⟩:=rg (f:=f) c F C u (.inl rfl) q (by omega) (by omega)
  have:=vC (most:=most) v K L n p s.isP
  have G:(⟨#[a,b]⟩:ByteArray)=t.name:=by rw [<-ib t.name,e]
  rw [G,<-lX h.here k,show i+2+1+tl (bl (cY (cF o T S) t.args))+1=i+(tl (bl (cY (cF o T S) t.args))+4) by omega] at this
  exact Rch.opd this (by omega)
 ·have l:tl (bl (jo o t.name::(s1 40::(cY (cF o T S) t.args++[s1 41]))))=tl (bl (cY (cF o T S) t.args))+3:=by
   rw [bQ,mT c,np B I J,uK];omega
  rw [l] at A w d |-
  obtain ⟨n,q⟩:=uQ m
  obtain ⟨f,rfl⟩:∃g,f=g+1:=⟨f-1,by omega⟩
  obtain ⟨p,s,_⟩:=rg (f:=f) c F C u (.inl rfl) q (by omega) (by omega)
  have:=EI (most:=most) H n p s.isP
  rw [ib,<-lX h.here k,show i+1+1+tl (bl (cY (cF o T S) t.args))+1=i+(tl (bl (cY (cF o T S) t.args))+3) by omega] at this
  exact Rch.opd this (by omega)
theorem vq (a:Cx o T S E ρ):∀(n:Nat) (t:Tm),t.nodes<=n->Tm.All NOk t->t.kind=3->Dg E ρ t (S t).1 (S t).2/\OpFitQ (S t).2
 | 0,t,h,_,_=>absurd h (by have:=t.nodes_pos;omega)
 | n+1,t,h,hA,k=>by
  have e:Sm S E ρ t:=fun u i l=>⟨i.here,fun j=>vq a n u (by omega) i j⟩
  rw [a.st t hA k]
  unfold mx
  rw [sB a,if_neg (by simp)]
  by_cases g:(t.isNm [46]&&t.args.length==2)=true
  ·rw [if_pos g]
   exact ⟨Em a hA e (by unfold Tm.cons;rw [k,g];rfl),.inl rfl⟩
  rw [if_neg g]
  by_cases f:(!o.ig&&(t.isNm [123,125]&&t.args.length==1))=true
  ·rw [if_pos f]
   simp only [aE,beq_iff_eq,Tm.isNm] at f
   exact ⟨Ce a hA k e f.2.1 f.2.2,.inl rfl⟩
  rw [if_neg f]
  by_cases b:(!o.ig&&(has T t.name 2&&t.args.length==2))=true
  ·rw [if_pos b]
   simp only [aE,beq_iff_eq] at b
   exact ⟨Cd a hA k e b.2.1 b.2.2,.inr (lq b.2.1).fit⟩
  rw [if_neg b]
  by_cases c:(!o.ig&&(has T t.name 1&&t.args.length==1))=true
  ·rw [if_pos c]
   simp only [aE,beq_iff_eq] at c
   exact ⟨GI a hA k e c.2.1 c.2.2,.inr (lq c.2.1).fit⟩
  rw [if_neg c]
  by_cases d:(!o.ig&&(has T t.name 3&&t.args.length==1))=true
  ·rw [if_pos d]
   simp only [aE,beq_iff_eq] at d
   exact ⟨El a hA k e d.2.1 d.2.2,.inr (lq d.2.1).fit⟩
  rw [if_neg d]
  exact ⟨En a hA k e,.inl rfl⟩
theorem GH (a:Cx o T S E ρ) {t:Tm} (b:Tm.All NOk t) (max:Int) (opd:Bool):Kf E ρ t (bo o T S t max opd) max opd :=
 lH a b.here (fun k=>vq a _ t (ag _) b k) max opd
end
section
variable {o:WO} {T:List OpR} {S:Tm->WR} {E:RE} {ρ:Int->Int}
theorem wP:∀{a b:List (List UInt8)},qr a->qr b->qr (a++b)
 | [],_,_,h=>h
 | p::a,b,h,k=>by
  rw [ai,qr]
  refine ⟨fun e=>?_,wP h.2 k⟩
  obtain ⟨q,r,c,d⟩:=h.1 e
  exact ⟨q,r++b,by rw [c];rfl,d⟩
structure PL (l:List ByteArray):Prop where
 pc:∀p∈bl l,p=[32]\/PcOk p
 sp:qr (bl l)
theorem PL.nil:PL []:=⟨(fun p a=>by cases a),trivial⟩
theorem PL.app {a b:List ByteArray} (h:PL a) (k:PL b):PL (a++b):=by
 refine ⟨fun p c=>?_,?_⟩
 ·rw [fw] at c
  rcases dl.1 c with c | c
  ·exact h.pc p c
  ·exact k.pc p c
 ·rw [fw];exact wP h.sp k.sp
theorem PL.cons {a:ByteArray} {b:List ByteArray} (h:PcOk a.data.toList) (k:PL b):PL (a::b):=by
 refine ⟨fun p c=>?_,?_⟩
 ·rw [bQ] at c
  rcases bi.1 c with rfl | c
  ·exact .inr h
  ·exact k.pc p c
 ·rw [bQ,qr]
  exact ⟨fun e=>absurd e h.sp,k.sp⟩
theorem PL.one {a:ByteArray} (h:PcOk a.data.toList):PL [a]:=.cons h .nil
theorem PL.solo {c:UInt8} {b:List ByteArray} (a:c=40\/c=41\/c=91\/c=93\/c=123\/c=125\/c=44\/c=124) (k:PL b):PL (s1 c::b):=.cons (nE a).1 k
theorem PL.brk {l:List ByteArray} {b:Bool} (h:PL l):PL (brk l b):=by
 cases b
 ·rw [qQ];exact h
 ·rw [qP];exact .solo (by simp) (h.app (.solo (by simp) .nil))
theorem rX (a:Cx o T S E ρ) {t:Tm} (h:NOk t) (k:t.kind=3->PL (S t).1) (m:Int) (b:Bool):PL (bo o T S t m b):=by
 rcases mQ (o:=o) (T:=T) (S:=S) h m b with ⟨c,e⟩ | ⟨c,e⟩ | ⟨c,⟨e,d⟩ | e⟩ | ⟨c,⟨e,d⟩ | e⟩ <;> rw [e]
 ·obtain ⟨f,g,_⟩:=h.var c
  have e:t.num=(t.num.toNat:Int):=by omega
  refine .one ?_
  rw [ww,e]
  exact (yK _ (by omega)).2.2.1
 ·refine .one ?_
  rw [uo]
  have d:=h.2
  by_cases f:0<=t.num
  ·have e:t.num=(t.num.toNat:Int):=by omega
   rw [e];exact (vw _ (by omega)).1
  ·have e:t.num=-((-t.num).toNat:Int):=by omega
   rw [e];exact (zj _ (by omega) (by omega)).1
 ·exact .one (by rw [mT a];exact (oX _ (h.atom c).2.1).1)
 ·exact .solo (by simp) (.app (.one (by rw [mT a];exact (oX _ (h.atom c).2.1).1)) (.solo (by simp) .nil))
 ·exact k c
 ·exact .solo (by simp) ((k c).app (.solo (by simp) .nil))
theorem GO (a:Cx o T S E ρ) {t:Tm} (h:NOk t) (k:t.kind=3->PL (S t).1) (op:OpR):PL (dC o T S t op):=by
 unfold dC
 by_cases c:t.kind=3
 ·rw [if_pos c];exact (k c).brk
 ·rw [if_neg c];exact rX a h k _ _
theorem zi {P:Tm->List ByteArray}:∀l:List Tm,(∀t∈l,PL (P t))->PL (cY P l)
 | [],_=>.nil
 | [t],h=>by
  have e:cY P [t]=P t:=by unfold cY;simp
  rw [e];exact h t (aJ.2 rfl)
 | t::u::l,h=>by
  have e:cY P (t::u::l)=P t++(s1 44::cY P (u::l)):=by unfold cY;simp
  rw [e]
  exact (h t (aY ..)).app (.solo (by simp) (zi (u::l) fun x a=>h x (ba _ a)))
theorem EB (d:Cx o T S E ρ):∀(n:Nat) (t:Tm),t.nodes<=n->Tm.All NOk t->t.kind=3->PL (S t).1
 | 0,t,h,_,_=>absurd h (by have:=t.nodes_pos;omega)
 | n+1,t,h,hA,k=>by
  have K:∀u:Tm,Tm.All NOk u->u.nodes<t.nodes->u.kind=3->PL (S u).1:=fun u w J U=>EB d n u (by omega) w U
  have i:∀u:Tm,Tm.All NOk u->u.nodes<t.nodes->∀m b,PL (bo o T S u m b):=fun u w J m b=>rX d w.here (K u w J) m b
  obtain ⟨_,Q,a,_⟩:=hA.here.str k
  have g:∀j,j<t.args.length->Tm.All NOk (t.arg j):=by
   intro j q
   rw [Tm.arg_get t j q];exact hA.sub _ (aQ q)
  have s:PcOk (jo o t.name).data.toList:=by rw [mT d];exact (oX _ Q).1
  have I:∀op,PL (dC o T S (t.arg 0) op):=fun op=>GO d (g 0 a).here (K _ (g 0 a) (t.nodes_arg 0 a)) op
  have F:∀x∈t.args,Tm.All NOk x/\x.nodes<t.nodes:=by
   intro x c
   refine ⟨hA.sub x c,?_⟩
   obtain ⟨j,q,rfl⟩:=dO c
   rw [<-Tm.arg_get t j q]
   exact t.nodes_arg j q
  rw [d.st t hA k]
  unfold mx
  rw [sB d,if_neg (by simp)]
  by_cases y:(t.isNm [46]&&t.args.length==2)=true
  ·rw [if_pos y]
   have P:t.cons=true:=by unfold Tm.cons;rw [k,y];rfl
   obtain ⟨r,V,W,_⟩:=sR _ t (ag _) hA
   refine .solo (by simp) (((zi _ fun x c=>i x (r x c).1 (r x c).2 999 false).app ?_).app (.solo (by simp) .nil))
   unfold iR
   split
   ·exact .nil
   ·exact .solo (by simp) (i _ V (W P) 999 false)
  rw [if_neg y]
  by_cases B:(!o.ig&&(t.isNm [123,125]&&t.args.length==1))=true
  ·rw [if_pos B]
   exact .solo (by simp) ((i _ (g 0 a) (t.nodes_arg 0 a) 1200 false).app (.solo (by simp) .nil))
  rw [if_neg B]
  by_cases z:(!o.ig&&(has T t.name 2&&t.args.length==2))=true
  ·rw [if_pos z]
   simp only [aE,beq_iff_eq] at z
   have G:1<t.args.length:=by omega
   refine ((I _).app (.one ?_)).app (i _ (g 1 G) (t.nodes_arg 1 G) _ _)
   unfold jm
   split
   ·rename_i f
    rw [Lib.toList_data] at f
    simp only [Bool.or_eq_true,beq_iff_eq] at f
    rcases f with f | f
    ·rw [f];exact (nE (by simp)).1
    ·rw [f];exact (nE (by simp)).1
   ·exact s
  rw [if_neg z]
  by_cases C:(!o.ig&&(has T t.name 1&&t.args.length==1))=true
  ·rw [if_pos C]
   have R:=i _ (g 0 a) (t.nodes_arg 0 a) (dv (cQ T t.name 1)) true
   have A:PL (iL o T S (t.arg 0) (cQ T t.name 1)):=R.brk
   have O:HdL (iL o T S (t.arg 0) (cQ T t.name 1)):=(ti d (g 0 a) _ _).brk
   refine .cons s ?_
   split
   ·refine ⟨fun p v=>?_,?_⟩
    ·rw [ai,am,bQ] at v
     rcases bi.1 v with rfl | v
     ·exact .inl rfl
     ·exact A.pc p v
    ·obtain ⟨L,M,r,H⟩:=id O
     have N:¬L.data.toList=[32]:=by
      intro e
      rw [e] at H
      have X:=Fi (l:=[s1 32]) ⟨_,_,rfl,H⟩
      have:tl (bl [s1 32])=0:=by rw [bQ,ga,show (s1 32).data.toList=[32] from rfl,DE,kF]
      omega
     rw [ai,am,bQ,qr]
     exact ⟨fun _=>⟨L.data.toList,bl M,by rw [r,bQ],N⟩,A.sp⟩
   ·exact A
  rw [if_neg C]
  by_cases D:(!o.ig&&(has T t.name 3&&t.args.length==1))=true
  ·rw [if_pos D]
   exact (I _).app (.one s)
  rw [if_neg D]
  exact .cons s (.solo (by simp) ((zi _ fun x c=>i x (F x c).1 (F x c).2 999 false).app (.solo (by simp) .nil)))
theorem GN (a:Cx o T S E ρ) {t:Tm} (c:Tm.All NOk t) (m:Int) (b:Bool):PL (bo o T S t m b) :=
 rX a c.here (fun k=>EB a _ t (ag _) c k) m b
end
structure VOk (v:VS):Prop where
 lt:∀x n,v.look x=some n->n<v.c
 inj:∀x y n,v.look x=some n->v.look y=some n->x=y
theorem EV (v:VS) (x y:List UInt8) (n:Nat) (c:Nat) (o:List Nat):(⟨c,v.m++[(x,n)],o⟩:VS).look y=match v.look y with | some k=>some k | none=>if x=y then some n else none:=by
 unfold VS.look
 simp only [List.find?_append]
 cases h:v.m.find? (fun p=>p.1==y) with
 | some p=>simp
 | none=>
  simp only [Option.map_none,Option.none_or,List.find?_cons,List.find?_nil]
  by_cases e:x=y
  ·subst e;simp
  ·have b:(x==y)=false:=by simpa using e
   simp [b,e]
theorem step_look (v:VS) (x y:List UInt8):(v.step x).look y=match v.look y with | some k=>some k | none=>if x=y/\¬x=[95] then some v.c else none:=by
 unfold VS.step
 by_cases h:v.old x=true\/x=[95]
 ·rw [if_pos h]
  show v.look y=_
  cases hy:v.look y with
  | some k=>rfl
  | none=>
   simp only
   rw [if_neg]
   rintro ⟨rfl,a⟩
   rcases h with h | h
   ·unfold VS.old at h;rw [hy] at h;simp at h
   ·exact a h
 ·rw [if_neg h,EV]
  simp only [not_or] at h
  cases hy:v.look y with
  | some k=>rfl
  | none=>simp [h.2]
theorem Bv {v:VS} {x y:List UInt8} {n:Nat} (h:v.look y=some n):(v.step x).look y=some n:=by rw [step_look,h]
theorem Bu (v:VS) {x:List UInt8} (a:¬x=[95]):(v.step x).look x=some (v.num x):=by
 rw [step_look]
 unfold VS.num
 rw [if_neg a]
 cases h:v.look x with
 | some k=>rfl
 | none=>simp [a]
theorem Do {v:VS} (h:VOk v) (x:List UInt8):VOk (v.step x):=by
 have l:v.c<=(v.step x).c:=by unfold VS.step;simp only;split <;> omega
 have f:∀y n,(v.step x).look y=some n->v.look y=some n\/(v.look y=none/\x=y/\n=v.c/\v.c<(v.step x).c):=by
  intro y n a
  rw [step_look] at a
  cases d:v.look y with
  | some k=>rw [d] at a;exact .inl a
  | none=>
   rw [d] at a
   simp only at a
   split at a
   ·rename_i g
    injection a with a
    refine .inr ⟨rfl,g.1,a.symm,?_⟩
    have j:¬v.old x=true:=by unfold VS.old;rw [g.1,d];simp
    unfold VS.step
    simp only
    rw [if_neg j];omega
   ·cases a
 refine ⟨fun y n a=>?_,fun y z n a i=>?_⟩
 ·rcases f y n a with b | ⟨_,_,rfl,d⟩
  ·have:=h.lt y n b;omega
  ·exact d
 ·rcases f y n a with b | ⟨_,b,d,_⟩
  ·rcases f z n i with e | ⟨_,_,m,_⟩
   ·exact h.inj y z n b e
   ·have:=h.lt y n b;omega
  ·rcases f z n i with e | ⟨_,e,_,_⟩
   ·have:=h.lt z n e;omega
   ·rw [<-b,<-e]
theorem wo:∀(l:List NextR) (v:VS),VOk v->VOk (l.foldl (fun v t=>v.step t.r.text) v)
 | [],_,h=>h
 | _::l,_,h=>wo l _ (Do h _)
theorem Dp (T:List NextR):VOk (qS T):=wo _ _ ⟨fun x n h=>(by cases h),fun x y n h=>(by cases h)⟩
theorem un:∀(l:List NextR) (v:VS) {y:List UInt8} {n:Nat},v.look y=some n->(l.foldl (fun v t=>v.step t.r.text) v).look y=some n
 | [],_,_,_,h=>h
 | _::l,_,_,_,h=>un l _ (Bv h)
theorem Fk:∀(l:List NextR) (v:VS),(l.foldl (fun v t=>v.step t.r.text) v).c<=v.c+l.length
 | [],_=>by simp
 | t::l,v=>by
  rw [fB,be]
  have:=Fk l (v.step t.r.text)
  have a:(v.step t.r.text).c<=v.c+1:=by unfold VS.step;simp only;split <;> omega
  omega
theorem IW (T:List NextR):(qS T).c<=T.length:=by
 have h:=Fk (T.filter qK) vs0
 have a:=List.length_filter_le qK T
 show ((T.filter qK).foldl _ vs0).c<=_
 have:vs0.c=0:=rfl
 omega
theorem Iz {T:List NextR} {i:Nat} (b:i<T.length) {x:List UInt8} (c:T[i].r.kind=3) (d:T[i].r.text=x) (f:¬x=[95]):(qS T).look x=some ((cq T i).num x):=by
 have e:T.filter qK=(T.take i).filter qK++T[i]::(T.drop (i+1)).filter qK:=by
  conv=>lhs;rw [<-List.take_append_drop i T,List.filter_append,List.drop_eq_getElem_cons b,List.filter_cons]
  have a:qK T[i]=true:=by unfold qK;rw [c];rfl
  rw [if_pos a]
 unfold qS
 rw [e,List.foldl_append,fB,d]
 exact un _ _ (Bu _ f)
theorem xI {v:VS} {x:List UInt8} {n:Nat} (h:v.look x=some n) (a:¬x=[95]):v.num x=n:=by
 unfold VS.num
 rw [if_neg a,h];rfl
theorem AM (u:Int):¬pV u=[95]:=by
 intro e
 have h:Lib.itoa u=[]:=by unfold pV at e;injection e
 unfold Lib.itoa at h
 split at h
 ·cases h
 ·have:=(ne u.toNat).2.2
  have a:Lib.decDigits u.toNat=[]:=h
  rw [a] at this;simp at this
theorem Jj {u w:Nat} (h:pV u=pV w):u=w:=by
 rw [zm,zm] at h
 injection h with _ h
 have a:=(ne u).1
 have b:=(ne w).1
 rw [h] at a
 omega
def uU (T:List NextR) (u:Int):Int:=((qS T).num (pV u):Nat)
def qs (T:List NextR) (u:Int):Prop:=∃i,∃h:i<T.length,T[i].r.kind=3/\T[i].r.text=pV u
theorem pM {T:List NextR} {u:Int} (h:qs T u):(qS T).look (pV u)=some ((qS T).num (pV u)):=by
 obtain ⟨i,c,a,b⟩:=h
 have:=Iz c a b (AM u)
 rw [this,xI this (AM u)]
theorem GB {T:List NextR} {u w:Int} (f:qs T u) (g:qs T w) (i:0<=u) (j:0<=w) (h:uU T u=uU T w):u=w:=by
 have a:=pM f
 have b:=pM g
 unfold uU at h
 have e:(qS T).num (pV u)=(qS T).num (pV w):=by omega
 rw [e] at a
 have:=(Dp T).inj _ _ _ a b
 have c:u=(u.toNat:Int):=by omega
 have d:w=(w.toNat:Int):=by omega
 rw [c,d] at this
 have:=Jj this
 omega
theorem Jd {T:List NextR} {u:Int} (c:qs T u):0<=uU T u/\uU T u<T.length:=by
 have a:=(Dp T).lt _ _ (pM c)
 have b:=IW T
 unfold uU
 omega
theorem at_get {T:List NextR} {P:List OpR} {q:Int} {i:Nat} (h:i<T.length):(⟨T,P,q⟩:RE).at i=T[i]:=by
 show uI T i=_
 unfold uI
 rw [show min i (T.length-1)=i by omega,List.getD_eq_getElem?_getD,List.getElem?_eq_getElem h];rfl
theorem GA (T:List NextR) (P:List OpR) (q:Int):∀i,i<T.length->∀u:Int,((⟨T,P,q⟩:RE).at i).r.kind=3->((⟨T,P,q⟩:RE).at i).r.text=pV u->qs T u/\((cq T i).num (pV u):Int)=uU T u:=by
 intro i c u a b
 rw [at_get c] at a b
 have:=Iz c a b (AM u)
 refine ⟨⟨i,c,a,b⟩,?_⟩
 unfold uU
 rw [xI this (AM u)]
theorem Ec {f g:Int->Int}:∀t:Tm,fT f t=fT g t->Tm.All (fun x=>x.kind=0->f x.num=g x.num) t:=Tm.ind fun t c h=>by
 refine .mk t (fun k=>?_) fun a b=>c a b ?_
 ·have:=congrArg Tm.num h
  rw [oV,oV,if_pos k,if_pos k] at this
  exact this
 ·have:=congrArg Tm.args h
  rw [kJ,kJ] at this
  exact List.map_inj_left.1 this a b
theorem GD (f g:Int->Int):∀t:Tm,fT g (fT f t)=fT (fun n=>g (f n)) t:=Tm.ind fun t d=>by
 rw [jz g,jz (fun n=>g (f n)),rO,oV,xd,kJ,List.map_map]
 congr 1
 ·by_cases c:t.kind=0 <;> simp [c]
 ·exact List.map_congr_left fun a b=>d a b
theorem Dq {f:Int->Int} {D:Int->Prop} (q:∀a b,D a->D b->f a=f b->a=b):∀(t:Tm),Tm.All (fun x=>x.kind=0->D x.num) t->∀acc:List Int,(∀n∈acc,D n)->fg (fT f t) (acc.map f)=(fg t acc).map f/\∀n∈fg t acc,D n:=by
 refine Tm.ind fun t s j acc i=>?_
 rw [mF,mF,kJ]
 have o:mG (fT f t) (acc.map f)=(mG t acc).map f/\∀n∈mG t acc,D n:=by
  unfold mG
  rw [rO,oV]
  by_cases k:t.kind=0
  ·rw [if_pos k]
   have e:(f t.num∈acc.map f)↔t.num∈acc:=by
    rw [fe]
    constructor
    ·rintro ⟨a,d,h⟩
     rw [<-q a t.num (i a d) (j.here k) h];exact d
    ·intro h;exact ⟨_,h,rfl⟩
   by_cases h:t.num∈acc
   ·rw [if_neg (fun x=>x.2 (e.2 h)),if_neg (fun x=>x.2 h)]
    exact ⟨rfl,i⟩
   ·rw [if_pos ⟨k,fun x=>h (e.1 x)⟩,if_pos ⟨k,h⟩]
    refine ⟨by simp,fun n g=>?_⟩
    rcases dl.1 g with g | g
    ·exact i n g
    ·rw [aJ.1 g];exact j.here k
  ·rw [if_neg (fun x=>k x.1),if_neg (fun x=>k x.1)]
   exact ⟨rfl,i⟩
 have w:∀(l:List Tm),(∀a∈l,a∈t.args)->∀c:List Int,(∀n∈c,D n)->(l.map (fT f)).foldl (fun acc a=>fg a acc) (c.map f)=(l.foldl (fun acc a=>fg a acc) c).map f/\∀n∈l.foldl (fun acc a=>fg a acc) c,D n:=by
  intro l
  induction l with
  | nil=>intro _ c m;exact ⟨rfl,m⟩
  | cons a l ihl=>
   intro p c m
   have d:=p a (aY ..)
   obtain ⟨u,v⟩:=s a d (j.sub a d) c m
   rw [bR,fB,fB,u]
   exact ihl (fun x r=>p x (ba _ r)) _ v
 rw [o.1]
 exact w t.args (fun _ h=>h) _ o.2
theorem EA {f:Int->Int} {D:Int->Prop} (d:∀a b,D a->D b->f a=f b->a=b):∀(l:List Int),(∀n∈l,D n)->∀x,D x->gk (l.map f) (f x)=gk l x:=by
 intro l g x i
 have q:∀l:List Int,(∀n∈l,D n)->(l.map f).idxOf (f x)=l.idxOf x:=by
  intro l
  induction l with
  | nil=>intro _;rfl
  | cons a l ih=>
   intro h
   rw [bR,List.idxOf_cons,List.idxOf_cons]
   by_cases e:a=x
   ·subst e;simp
   ·have m:¬f a=f x:=fun o=>e (d a x (h a (aY ..)) i o)
    have j:(a==x)=false:=by simpa using e
    have k:(f a==f x)=false:=by simpa using m
    rw [j,k]
    simp only [cond_false]
    rw [ih fun n p=>h n (ba _ p)]
 have e:(f x∈l.map f)↔x∈l:=by
  rw [fe]
  constructor
  ·rintro ⟨a,c,h⟩
   rw [<-d a x (g a c) i h];exact c
  ·intro h;exact ⟨_,h,rfl⟩
 unfold gk
 by_cases h:x∈l
 ·rw [if_pos h,if_pos (e.2 h),q l g]
 ·rw [if_neg h,if_neg (fun x=>h (e.1 x))]
theorem ws {f:Int->Int} {D:Int->Prop} (h:∀a b,D a->D b->f a=f b->a=b) (m:∀a,D a->0<=f a/\f a<=1099511627776) {t:Tm} (i:bu t=true) (d:Tm.All (fun x=>x.kind=0->D x.num) t):bu (fT f t)=true/\iV (fT f t)=iV t:=by
 have c:=i
 unfold bu at c
 simp only [aE,decide_eq_true_iff] at c
 have g:bu (fT f t)=true:=by
  unfold bu
  rw [BX,Je t c.2 (Tm.All.imp (fun x e k=>m _ (e k)) t d),decide_eq_true c.1];rfl
 refine ⟨g,?_⟩
 unfold iV
 rw [if_pos g,if_pos i,GD]
 obtain ⟨j,o⟩:=Dq h t d [] (fun n l=>by cases l)
 rw [ek] at j
 rw [j]
 exact BY t (Tm.All.imp (fun x e k=>EA h _ o _ (e k)) t d)
theorem ux:∀L:List CI,(∀x∈L,TokText x.2)->L.length<=(fi L).length
 | [],_=>by simp
 | x::l,h=>by
  have b:=(h x (aY ..)).pos
  have c:=ux l fun y a=>h y (ba _ a)
  rw [fi]
  simp only [aC,be]
  omega
def jH (o:WO) (T:List OpR) (S:Tm->WR) (t:Tm):List (List UInt8):=bl (bo o T S t 1200 false)
theorem AZ {o:WO} {T:List OpR} {S:Tm->WR} (j:o.q=true) (h:o.nu=false) (l:bF T=true) (k:∀t:Tm,Tm.All NOk t->t.kind=3->S t=mx o T S t) (K:List NextR) (q:Int) (f:Int->Int) (e:∀u,qs K u->f u=uU K u):Cx o T S ⟨K,T,q⟩ f :=
 ⟨j,h,l,rfl,k,fun i g u a b=>by
  obtain ⟨c,d⟩:=GA K T q i g u a b
  rw [e u c];exact d⟩
theorem rv {o:WO} {T:List OpR} {S:Tm->WR} {t:Tm} (k:Tm.All NOk t) (a:Nat) (s:Bool) (q:Int) (m:∀x∈iQ [] false (jH o T S t),TokText x.2) (f:Int->Int)
  (i:Cx o T S ⟨iS 0 (iQ [] false (jH o T S t))++[mE a s],T,q⟩ f) :
  pF ⟨iS 0 (iQ [] false (jH o T S t))++[mE a s],T,q⟩=.ok (fT f t,(iQ [] false (jH o T S t)).length):=by
 have v:=Ko T q (iQ [] false (jH o T S t)) 0 m (mE a s)
 have e:=Ea T q (iQ [] false (jH o T S t)) 0 (mE a s)
 have g:((⟨iS 0 (iQ [] false (jH o T S t))++[mE a s],T,q⟩:RE).T).length=(iQ [] false (jH o T S t)).length+1:=by
  show (iS 0 (iQ [] false (jH o T S t))++[mE a s]).length=_
  rw [aC,jw];rfl
 generalize y:(⟨iS 0 (iQ [] false (jH o T S t))++[mE a s],T,q⟩:RE)=E at *
 have j:(iQ [] false (jH o T S t)).length=tl (bl (bo o T S t 1200 false)):=rfl
 rw [j] at e g |-
 have c:(E.at (tl (bl (bo o T S t 1200 false)))).r.kind=7:=by rw [e];rfl
 have d:∀x,isP (E.at (tl (bl (bo o T S t 1200 false)))) x=false:=fun x=>by unfold isP;rw [c];rfl
 have l:fH (E.at (tl (bl (bo o T S t 1200 false))))=false:=by unfold fH;rw [c];rfl
 have w:Stop E (tl (bl (bo o T S t 1200 false))) 1200:=by
  intro b
  unfold gA at b
  simp only at b
  rw [l,d,d,if_pos (by rfl)] at b
  cases b
 have b:Nx E (tl (bl (bo o T S t 1200 false))):=⟨by unfold opn;rw [d];rfl,by rw [c];decide⟩
 have n:gc E (tl (bl (bo o T S t 1200 false)))=true:=by unfold gc;rw [if_pos c]
 have h:=GH i k 1200 false 0 (tl (bl (bo o T S t 1200 false))) [] ⟨[],false,by rw [az];exact v⟩
 rw [Nat.zero_add] at h
 obtain ⟨p,u⟩:=h (by omega) (ag _) b w (fun _=>n)
 unfold pF
 rw [g,u]
 simp only
 rw [if_pos c]
def La (o:WO) (T:List OpR) (S:Tm->WR) (t:Tm) (s:Bool):List NextR:=iS 0 (iQ [] false (jH o T S t))++[mE (dP (jH o T S t)).length s]
theorem xh {o:WO} {T:List OpR} {S:Tm->WR} (z:o.q=true) (y:o.nu=false) (B:bF T=true) (A:∀t:Tm,Tm.All NOk t->t.kind=3->S t=mx o T S t) {t:Tm} (l:Tm.All NOk t) (Y:bu t=true) {R:List UInt8} (M:DotOk R) (s:Bool)
  (P:s=false->∀p,(jH o T S t).getLast? = some p->eo p [46]=false) (q u:Int) (c d:Bool) (V:Sy.ok ⟨T,q,u,c,d,[]⟩=true) (Q:(dP (jH o T S t)++(je s++46::R)).length<=16384) :
  ∃names singles,lG (dP (jH o T S t)++(je s++46::R)) 0 ⟨T,q,u,c,d,[]⟩=⟨fT (uU (La o T S t s)) t,names,singles,(((dP (jH o T S t)).length+(je s).length:Nat):Int)+1,0,0⟩/\bu (fT (uU (La o T S t s)) t)=true/\iV (fT (uU (La o T S t s)) t)=iV t:=by
 have v:PL (bo o T S t 1200 false):=GN (AZ z y B A [] 0 (uU []) fun _ _=>rfl) l 1200 false
 have N:=Ag M (jH o T S t) s v.pc v.sp P
 have w:∀x∈iQ [] false (jH o T S t),TokText x.2:=rr _ _ _ v.pc
 have G:=ux _ w
 have a2:(iQ [] false (jH o T S t)).length<=(dP (jH o T S t)).length:=by
  have e:fi (iQ [] false (jH o T S t))=dP (jH o T S t):=px _ [] v.sp
  rw [e] at G;exact G
 obtain ⟨K,i⟩:∃K,K=iS 0 (iQ [] false (jH o T S t))++[mE (dP (jH o T S t)).length s]:=⟨_,rfl⟩
 have a1:K.length<=16385:=by
  rw [i,aC,jw]
  rw [aC] at Q
  simp only [be,List.length_nil]
  omega
 have C:=rv (q:=q) l (dP (jH o T S t)).length s w (uU K) (by rw [<-i];exact AZ z y B A K q (uU K) fun _ _=>rfl)
 open Classical in
 have j:=rv (q:=q) l (dP (jH o T S t)).length s w (fun n=>if qs K n then uU K n else uU K n+1) (by rw [<-i];exact AZ z y B A K q _ fun n h=>if_pos h)
 rw [C] at j
 injection j with j
 injection j with j _
 have U:Tm.All (fun x=>x.kind=0->qs K x.num) t:=by
  refine Tm.All.imp (fun x Z k=>?_) t (Ec t j)
  have h:=Z k
  by_cases I:qs K x.num
  ·exact I
  ·rw [if_neg I] at h;omega
 have L:Tm.All (fun x=>x.kind=0->(qs K x.num/\0<=x.num)) t:=by
  have a0:∀t:Tm,Tm.All NOk t->Tm.All (fun x=>x.kind=0->qs K x.num) t->Tm.All (fun x=>x.kind=0->(qs K x.num/\0<=x.num)) t :=
   Tm.ind fun t ih E F=>.mk t (fun k=>⟨F.here k,(E.here.var k).1⟩) fun a g=>ih a g (E.sub a g) (F.sub a g)
  exact a0 t l U
 obtain ⟨J,X⟩:=ws (f:=uU K) (D:=fun n=>qs K n/\0<=n) (fun a b g r h=>GB g.1 r.1 g.2 r.2 h) (fun a g=>by have:=Jd g.1;omega) Y L
 have r:ks (dP (jH o T S t)++(je s++46::R)) 0 ⟨T,q,u,c,d,[]⟩=false:=by
  unfold ks
  rw [V,decide_eq_false (by omega),decide_eq_false (by omega),decide_eq_false (by omega)];rfl
 have W:gW (dP (jH o T S t)++(je s++46::R)) 0 ⟨T,q,u,c,d,[]⟩=⟨K,0,0⟩:=by
  unfold gW
  have O:(Sy.conv ⟨T,q,u,c,d,[]⟩:List (Int×Int))=[]:=by unfold Sy.conv;simp
  rw [O,JI,show (0:Int).toNat=0 from rfl,N,i]
 have H:=Ea T q (iQ [] false (jH o T S t)) 0 (mE (dP (jH o T S t)).length s)
 rw [<-i] at C H
 rw [show La o T S t s=K from i.symm]
 refine ⟨(cq K (iQ [] false (jH o T S t)).length).m,DZ (cq K (iQ [] false (jH o T S t)).length),?_,J,X⟩
 unfold lG
 rw [r,if_neg (by simp),W,if_neg (by simp)]
 unfold ub
 rw [C]
 simp only
 unfold vj
 rw [if_pos J,H]
 rfl
theorem rQ {o:WO} {T:List OpR} {S:Tm->WR} (i:o.q=true) (h:o.nu=false) (l:bF T=true) (j:∀t:Tm,Tm.All NOk t->t.kind=3->S t=mx o T S t) {t:Tm} (a:Tm.All NOk t) (m:bu t=true) {R:List UInt8} (b:DotOk R) (s:Bool)
  (e:s=false->∀p,(jH o T S t).getLast? = some p->eo p [46]=false) (q u:Int) (c d:Bool) (k:Sy.ok ⟨T,q,u,c,d,[]⟩=true) (g:(dP (jH o T S t)++(je s++46::R)).length<=16384) :
  ∃f names singles,lG (dP (jH o T S t)++(je s++46::R)) 0 ⟨T,q,u,c,d,[]⟩=⟨fT f t,names,singles,(((dP (jH o T S t)).length+(je s).length:Nat):Int)+1,0,0⟩/\bu (fT f t)=true/\iV (fT f t)=iV t:=⟨_,xh i h l j a m b s e q u c d k g⟩
theorem yW {o:WO} {T:List OpR} {S:Tm->WR} (i:o.q=true) (g:o.nu=false) (l:bF T=true) (j:∀t:Tm,Tm.All NOk t->t.kind=3->S t=mx o T S t) {t:Tm} (b:Tm.All NOk t) (m:bu t=true) (q u:Int) (c d:Bool) (k:Sy.ok ⟨T,q,u,c,d,[]⟩=true) (p:(dP (jH o T S t)).length<=16382) :
  ∃f names singles,lG (dP (jH o T S t)++[32,46]) 0 ⟨T,q,u,c,d,[]⟩=⟨fT f t,names,singles,((dP (jH o T S t)).length:Int)+2,0,0⟩/\bu (fT f t)=true/\iV (fT f t)=iV t:=by
 obtain ⟨f,n,s,h,a⟩:=rQ i g l j b m CJ true (fun h=>by cases h) q u c d k (by rw [aC];show _+2<=_;omega)
 refine ⟨f,n,s,?_,a⟩
 have e:(((dP (jH o T S t)).length+(je true).length:Nat):Int)+1=((dP (jH o T S t)).length:Int)+2:=by
  have:(je true).length=1:=rfl
  omega
 rw [e] at h
 exact h
theorem Fb (l:List (List UInt8)) (p:List UInt8):dP (l++[p]++[[46]])=dP (l++[p])++(je (eo p [46])++[46]):=by
 unfold dP
 rw [mW (l++[p]) [] [46]]
 have e:(([]:List UInt8)::(l++[p])).getLast (by simp)=p:=by
  apply Option.some.inj
  rw [<-List.getLast?_eq_some_getLast,<-ai,List.getLast?_concat]
 rw [e]
 congr 2
theorem uY {o:WO} {T:List OpR} {S:Tm->WR} (j:o.q=true) (i:o.nu=false) (m:bF T=true) (k:∀t:Tm,Tm.All NOk t->t.kind=3->S t=mx o T S t) {t:Tm} (b:Tm.All NOk t) (A:bu t=true) (q u:Int) (c d:Bool) (z:Sy.ok ⟨T,q,u,c,d,[]⟩=true) (g:(dP (jH o T S t++[[46]])++[10]).length<=16384) :
  ∃f names singles,lG (dP (jH o T S t++[[46]])++[10]) 0 ⟨T,q,u,c,d,[]⟩=⟨fT f t,names,singles,((dP (jH o T S t++[[46]])++[10]).length:Int)-1,0,0⟩/\bu (fT f t)=true/\iV (fT f t)=iV t:=by
 have y:¬jH o T S t=[]:=by
  obtain ⟨p,r,e,_⟩:=ti (AZ j i m k [] 0 (uU []) fun _ _=>rfl) b 1200 false
  unfold jH
  rw [e,bQ];simp
 obtain ⟨l,p,e⟩:∃l p,jH o T S t=l++[p]:=⟨_,_,(List.dropLast_concat_getLast y).symm⟩
 have w:dP (jH o T S t++[[46]])++[10]=dP (jH o T S t)++(je (eo p [46])++46::[10]):=by
  rw [e,Fb];simp
 rw [w] at g |-
 obtain ⟨f,n,s,h,x⟩:=rQ j i m k b A Fw (eo p [46]) (fun h B a=>by
  rw [e,List.getLast?_concat] at a
  injection a with a
  rw [<-a];exact h) q u c d z g
 refine ⟨f,n,s,?_,x⟩
 have v:(((dP (jH o T S t)).length+(je (eo p [46])).length:Nat):Int)+1=((dP (jH o T S t)++(je (eo p [46])++46::[10])).length:Int)-1:=by
  rw [aC,aC]
  show _=((_+(_+2):Nat):Int)-1
  omega
 rw [v] at h
 exact h
theorem EO:∀t:Tm,Tm.All Okf t->Tm.All NOk t:=fun t h=>Tm.All.imp (fun _ h=>⟨h.1,(fh _).1 h.2⟩) t h
theorem KE:∀t:Tm,Tm.All NOk t->Tm.All Okf t:=fun t h=>Tm.All.imp (fun _ h=>⟨h.1,(fh _).2 h.2⟩) t h
theorem DP (o:WO) (T:List OpR):∀t:Tm,Tm.All NOk t->t.kind=3->str o T t=mx o T (str o T) t:=fun t h _=>yM o T (Okf.k4 (KE t h))
theorem AK (o:WO) (T:List OpR) (t:Tm):jH o T (str o T) t=rt (km o T t 1200 false):=rfl
theorem Dc {o:WO} {T:List OpR} (r:o.q=true) (p:o.nu=false) {t:Tm} (l:Tm.All (fun x=>cV x=true) t) (h:(oF o T t).2=0) (e:(oF o T t).1.size<=16382) (q u:Int) (c d:Bool) (m:pl ⟨q,u,c,d⟩=true) :
  bu t=true/\bF T=true/\∃f names singles,lG ((oF o T t).1.data.toList++[32,46]) 0 ⟨T,q,u,c,d,[]⟩=⟨fT f t,names,singles,((oF o T t).1.size:Int)+2,0,0⟩/\bu (fT f t)=true/\iV (fT f t)=iV t:=by
 cases hb:(bu t&&bF T)
 ·rw [Am hb] at h;cases h
 ·have g:=hb
  rw [aE] at g
  obtain ⟨b,a⟩:=g
  refine ⟨b,a,?_⟩
  rw [rA hb] at h e |-
  by_cases i:(fP (km o T t 1200 false)).size<=16384
  ·rw [mV i] at e |-
   have hd:(fP (km o T t 1200 false)).data.toList=dP (jH o T (str o T) t):=by unfold fP;rw [AK]
   have s:(fP (km o T t 1200 false)).size=(dP (jH o T (str o T) t)).length:=by rw [<-hd,<-ByteArray.size_data,<-Array.length_toList]
   have w:(fP (km o T t 1200 false)).size<=16382:=e
   obtain ⟨f,n,v,j,k⟩:=yW r p a (DP o T) (EO t (Okf.of_valid b l).1) b q u c d (by unfold Sy.ok;rw [a,m];rfl) (by omega)
   refine ⟨f,n,v,?_,k⟩
   show lG ((fP (km o T t 1200 false)).data.toList++[32,46]) 0 _=⟨_,_,_,((fP (km o T t 1200 false)).size:Int)+2,0,0⟩
   rw [hd,j,s]
  ·rw [rm i] at h;cases h
theorem yy {T:List OpR} {t u:Tm} (j:Tm.All (fun x=>cV x=true) t) (k:Tm.All (fun x=>cV x=true) u) (h:(CU T t u).2=0) (y:bu (kW t u)=true) (q a:Int) (c d:Bool) (s:pl ⟨q,a,c,d⟩=true) :
  ∃f names singles,lG (CU T t u).1.data.toList 0 ⟨T,q,a,c,d,[]⟩=⟨fT f (kW t u),names,singles,((CU T t u).1.size:Int)-1,0,0⟩/\bu (fT f (kW t u))=true/\iV (fT f (kW t u))=iV (kW t u):=by
 cases hb:(bu t&&(bu u&&bF T))
 ·rw [vT hb] at h;cases h
 ·have g:=hb
  rw [aE,aE] at g
  obtain ⟨l,m,b⟩:=g
  obtain ⟨v,_,_⟩:=Ae l m j k
  rw [vS hb] at h |-
  have hd:(fP (km oQ T (kW t u) 1200 false++[s1 46])++⟨#[10]⟩:ByteArray).data.toList=dP (jH oQ T (str oQ T) (kW t u)++[[46]])++[10]:=by
   have e:rt (km oQ T (kW t u) 1200 false++[s1 46])=jH oQ T (str oQ T) (kW t u)++[[46]]:=by
    rw [AK];unfold rt;rw [List.map_append];rfl
   unfold fP
   rw [e];simp
  by_cases i:(fP (km oQ T (kW t u) 1200 false++[s1 46])++⟨#[10]⟩:ByteArray).size<=16384
  ·rw [mV i]
   have w:(fP (km oQ T (kW t u) 1200 false++[s1 46])++⟨#[10]⟩:ByteArray).size=(dP (jH oQ T (str oQ T) (kW t u)++[[46]])++[10]).length:=by rw [<-hd,<-ByteArray.size_data,<-Array.length_toList]
   obtain ⟨f,n,z,p,r⟩:=uY (o:=oQ) rfl rfl b (DP oQ T) (EO _ v) y q a c d (by unfold Sy.ok;rw [b,s];rfl) (by omega)
   refine ⟨f,n,z,?_,r⟩
   show lG (fP (km oQ T (kW t u) 1200 false++[s1 46])++⟨#[10]⟩:ByteArray).data.toList 0 _=⟨_,_,_,((fP (km oQ T (kW t u) 1200 false++[s1 46])++⟨#[10]⟩:ByteArray).size:Int)-1,0,0⟩
   rw [hd,p,w]
  ·rw [rm i] at h;cases h
end Hb
