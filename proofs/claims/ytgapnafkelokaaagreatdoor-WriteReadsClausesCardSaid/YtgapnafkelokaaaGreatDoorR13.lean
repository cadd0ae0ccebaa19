/- Parts of the proof. -/
import Derived.Test.YtgapnafkelokaaaGreatDoorR01
import Derived.Test.YtgapnafkelokaaaGreatDoorR03
import Derived.Test.YtgapnafkelokaaaGreatDoorR12
import Derived.Carry
import Derived.DeepKeys4
import Derived.Maps.OwnSet
import Derived.RegionTactic
import Derived.OwnWalk
import Derived.Test.YtgapnafkelokaaaGreatDoorR02
import Derived.RangeFuncNested
import Derived.RangeFuncBound
import Derived.RangeFuncCalls
import Derived.RangeFuncLeaves
set_option maxHeartbeats 12800000
set_option maxRecDepth 100000
open Array renaming getElem?_eq_getElem -> bn, getElem?_eq_some_iff -> aO
open Go renaming TypeId -> bJ, Value -> aA, World -> aj
open Go.IntKind renaming i64 -> ae
open Go.RowKit renaming Below -> ay
open Go.RowKit.Below renaming refl -> ak
open Go.Value renaming int -> ab, string -> aa
open Go.World renaming cell?_alloc_new -> aq
open List renaming getElem?_eq_getElem -> aT, getElem?_eq_some_iff -> dG, getElem?_set -> eG, getElem_mem -> aQ, map_cons -> bR, mem_of_getElem? -> fm, pairwise_cons -> io
open Nat renaming le_refl -> ag
namespace Hb
open Go Go.RowKit
noncomputable def tF (t u:Tm):Bool:=@decide (t=u) (Classical.propDecidable _)
theorem Hz {t u:Tm} (h:t=u):tF t u=true:=by unfold tF;simp [h]
theorem sQ {t u:Tm} (h:¬t=u):tF t u=false:=by unfold tF;simp [h]
theorem vP {t u:Tm}:tF t u=true↔t=u:=by unfold tF;simp
theorem IZ {t u:Tm} (a:t.kind=u.kind) (b:t.num=u.num) (c:t.name=u.name) (d:t.args=u.args):t=u:=by
 cases t;cases u
 simp only [Tm.kind,Tm.num,Tm.name,Tm.args] at a b c d
 subst a b c d
 rfl
theorem JV {a b:ByteArray} (h:a.toList=b.toList):a=b:=by
 rw [iC,iC] at h
 exact ByteArray.ext (Array.ext' h)
theorem FP {l m:List Tm} (h:l.length=m.length) (a:∀j (b:j<l.length) (c:j<m.length),l[j]=m[j]):l=m:=List.ext_getElem h a
structure TT (w0 w:aj) (t u:Tm) (A B:Option Addr) (c d:Nat):Prop where
 bel:ay w0.heap.size w0 w
 lt:w0.heap.size+1<w.heap.size
 a0:w.cell? ⟨w0.heap.size,0,none⟩=some (ab ae t.kind)
 a1:w.cell? ⟨w0.heap.size,1,none⟩=some (ab ae t.num)
 a2:w.cell? ⟨w0.heap.size,2,none⟩=some (aa t.name)
 a3:w.cell? ⟨w0.heap.size,3,none⟩=some (.slice A t.args.length c)
 b0:w.cell? ⟨w0.heap.size+1,0,none⟩=some (ab ae u.kind)
 b1:w.cell? ⟨w0.heap.size+1,1,none⟩=some (ab ae u.num)
 b2:w.cell? ⟨w0.heap.size+1,2,none⟩=some (aa u.name)
 b3:w.cell? ⟨w0.heap.size+1,3,none⟩=some (.slice B u.args.length d)
theorem TT.call {w0 w w':aj} {t u:Tm} {A B:Option Addr} {c d:Nat} (h:TT w0 w t u A B c d) (a:ay w.heap.size w w'):TT w0 w' t u A B c d:=by
 have e:=h.lt
 have b:∀j,w'.cell? ⟨w0.heap.size,j,none⟩=w.cell? ⟨w0.heap.size,j,none⟩:=fun j=>a.cell (p:=⟨w0.heap.size,j,none⟩) (by show w0.heap.size<_;omega)
 have hd:∀j,w'.cell? ⟨w0.heap.size+1,j,none⟩=w.cell? ⟨w0.heap.size+1,j,none⟩:=fun j=>a.cell (p:=⟨w0.heap.size+1,j,none⟩) e
 exact ⟨h.bel.trans (a.mono h.bel.size),Nat.lt_of_lt_of_le e a.size,(b 0).trans h.a0,(b 1).trans h.a1,(b 2).trans h.a2,(b 3).trans h.a3,(hd 0).trans h.b0,(hd 1).trans h.b1,(hd 2).trans h.b2,(hd 3).trans h.b3⟩
theorem TT.start (w:aj) (t u:Tm) (A B:Option Addr) (c d:Nat) (e:bJ) :
  TT w ((w.alloc (.cells #[ab ae t.kind,ab ae t.num,aa t.name,.slice A t.args.length c] e)).alloc (.cells #[ab ae u.kind,ab ae u.num,aa u.name,.slice B u.args.length d] e)) t u A B c d:=by
 obtain ⟨W1,f⟩:∃W1,W1=w.alloc (.cells #[ab ae t.kind,ab ae t.num,aa t.name,.slice A t.args.length c] e):=⟨_,rfl⟩
 rw [<-f]
 have s1:W1.heap.size=w.heap.size+1:=by rw [f];simp
 have h:ay w.heap.size w W1:=by rw [f];exact (ak _ _).alloc (ag _) _
 have g:ay W1.heap.size W1 (W1.alloc (.cells #[ab ae u.kind,ab ae u.num,aa u.name,.slice B u.args.length d] e)):=(ak _ _).alloc (ag _) _
 have a:∀j,(W1.alloc (.cells #[ab ae u.kind,ab ae u.num,aa u.name,.slice B u.args.length d] e)).cell? ⟨w.heap.size,j,none⟩=(#[ab ae t.kind,ab ae t.num,aa t.name,.slice A t.args.length c]:Array aA)[j]?:=fun j=>by
  rw [g.cell (p:=⟨w.heap.size,j,none⟩) (by show w.heap.size<_;omega),f];exact aq _ _ _ j
 have b:∀j,(W1.alloc (.cells #[ab ae u.kind,ab ae u.num,aa u.name,.slice B u.args.length d] e)).cell? ⟨w.heap.size+1,j,none⟩=(#[ab ae u.kind,ab ae u.num,aa u.name,.slice B u.args.length d]:Array aA)[j]?:=fun j=>by
  have:=aq W1 #[ab ae u.kind,ab ae u.num,aa u.name,.slice B u.args.length d] e j
  rw [s1] at this;exact this
 exact ⟨h.trans (g.mono (by omega)),by simp;omega,a 0,a 1,a 2,a 3,b 0,b 1,b 2,b 3⟩
end Hb
namespace Go.Proofs.YtgapnafkelokaaaGreatDoor
open Go.RowKit Hb
theorem vu:∀(t u:Tm) (A B:Option Addr) (c d:Nat) (w:aj),TmsAt w.heap.size w A t.args->TmsAt w.heap.size w B u.args ->
  Calls Tryz.prog 52 #[dR t A c,dR u B d] w fun e w'=>e=.returned (.bool (tF t u))/\ay w.heap.size w w':=by
 refine Tm.ind fun t ih=>?_
 intro u A B c d w o D
 have z:=zq (TT.start w t u A B c d 24)
 have HT:=zq o
 have HU:=zq D
 have b6:=zq ih
 have U:=zq (IZ (t:=t) (u:=u))
 have hm:=o.len
 unfold maxLen at hm
 have V:=zq (fun (h:¬t.kind=u.kind)=>sQ (t:=t) (u:=u) fun e=>h (by rw [e]))
 have X:=zq (fun (h:¬t.num=u.num)=>sQ (t:=t) (u:=u) fun e=>h (by rw [e]))
 have Y:=zq (fun (h:¬t.name=u.name)=>sQ (t:=t) (u:=u) fun e=>h (by rw [e]))
 have v:=zq (fun (h:¬t.args.length=u.args.length)=>sQ (t:=t) (u:=u) fun e=>h (by rw [e]))
 have b7:=zq (fun (j:Nat) (f:j<t.args.length) (g:j<u.args.length) (h:¬t.args[j]=u.args[j])=>sQ (t:=t) (u:=u) fun e=>h (by simp only [e]))
 have HY:=zq (Hz (t:=t) (u:=u))
 have l:=z.out.bel
 clear o D ih
 unfold dR at *
 generalize hq:tF t u=q at *
 clear hq
 obtain ⟨L,n⟩:∃L,Hid (t.args.length=L):=⟨_,zq rfl⟩
 obtain ⟨M,s⟩:∃M,Hid (u.args.length=M):=⟨_,zq rfl⟩
 rw [n.out] at z hm l v |-
 rw [s.out] at z l v |-
 generalize t.kind=a0 at *
 generalize t.num=Z at *
 generalize t.name=H at *
 generalize u.kind=b0 at *
 generalize u.num=b1 at *
 generalize u.name=I at *
 by_cases J:a0=b0
 ·subst J
  by_cases K:Z=b1
  ·subst K
   by_cases N:H=I
   ·subst N
    by_cases e3:L=M
    ·subst e3
     have b5:=zq (U.out rfl rfl rfl)
     clear U V X Y v
     go_enter Tryz.func52,Tryz.ntmps52
     go_wp2_with fail
     go_loopw [5] (fun i wr=>∃k:Nat,k<=L/\i=ab ae k/\Hid (TT w wr t u A B c d)/\Hid (∀j (f:j<t.args.length) (g:j<u.args.length),j<k->t.args[j]=u.args[j])) (fun i _=>L-(intOf i).toNat)
     case atStart=>exact ⟨0,Nat.zero_le _,rfl,z,zq fun j _ _ h=>absurd h (by omega)⟩
     case round=>
      obtain ⟨k,hk,rfl,m,T⟩:=hrel
      have b3:=m.out.a3
      have b4:=m.out.b3
      rw [n.out] at b3
      rw [s.out] at b4
      have E:=m.out.bel
      by_cases d5:k<L
      ·have P:k<t.args.length:=by have:=n.out;omega
       have a8:k<u.args.length:=by have:=s.out;omega
       obtain ⟨b,c6,Q,ca,rfl,hb,c0,c1,c2,c3,hs⟩:=(HT.out.keep E).get k P
       obtain ⟨b',c7,R,cb,rfl,c8,d0,d1,d2,d3,a9⟩:=(HU.out.keep E).get k a8
       have a5:=E.size
       have G:=zq (b7.out k P a8)
       have F:Hid (t.args[k]=u.args[k]->∀j (f:j<t.args.length) (g:j<u.args.length),j<k+1->t.args[j]=u.args[j]):=zq (fun O j f g hj=>by
        by_cases c4:j=k
        ·subst c4;exact O
        ·exact T.out j f g (by omega))
       have S:=zq (fun W (h:TT w W t u (some ⟨b,c6,none⟩) (some ⟨b',c7,none⟩) c d) (o:TmsAt W.heap.size W Q t.args[k].args) (D:TmsAt W.heap.size W R u.args[k].args)=>b6.out t.args[k] (aQ P) u.args[k] Q R ca cb W o D)
       have a6:=(hs.keep (ak _ wr).drew).mono a5
       have a7:=(a9.keep (ak _ wr).drew).mono a5
       have p:=zq (S.out wr.drew (m.out.call (ak _ _).drew) a6 a7)
       have r:=zq (vP (t:=t.args[k]) (u:=u.args[k]))
       have c9:(0:Int)<=(k:Int):=by omega
       have d4:(k:Int)<(L:Int):=by omega
       have HD:=zq (m.out.call (ak _ wr).drew)
       clear hs a9 a6 a7 S
       unfold dR at p
       obtain ⟨x,hx⟩:∃x,x=t.args[k]:=⟨_,rfl⟩
       obtain ⟨y,hy⟩:∃y,y=u.args[k]:=⟨_,rfl⟩
       rw [<-hx] at p G F r c0 c1 c2 c3
       rw [<-hy] at p G F r d0 d1 d2 d3
       clear hx hy
       go_wp2_with fail
       go_region_law (first
        | (go_simp;go_at_call 52;(with_reducible refine p.out.mono ?_);rintro e w2 ⟨rfl,b8⟩)
        | fail)
       all_goals
        have a4:=HD.out.call b8
        have b9:=a4.bel
        cases hq2:tF x y
        ·have c5:¬x=y:=fun e=>by rw [r.out.2 e] at hq2;cases hq2
         have a:=G.out c5
         subst a
         go_wp2_with fail
         go_ret
         exact ⟨rfl,b9⟩
        ·have O:=r.out.1 hq2
         go_wp2_with fail
         go_roundw
         case rel=>exact ⟨k+1,by omega,by go_num,zq a4,zq (F.out O)⟩
         case measure=>simp [intOf] <;> omega
      ·have a:=HY.out (b5.out (FP (by rw [n.out,s.out]) fun j f g=>T.out j f g (by have:=n.out;omega)))
       subst a
       go_wp2_with fail
       go_ret
       exact ⟨rfl,E⟩
    ·have a:=v.out e3
     subst a
     have C:((L:Int)==(M:Int))=false:=by simp;omega
     have f2:¬(L:Int)=(M:Int):=by omega
     go_enter Tryz.func52,Tryz.ntmps52
     go_wp2_with fail
     go_ret
     exact ⟨rfl,l⟩
   ·have a:=Y.out N
    subst a
    have C:¬H.toList=I.toList:=fun h=>N (JV h)
    have f2:(H.toList==I.toList)=false:=by simpa using C
    go_enter Tryz.func52,Tryz.ntmps52
    go_wp2_with fail
    go_ret
    exact ⟨rfl,l⟩
  ·have a:=X.out K
   subst a
   have C:(Z==b1)=false:=by simpa using K
   go_enter Tryz.func52,Tryz.ntmps52
   go_wp2_with fail
   go_ret
   exact ⟨rfl,l⟩
 ·have a:=V.out J
  subst a
  have C:(a0==b0)=false:=by simpa using J
  go_enter Tryz.func52,Tryz.ntmps52
  go_wp2_with fail
  go_ret
  exact ⟨rfl,l⟩
end Go.Proofs.YtgapnafkelokaaaGreatDoor
namespace Hb
open Go Go.RowKit
def qY:Nat->(Nat->Bool)->Nat
 | 0,_=>0
 | n+1,S=>qY n S+(if S n=true then 0 else 1)
def jL (S:Nat->Bool) (j:Nat):Nat->Bool:=fun i=>if i=j then true else S i
theorem lx (S:Nat->Bool) (j:Nat):jL S j j=true:=if_pos rfl
theorem cB (S:Nat->Bool) {j i:Nat} (h:i≠j):jL S j i=S i:=if_neg h
theorem yo:∀(n:Nat) (S T:Nat->Bool),(∀i,i<n->S i=T i)->qY n S=qY n T
 | 0,_,_,_=>rfl
 | n+1,S,T,h=>by
  unfold qY
  rw [yo n S T (fun i a=>h i (by omega)),h n (by omega)]
theorem yn:∀(n:Nat) (S:Nat->Bool) (j:Nat),j<n->S j=false->qY n (jL S j)+1=qY n S
 | 0,_,_,h,_=>absurd h (by omega)
 | n+1,S,j,hj,h=>by
  unfold qY
  by_cases e:n=j
  ·subst e
   rw [yo n (jL S n) S (fun i a=>cB S (by omega)),lx,h]
   simp
  ·rw [cB S e]
   have:=yn n S j (by omega) h
   omega
theorem uz:∀(n:Nat) (S:Nat->Bool),qY n S=0->∀j,j<n->S j=true
 | 0,_,_,_,h=>absurd h (by omega)
 | n+1,S,h,j,hj=>by
  unfold qY at h
  by_cases e:j=n
  ·subst e
   by_cases c:S j=true
   ·exact c
   ·rw [if_neg c] at h;omega
  ·exact uz n S (by omega) j (by omega)
def Bk (X:aj) (g:Nat) (vs:List aA):Prop:=∃e,X.heap[g]? = some (.cells vs.toArray e)
theorem Bk.lt {X:aj} {g:Nat} {vs:List aA} (h:Bk X g vs):g<X.heap.size:=by
 obtain ⟨e,h⟩:=h
 exact (aO.1 h).1
theorem Bk.c {X:aj} {g:Nat} {vs:List aA} (h:Bk X g vs) (j:Nat) (v:aA) (a:vs[j]? = some v):X.cell? ⟨g,j,none⟩=some v:=by
 obtain ⟨e,h⟩:=h
 simp [World.cell?,h,a]
theorem Bk.f {X:aj} {g:Nat} {vs:List aA} (h:Bk X g vs) (o:Nat):X.frozen? ⟨g,o,none⟩=false:=by
 obtain ⟨e,h⟩:=h
 unfold World.frozen?
 rw [h]
 simp
theorem Bk.call {X a:aj} {g:Nat} {vs:List aA} (h:Bk X g vs) (b:ay X.heap.size X a):Bk a g vs:=by
 have c:=h.lt
 obtain ⟨e,h⟩:=h
 exact ⟨e,(b.block g c).trans h⟩
theorem Bk.al {X:aj} {g:Nat} {vs:List aA} (h:Bk X g vs) (o:Obj):Bk (X.alloc o) g vs:=h.call ((ak _ _).alloc (ag _) o)
theorem Bk.dr {X:aj} {g:Nat} {vs:List aA} (h:Bk X g vs):Bk X.drew g vs:=h.call (ak _ _).drew
theorem Bk.new (X:aj) (vs:List aA) (e:bJ):Bk (X.alloc (.cells vs.toArray e)) X.heap.size vs:=⟨e,World.alloc_heap_new X _⟩
theorem Bk.other {X:aj} {g:Nat} {vs:List aA} (h:Bk X g vs) {a:Nat} (b:g≠a) (j:Nat) (v:aA):Bk (X.setCell ⟨a,j,none⟩ v) g vs:=by
 obtain ⟨e,h⟩:=h
 exact ⟨e,(heap_setCell_other X ⟨a,j,none⟩ g v b).trans h⟩
theorem Bk.set {X:aj} {g:Nat} {vs:List aA} (h:Bk X g vs) (j:Nat) (v:aA):Bk (X.setCell ⟨g,j,none⟩ v) g (vs.set j v):=by
 obtain ⟨e,h⟩:=h
 refine ⟨e,?_⟩
 have a:=(aO.1 h).1
 simp only [World.setCell,Array.getElem?_modify,h]
 simp
theorem Bk.keeps {X a:aj} {g:Nat} {vs:List aA} (h:Bk X g vs) (b:a.heap[g]? = X.heap[g]?):Bk a g vs:=by
 obtain ⟨e,h⟩:=h
 exact ⟨e,b.trans h⟩
structure Bks (X:aj) (l:List (Nat×List aA)):Prop where
 bk:∀x∈l,Bk X x.1 x.2
 ord:(l.map (·.1)).Pairwise (· > ·)
theorem Bks.nil (X:aj):Bks X []:=⟨fun x a=>(by cases a),List.Pairwise.nil⟩
theorem Bks.at {X:aj} {l:List (Nat×List aA)} (h:Bks X l) (j g:Nat) (vs:List aA) (a:l[j]? = some (g,vs)):Bk X g vs:=h.bk (g,vs) (fm a)
theorem Bks.cell {X:aj} {l:List (Nat×List aA)} (h:Bks X l) (j i:Nat) {g:Nat} {vs:List aA} {v:aA} (b:l[j]? = some (g,vs)) (a:vs[i]? = some v):X.cell? ⟨g,i,none⟩=some v:=(h.at j g vs b).c i v a
theorem Bks.lt {X:aj} {l:List (Nat×List aA)} (h:Bks X l) (j:Nat) {g:Nat} {vs:List aA} (a:l[j]? = some (g,vs)):g<X.heap.size:=(h.at j g vs a).lt
theorem Bks.keep {X a:aj} {l:List (Nat×List aA)} (h:Bks X l) (c:∀x∈l,a.heap[x.1]? = X.heap[x.1]?):Bks a l:=⟨fun x b=>(h.bk x b).keeps (c x b),h.ord⟩
theorem Bks.call {X a:aj} {l:List (Nat×List aA)} (h:Bks X l) (b:ay X.heap.size X a):Bks a l:=⟨fun x c=>(h.bk x c).call b,h.ord⟩
theorem Bks.new {X:aj} {l:List (Nat×List aA)} (h:Bks X l) (vs:List aA) (e:bJ) {g:Nat} (b:X.heap.size=g):Bks (X.alloc (.cells vs.toArray e)) ((g,vs)::l):=by
 subst b
 refine ⟨fun x a=>?_,?_⟩
 ·rcases List.mem_cons.1 a with rfl | a
  ·exact Bk.new X vs e
  ·exact (h.bk x a).al _
 ·rw [bR,io]
  refine ⟨fun g b=>?_,h.ord⟩
  obtain ⟨x,a,rfl⟩:=List.mem_map.1 b
  exact (h.bk x a).lt
theorem Bks.set {X:aj} {l:List (Nat×List aA)} (h:Bks X l) (j i:Nat) {g:Nat} {vs:List aA} (c:l[j]? = some (g,vs)) (v:aA):Bks (X.setCell ⟨g,i,none⟩ v) (l.set j (g,vs.set i v)):=by
 have s:(l.set j (g,vs.set i v)).map (·.1)=l.map (·.1):=by
  rw [List.map_set]
  refine List.ext_getElem? fun k=>?_
  rw [eG]
  split
  ·rename_i e
   subst e
   split
   ·rw [List.getElem?_map,c];rfl
   ·rename_i t
    rw [List.getElem?_eq_none (by simpa using t)]
  ·rfl
 refine ⟨fun x w=>?_,by rw [s];exact h.ord⟩
 obtain ⟨k,a⟩:=List.mem_iff_getElem?.1 w
 rw [eG] at a
 split at a
 ·split at a
  ·injection a with a;subst a
   exact (h.at j g vs c).set i v
  ·cases a
 ·rename_i u
  have r:=h.bk x (fm a)
  refine r.other (fun e=>?_) i v
  have p:(l.map (·.1))[k]? = some x.1:=by rw [List.getElem?_map,a];rfl
  have q:(l.map (·.1))[j]? = some g:=by rw [List.getElem?_map,c];rfl
  obtain ⟨n,d⟩:=dG.1 p
  obtain ⟨o,f⟩:=dG.1 q
  have m:=List.pairwise_iff_getElem.1 h.ord
  rcases Nat.lt_or_gt_of_ne (fun e=>u e:j≠k) with b | b
  ·have:=m j k o n b
   rw [d,f] at this;omega
  ·have:=m k j n o b
   rw [d,f] at this;omega
theorem Bks.set4 {X:aj} {l:List (Nat×List aA)} (h:Bks X l) (j:Nat) {g:Nat} {u0 u1 u2 u3:aA} (f:l[j]? = some (g,[u0,u1,u2,u3])) (a b c e:aA) :
  Bks ((((X.setCell ⟨g,0,none⟩ a).setCell ⟨g,1,none⟩ b).setCell ⟨g,2,none⟩ c).setCell ⟨g,3,none⟩ e) (l.set j (g,[a,b,c,e])):=by
 have d:j<l.length:=(dG.1 f).1
 have i:=h.set j 0 f a
 have k:=i.set j 1 (g:=g) (vs:=[a,u1,u2,u3]) (by rw [eG];simp [d]) b
 have m:=k.set j 2 (g:=g) (vs:=[a,b,u2,u3]) (by rw [eG];simp [d]) c
 have n:=m.set j 3 (g:=g) (vs:=[a,b,c,u3]) (by rw [eG];simp [d]) e
 simpa using n
theorem Bks.tl {X:aj} {x:Nat×List aA} {l:List (Nat×List aA)} (h:Bks X (x::l)):Bks X l:=⟨fun y a=>h.bk y (List.mem_cons_of_mem _ a),by have:=h.ord;rw [bR,io] at this;exact this.2⟩
theorem Ay {l:List (Nat×List aA)} {j g:Nat} {vs:List aA} (c:List aA) (a:l[j]? = some (g,vs)):∀x∈l.set j (g,c),∃y∈l,y.1=x.1:=fun x b=>by
 rcases List.mem_or_eq_of_mem_set b with h | h
 ·exact ⟨x,h,rfl⟩
 ·exact ⟨_,fm a,by rw [h]⟩
theorem TmsK.rows {K:Nat->Prop} {w:aj} {rs:List TR} {e:bJ} (f:K w.heap.size) (l:rs.length<=maxLen) (h:∀x∈rs,TmsK K (w.alloc (.cells (dN rs).toArray e)) x.2.1 x.1.args) :
  TmsK K (w.alloc (.cells (dN rs).toArray e)) (some ⟨w.heap.size,0,none⟩) (rs.map (·.1)):=by
 have g:∀(rs:List TR) (j:Nat) (a:j<rs.length) (i:Nat),i<4->(dN rs)[j * 4+i]? = (ir rs[j])[i]?:=by
  intro rs
  induction rs with
  | nil=>intro j a;cases a
  | cons x rs ih=>
   intro j a i d
   have n:dN (x::rs)=ir x++dN rs:=rfl
   have k:(ir x).length=4:=rfl
   rw [n]
   cases j with
   | zero=>rw [List.getElem?_append_left (by omega)];simp
   | succ j=>
    rw [List.getElem?_append_right (by omega),k,show (j+1) * 4+i-4=j * 4+i by omega,ih j (by simpa using a) i d]
    rfl
 refine .mk _ _ (fun j=>(rs[j]?.map (·.2.1)).getD none) (fun j=>(rs[j]?.map (·.2.2)).getD 0) (by simpa using l) (fun j a=>?_) (fun j a=>?_)
 ·have b:j<rs.length:=by simpa using a
  have c:∀i u,i<4->(ir rs[j])[i]? = some u->(w.alloc (.cells (dN rs).toArray e)).cell? ⟨w.heap.size,0+j * 4+i,none⟩=some u:=fun i u d m=>by
   rw [aq,Nat.zero_add]
   simp [g rs j b i d,m]
  refine ⟨w.heap.size,0,rfl,f,?_,?_,?_,?_⟩
  ·have:=c 0 _ (by omega) rfl
   simpa using this
  ·have:=c 1 _ (by omega) rfl
   simpa using this
  ·have:=c 2 _ (by omega) rfl
   simpa using this
  ·have:=c 3 _ (by omega) rfl
   simpa [aT b] using this
 ·have b:j<rs.length:=by simpa using a
  have:=h rs[j] (aQ b)
  simpa [aT b] using this
def kd (n:Nat) (S:Nat->Bool):Array Bool:=Array.ofFn fun i:Fin n=>S i
theorem lR (n:Nat) (S:Nat->Bool) (j:Nat) (d:Bool) (a:j<n):(kd n S).getD j d=S j:=by
 unfold kd
 simp [Array.getD,a]
theorem CK (n:Nat) (S:Nat->Bool) (j:Nat):(kd n S).setIfInBounds j true=kd n (jL S j):=by
 apply Array.ext
 ·simp [kd]
 ·intro i f c
  have a:i<n:=by simpa [kd] using c
  rw [Array.getElem_setIfInBounds (by simpa [kd] using a)]
  have d:(kd n (jL S j))[i]=jL S j i:=Array.getElem_ofFn ..
  have b:(kd n S)[i]'(by simpa [kd] using a)=S i:=Array.getElem_ofFn ..
  rw [d,b]
  split
  ·rename_i e;subst e;exact (lx S j).symm
  ·rename_i e;exact (cB S (fun h=>e h.symm)).symm
theorem zV (n:Nat):kd n (fun _=>false)=Array.replicate n false:=by
 apply Array.ext
 ·simp [kd]
 ·intro i a b;simp [kd]
def xx (b:Region.Mode) (a:Array Oper):Bool:=(List.range a.size).all fun j=>(a[j]?).all fun o=>o.after.all fun e=>!Region.binds b e||decide (e.on<j)
theorem xw {d:Region.Mode} {f:Array Oper} (h:xx d f=true) {j:Nat} {o:Oper} (c:f[j]? = some o) {e:Edge} (i:e∈o.after) (g:Region.binds d e=true):e.on<j:=by
 unfold xx at h
 rw [List.all_eq_true] at h
 have a:=h j (List.mem_range.2 (aO.1 c).1)
 rw [c] at a
 simp only [Option.all_some] at a
 have b:=Array.all_eq_true_iff_forall_mem.1 a e i
 rw [g] at b
 simpa using b
theorem Bi {P:Program} {b:Array Oper} {Q:Exit->Act->aj->Prop} {f:Region.Mode} (I:(Nat->Bool)->Act->aj->Prop) (z:xx f b=true)
  (E:∀S j o a w,b[j]? = some o->S j=false->(∀e∈o.after,Region.binds f e=true->S e.on=true)->I S a w->if Region.wanted o (yielded b a.tmps) then o.wp P a w (I (jL S j)) Q else I (jL S j) (a.put o.dst undef) w)
  (x:∀S a w,(∀j,j<b.size->S j=true)->I S a w->Q .normal a w):∀(m:Nat) (S:Nat->Bool) (a:Act) (w:aj),qY b.size S<=m->I S a w->wpAny P f b Q m (kd b.size S) a w:=by
 have C:∀S,Region.ready f b (kd b.size S)=[]->∀j,j<b.size->S j=true:=fun S t j=>by
  induction j using Nat.strongRecOn with
  | ind j ih=>
   intro s
   cases hs:S j with
   | true=>rfl
   | false=>
    have:j∈Region.ready f b (kd b.size S):=mem_ready.2 ⟨by rw [lR _ _ _ _ s];exact hs,_,bn s,fun e p n=>by
     have y:=xw z (bn s) p n
     rw [lR _ _ _ _ (by omega)]
     exact ih e.on y (by omega)⟩
    rw [t] at this
    cases this
 intro m
 induction m with
 | zero=>
  intro S a w B l
  have v:=uz b.size S (by omega)
  refine ⟨?_,x S a w v l⟩
  refine List.eq_nil_iff_forall_not_mem.2 fun i r=>?_
  obtain ⟨c,o,d,_⟩:=mem_ready.1 r
  have g:=(aO.1 d).1
  rw [lR _ _ _ _ g,v i g] at c
  cases c
 | succ m ih=>
  intro S a w B l
  refine ⟨fun t=>x S a w (C S t) l,fun i r=>?_⟩
  obtain ⟨c,o,d,D⟩:=mem_ready.1 r
  have g:=(aO.1 d).1
  rw [lR _ _ _ _ g] at c
  have q:=E S i o a w d c (fun e p n=>by
   have:=D e p n
   have y:=xw z d p n
   rw [lR _ _ _ _ (by omega)] at this
   exact this) l
  have F:=yn b.size S i g c
  have A:∀k w',I (jL S i) k w'->wpAny P f b Q m ((kd b.size S).setIfInBounds i true) k w':=fun k w' h=>by
   rw [CK]
   exact ih (jL S i) k w' (by omega) h
  unfold wpOp
  rw [d]
  dsimp only
  split
  ·rename_i u
   rw [if_pos u] at q
   exact .inl (Oper.wp_mono A q)
  ·rename_i u
   rw [if_neg u] at q
   exact A _ _ q
end Hb
