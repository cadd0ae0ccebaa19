/- Parts of the proof. -/
import Derived.Test.YtbojljpldcijgaaGreatR07
import Derived.Test.YtbojljpldcijgaaGreatR06
import Derived.Carry
import Derived.DeepKeys4
import Derived.Maps.OwnSet
import Derived.RegionTactic
import Derived.OwnWalk
import Derived.Test.YtbojljpldcijgaaGreatR01
import Derived.RangeFuncNested
import Derived.RangeFuncBound
import Derived.RangeFuncCalls
import Derived.RangeFuncLeaves
set_option maxHeartbeats 12800000
set_option maxRecDepth 100000
open Array renaming getElem?_eq_getElem -> bp, getElem?_eq_some_iff -> aS, getElem_ofFn -> ie
open Go renaming TypeId -> cH, Value -> aC, World -> au
open Go.IntKind renaming i64 -> ab
open Go.Proofs.Tryz renaming prog -> am
open Go.Region renaming binds -> ia
open Go.RowKit renaming Below -> aB
open Go.RowKit.Below renaming refl -> ap
open Go.Value renaming int -> aa, string -> ac
open Go.World renaming cell?_alloc_new -> aF
open List renaming getElem?_eq_getElem -> bi, getElem?_eq_some_iff -> cO, getElem?_set -> dR, getElem_mem -> bW, map_cons -> da, mem_of_getElem? -> eo, pairwise_cons -> em
open Nat renaming le_refl -> ae
namespace Hb
open Go Go.RowKit
structure Bx (mb B:Nat) (w w':au):Prop where
 os:w'.os=w.os
 tape:w'.tape=w.tape
 output:w'.output=w.output
 size:w.heap.size<=w'.heap.size
 block:∀k,k<B->k≠mb->w'.heap[k]? = w.heap[k]?
section
variable {mb B B':Nat} {a w w':au}
theorem Bx.of (h:aB B w w'):Bx mb B w w':=⟨h.os,h.tape,h.output,h.size,fun k a _=>h.block k a⟩
theorem Bx.trans (h:Bx mb B a w) (k:Bx mb B w w'):Bx mb B a w':=⟨k.os.trans h.os,k.tape.trans h.tape,k.output.trans h.output,Nat.le_trans h.size k.size,fun i b c=>(k.block i b c).trans (h.block i b c)⟩
end
noncomputable def xD (t u:Tm):Bool:=@decide (t=u) (Classical.propDecidable _)
theorem vW {t u:Tm} (h:t=u):xD t u=true:=by unfold xD;simp [h]
theorem pV {t u:Tm} (h:¬t=u):xD t u=false:=by unfold xD;simp [h]
theorem Aq {t u:Tm}:xD t u=true↔t=u:=by unfold xD;simp
theorem AY {t u:Tm} (a:t.kind=u.kind) (b:t.num=u.num) (c:t.name=u.name) (d:t.args=u.args):t=u:=by
 cases t;cases u
 simp only [Tm.kind,Tm.num,Tm.name,Tm.args] at a b c d
 subst a b c d
 rfl
theorem BI {a b:ByteArray} (h:a.toList=b.toList):a=b:=by
 rw [vx,vx] at h
 exact ByteArray.ext (Array.ext' h)
theorem zn {l m:List Tm} (h:l.length=m.length) (a:∀j (b:j<l.length) (c:j<m.length),l[j]=m[j]):l=m:=List.ext_getElem h a
structure TT (w0 w:au) (t u:Tm) (A B:Option Addr) (c d:Nat):Prop where
 bel:aB w0.heap.size w0 w
 lt:w0.heap.size+1<w.heap.size
 a0:w.cell? ⟨w0.heap.size,0,none⟩=some (aa ab t.kind)
 a1:w.cell? ⟨w0.heap.size,1,none⟩=some (aa ab t.num)
 a2:w.cell? ⟨w0.heap.size,2,none⟩=some (ac t.name)
 a3:w.cell? ⟨w0.heap.size,3,none⟩=some (.slice A t.args.length c)
 b0:w.cell? ⟨w0.heap.size+1,0,none⟩=some (aa ab u.kind)
 b1:w.cell? ⟨w0.heap.size+1,1,none⟩=some (aa ab u.num)
 b2:w.cell? ⟨w0.heap.size+1,2,none⟩=some (ac u.name)
 b3:w.cell? ⟨w0.heap.size+1,3,none⟩=some (.slice B u.args.length d)
theorem TT.call {w0 w w':au} {t u:Tm} {A B:Option Addr} {c d:Nat} (h:TT w0 w t u A B c d) (a:aB w.heap.size w w'):TT w0 w' t u A B c d:=by
 have e:=h.lt
 have b:∀j,w'.cell? ⟨w0.heap.size,j,none⟩=w.cell? ⟨w0.heap.size,j,none⟩:=fun j=>a.cell (p:=⟨w0.heap.size,j,none⟩) (by show w0.heap.size<_;omega)
 have hd:∀j,w'.cell? ⟨w0.heap.size+1,j,none⟩=w.cell? ⟨w0.heap.size+1,j,none⟩:=fun j=>a.cell (p:=⟨w0.heap.size+1,j,none⟩) e
 exact ⟨h.bel.trans (a.mono h.bel.size),Nat.lt_of_lt_of_le e a.size,(b 0).trans h.a0,(b 1).trans h.a1,(b 2).trans h.a2,(b 3).trans h.a3,(hd 0).trans h.b0,(hd 1).trans h.b1,(hd 2).trans h.b2,(hd 3).trans h.b3⟩
theorem TT.start (w:au) (t u:Tm) (A B:Option Addr) (c d:Nat) (e:cH) :
  TT w ((w.alloc (.cells #[aa ab t.kind,aa ab t.num,ac t.name,.slice A t.args.length c] e)).alloc (.cells #[aa ab u.kind,aa ab u.num,ac u.name,.slice B u.args.length d] e)) t u A B c d:=by
 obtain ⟨W1,f⟩:∃W1,W1=w.alloc (.cells #[aa ab t.kind,aa ab t.num,ac t.name,.slice A t.args.length c] e):=⟨_,rfl⟩
 rw [<-f]
 have s1:W1.heap.size=w.heap.size+1:=by rw [f];simp
 have h:aB w.heap.size w W1:=by rw [f];exact (ap _ _).alloc (ae _) _
 have g:aB W1.heap.size W1 (W1.alloc (.cells #[aa ab u.kind,aa ab u.num,ac u.name,.slice B u.args.length d] e)):=(ap _ _).alloc (ae _) _
 have a:∀j,(W1.alloc (.cells #[aa ab u.kind,aa ab u.num,ac u.name,.slice B u.args.length d] e)).cell? ⟨w.heap.size,j,none⟩=(#[aa ab t.kind,aa ab t.num,ac t.name,.slice A t.args.length c]:Array aC)[j]?:=fun j=>by
  rw [g.cell (p:=⟨w.heap.size,j,none⟩) (by show w.heap.size<_;omega),f];exact aF _ _ _ j
 have b:∀j,(W1.alloc (.cells #[aa ab u.kind,aa ab u.num,ac u.name,.slice B u.args.length d] e)).cell? ⟨w.heap.size+1,j,none⟩=(#[aa ab u.kind,aa ab u.num,ac u.name,.slice B u.args.length d]:Array aC)[j]?:=fun j=>by
  have:=aF W1 #[aa ab u.kind,aa ab u.num,ac u.name,.slice B u.args.length d] e j
  rw [s1] at this;exact this
 exact ⟨h.trans (g.mono (by omega)),by simp;omega,a 0,a 1,a 2,a 3,b 0,b 1,b 2,b 3⟩
end Hb
namespace Go.Proofs.YtbojljpldcijgaaGreat
open Go.RowKit Hb
theorem rX:∀(t u:Tm) (A B:Option Addr) (c d:Nat) (w:au),TmsAt w.heap.size w A t.args->TmsAt w.heap.size w B u.args ->
  Calls am 42 #[fI t A c,fI u B d] w fun e w'=>e=.returned (.bool (xD t u))/\aB w.heap.size w w':=by
 refine Tm.ind fun t ih=>?_
 intro u A B c d w o D
 have z:=zq (TT.start w t u A B c d 30)
 have HT:=zq o
 have HU:=zq D
 have b6:=zq ih
 have T:=zq (AY (t:=t) (u:=u))
 have hm:=o.len
 unfold maxLen at hm
 have U:=zq (fun (h:¬t.kind=u.kind)=>pV (t:=t) (u:=u) fun e=>h (by rw [e]))
 have V:=zq (fun (h:¬t.num=u.num)=>pV (t:=t) (u:=u) fun e=>h (by rw [e]))
 have X:=zq (fun (h:¬t.name=u.name)=>pV (t:=t) (u:=u) fun e=>h (by rw [e]))
 have v:=zq (fun (h:¬t.args.length=u.args.length)=>pV (t:=t) (u:=u) fun e=>h (by rw [e]))
 have b7:=zq (fun (j:Nat) (f:j<t.args.length) (g:j<u.args.length) (h:¬t.args[j]=u.args[j])=>pV (t:=t) (u:=u) fun e=>h (by simp only [e]))
 have HY:=zq (vW (t:=t) (u:=u))
 have l:=z.out.bel
 clear o D ih
 unfold fI at *
 generalize hq:xD t u=q at *
 clear hq
 obtain ⟨L,n⟩:∃L,Hid (t.args.length=L):=⟨_,zq rfl⟩
 obtain ⟨M,s⟩:∃M,Hid (u.args.length=M):=⟨_,zq rfl⟩
 rw [n.out] at z hm l v |-
 rw [s.out] at z l v |-
 generalize t.kind=a0 at *
 generalize t.num=Y at *
 generalize t.name=H at *
 generalize u.kind=Z at *
 generalize u.num=b1 at *
 generalize u.name=I at *
 by_cases J:a0=Z
 ·subst J
  by_cases K:Y=b1
  ·subst K
   by_cases N:H=I
   ·subst N
    by_cases e3:L=M
    ·subst e3
     have b5:=zq (T.out rfl rfl rfl)
     clear T U V X v
     go_enter Tryz.func42,Tryz.ntmps42
     go_wp2_with fail
     go_loopw [5] (fun i wr=>∃k:Nat,k<=L/\i=aa ab k/\Hid (TT w wr t u A B c d)/\Hid (∀j (f:j<t.args.length) (g:j<u.args.length),j<k->t.args[j]=u.args[j])) (fun i _=>L-(intOf i).toNat)
     case atStart=>exact ⟨0,Nat.zero_le _,rfl,z,zq fun j _ _ h=>absurd h (by omega)⟩
     case round=>
      obtain ⟨k,hk,rfl,m,S⟩:=hrel
      have b3:=m.out.a3
      have b4:=m.out.b3
      rw [n.out] at b3
      rw [s.out] at b4
      have E:=m.out.bel
      by_cases d5:k<L
      ·have P:k<t.args.length:=by have:=n.out;omega
       have a8:k<u.args.length:=by have:=s.out;omega
       obtain ⟨b,c6,Q,ca,rfl,hb,c0,c1,c2,c3,hs⟩:=(HT.out.keep E).get k P
       obtain ⟨b',c7,B',cb,rfl,c8,d0,d1,d2,d3,a9⟩:=(HU.out.keep E).get k a8
       have a5:=E.size
       have G:=zq (b7.out k P a8)
       have F:Hid (t.args[k]=u.args[k]->∀j (f:j<t.args.length) (g:j<u.args.length),j<k+1->t.args[j]=u.args[j]):=zq (fun O j f g hj=>by
        by_cases c4:j=k
        ·subst c4;exact O
        ·exact S.out j f g (by omega))
       have R:=zq (fun W (h:TT w W t u (some ⟨b,c6,none⟩) (some ⟨b',c7,none⟩) c d) (o:TmsAt W.heap.size W Q t.args[k].args) (D:TmsAt W.heap.size W B' u.args[k].args)=>b6.out t.args[k] (bW P) u.args[k] Q B' ca cb W o D)
       have a6:=(hs.keep (ap _ wr).drew).mono a5
       have a7:=(a9.keep (ap _ wr).drew).mono a5
       have p:=zq (R.out wr.drew (m.out.call (ap _ _).drew) a6 a7)
       have r:=zq (Aq (t:=t.args[k]) (u:=u.args[k]))
       have c9:(0:Int)<=(k:Int):=by omega
       have d4:(k:Int)<(L:Int):=by omega
       have HD:=zq (m.out.call (ap _ wr).drew)
       clear hs a9 a6 a7 R
       unfold fI at p
       obtain ⟨x,hx⟩:∃x,x=t.args[k]:=⟨_,rfl⟩
       obtain ⟨y,hy⟩:∃y,y=u.args[k]:=⟨_,rfl⟩
       rw [<-hx] at p G F r c0 c1 c2 c3
       rw [<-hy] at p G F r d0 d1 d2 d3
       clear hx hy
       go_wp2_with fail
       go_region_law (first
        | (go_simp;go_at_call 42;(with_reducible refine p.out.mono ?_);rintro e w2 ⟨rfl,b8⟩)
        | fail)
       all_goals
        have a4:=HD.out.call b8
        have b9:=a4.bel
        cases hq2:xD x y
        ·have c5:¬x=y:=fun e=>by rw [r.out.2 e] at hq2;cases hq2
         have a:=G.out c5
         subst a
         go_wp2_with fail
         go_ret
         exact ⟨rfl,b9⟩
        ·have O:=r.out.1 hq2
         go_wp2_with fail
         go_roundw
         case rel=>exact ⟨k+1,by omega,by go_num,zq a4,zq (F.out O)⟩
         case measure=>simp [intOf] <;> omega
      ·have a:=HY.out (b5.out (zn (by rw [n.out,s.out]) fun j f g=>S.out j f g (by have:=n.out;omega)))
       subst a
       go_wp2_with fail
       go_ret
       exact ⟨rfl,E⟩
    ·have a:=v.out e3
     subst a
     have C:((L:Int)==(M:Int))=false:=by simp;omega
     have f2:¬(L:Int)=(M:Int):=by omega
     go_enter Tryz.func42,Tryz.ntmps42
     go_wp2_with fail
     go_ret
     exact ⟨rfl,l⟩
   ·have a:=X.out N
    subst a
    have C:¬H.toList=I.toList:=fun h=>N (BI h)
    have f2:(H.toList==I.toList)=false:=by simpa using C
    go_enter Tryz.func42,Tryz.ntmps42
    go_wp2_with fail
    go_ret
    exact ⟨rfl,l⟩
  ·have a:=V.out K
   subst a
   have C:(Y==b1)=false:=by simpa using K
   go_enter Tryz.func42,Tryz.ntmps42
   go_wp2_with fail
   go_ret
   exact ⟨rfl,l⟩
 ·have a:=U.out J
  subst a
  have C:(a0==Z)=false:=by simpa using J
  go_enter Tryz.func42,Tryz.ntmps42
  go_wp2_with fail
  go_ret
  exact ⟨rfl,l⟩
end Go.Proofs.YtbojljpldcijgaaGreat
namespace Hb
open Go Go.RowKit
noncomputable def jZ (t u:Tm):Bool:=dZ t&&dZ u&&xD t u
end Hb
namespace Go.Proofs.YtbojljpldcijgaaGreat
open Go.RowKit Hb
theorem rW (t u:Tm) (A B:Option Addr) (c d:Nat) (w:au) (j:TmsAt w.heap.size w A t.args) (k:TmsAt w.heap.size w B u.args) :
  Calls am 18 #[fI t A c,fI u B d] w fun e w'=>e=.returned (.bool (jZ t u))/\aB w.heap.size w w':=by
 have i:=zq (TT.start w t u A B c d 30)
 have m:=zq (fun W (h:TT w W t u A B c d)=>mJ t A c W ((j.keep h.bel).mono h.bel.size))
 have n:=zq (fun W (h:TT w W t u A B c d)=>mJ u B d W ((k.keep h.bel).mono h.bel.size))
 have E:=zq (fun W (h:TT w W t u A B c d)=>rX t u A B c d W ((j.keep h.bel).mono h.bel.size) ((k.keep h.bel).mono h.bel.size))
 have l:=zq (fun W (h:TT w W t u A B c d)=>(⟨h.a0,h.a1,h.a2,h.a3,h.b0,h.b1,h.b2,h.b3⟩:_/\_/\_/\_/\_/\_/\_/\_))
 have g:Hid (jZ t u=(dZ t&&dZ u&&xD t u)):=zq rfl
 clear j k
 unfold fI at *
 generalize jZ t u=r at *
 generalize dZ t=G at *
 generalize dZ u=H at *
 generalize xD t u=P at *
 generalize t.kind=a0 at *
 generalize t.num=I at *
 generalize t.name=J at *
 generalize t.args.length=K at *
 generalize u.kind=L at *
 generalize u.num=M at *
 generalize u.name=N at *
 generalize u.args.length=O at *
 go_enter Tryz.func18,Tryz.ntmps18
 go_wp2_with fail
 refine (m.out _ i.out).mono ?_;rintro e Q ⟨rfl,o⟩
 have a:=zq (i.out.call o)
 obtain ⟨q,s,v,x,y,z,C,D⟩:=l.out _ a.out
 clear i o m
 cases G
 ·have b:=a.out.bel
  go_wp2_with fail
  go_ret
  exact ⟨bY (by rw [g.out];rfl),b⟩
 ·go_wp2_with fail
  refine (n.out _ a.out).mono ?_;rintro e R ⟨rfl,p⟩
  have f:=zq (a.out.call p)
  clear q s v x y z C D
  obtain ⟨q,s,v,x,y,z,C,D⟩:=l.out _ f.out
  clear a p n
  cases H
  ·have b:=f.out.bel
   go_wp2_with fail
   go_ret
   exact ⟨bY (by rw [g.out];rfl),b⟩
  ·go_wp2_with fail
   refine (E.out _ f.out).mono ?_;rintro e S ⟨rfl,F⟩
   have b:=(f.out.call F).bel
   go_wp2_with fail
   go_ret
   exact ⟨bY (by rw [g.out];simp),b⟩
end Go.Proofs.YtbojljpldcijgaaGreat
namespace Hb
open Go Go.RowKit
def lK:Nat->(Nat->Bool)->Nat
 | 0,_=>0
 | n+1,S=>lK n S+(if S n=true then 0 else 1)
def gC (S:Nat->Bool) (j:Nat):Nat->Bool:=fun i=>if i=j then true else S i
theorem jN (S:Nat->Bool) (j:Nat):gC S j j=true:=if_pos rfl
theorem cB (S:Nat->Bool) {j i:Nat} (h:i≠j):gC S j i=S i:=if_neg h
theorem qa:∀(n:Nat) (S T:Nat->Bool),(∀i,i<n->S i=T i)->lK n S=lK n T
 | 0,_,_,_=>rfl
 | n+1,S,T,h=>by
  unfold lK
  rw [qa n S T (fun i a=>h i (by omega)),h n (by omega)]
theorem pZ:∀(n:Nat) (S:Nat->Bool) (j:Nat),j<n->S j=false->lK n (gC S j)+1=lK n S
 | 0,_,_,h,_=>absurd h (by omega)
 | n+1,S,j,hj,h=>by
  unfold lK
  by_cases e:n=j
  ·subst e
   rw [qa n (gC S n) S (fun i a=>cB S (by omega)),jN,h]
   simp
  ·rw [cB S e]
   have:=pZ n S j (by omega) h
   omega
theorem oa:∀(n:Nat) (S:Nat->Bool),lK n S=0->∀j,j<n->S j=true
 | 0,_,_,_,h=>absurd h (by omega)
 | n+1,S,h,j,hj=>by
  unfold lK at h
  by_cases e:j=n
  ·subst e
   by_cases c:S j=true
   ·exact c
   ·rw [if_neg c] at h;omega
  ·exact oa n S (by omega) j (by omega)
def Bk (X:au) (g:Nat) (vs:List aC):Prop:=∃e,X.heap[g]? = some (.cells vs.toArray e)
theorem Bk.lt {X:au} {g:Nat} {vs:List aC} (h:Bk X g vs):g<X.heap.size:=by
 obtain ⟨e,h⟩:=h
 exact (aS.1 h).1
theorem Bk.c {X:au} {g:Nat} {vs:List aC} (h:Bk X g vs) (j:Nat) (v:aC) (a:vs[j]? = some v):X.cell? ⟨g,j,none⟩=some v:=by
 obtain ⟨e,h⟩:=h
 simp [World.cell?,h,a]
theorem Bk.f {X:au} {g:Nat} {vs:List aC} (h:Bk X g vs) (o:Nat):X.frozen? ⟨g,o,none⟩=false:=by
 obtain ⟨e,h⟩:=h
 unfold World.frozen?
 rw [h]
 simp
theorem Bk.call {X a:au} {g:Nat} {vs:List aC} (h:Bk X g vs) (b:aB X.heap.size X a):Bk a g vs:=by
 have c:=h.lt
 obtain ⟨e,h⟩:=h
 exact ⟨e,(b.block g c).trans h⟩
theorem Bk.al {X:au} {g:Nat} {vs:List aC} (h:Bk X g vs) (o:Obj):Bk (X.alloc o) g vs:=h.call ((ap _ _).alloc (ae _) o)
theorem Bk.dr {X:au} {g:Nat} {vs:List aC} (h:Bk X g vs):Bk X.drew g vs:=h.call (ap _ _).drew
theorem Bk.new (X:au) (vs:List aC) (e:cH):Bk (X.alloc (.cells vs.toArray e)) X.heap.size vs:=⟨e,World.alloc_heap_new X _⟩
theorem Bk.other {X:au} {g:Nat} {vs:List aC} (h:Bk X g vs) {a:Nat} (b:g≠a) (j:Nat) (v:aC):Bk (X.setCell ⟨a,j,none⟩ v) g vs:=by
 obtain ⟨e,h⟩:=h
 exact ⟨e,(heap_setCell_other X ⟨a,j,none⟩ g v b).trans h⟩
theorem Bk.set {X:au} {g:Nat} {vs:List aC} (h:Bk X g vs) (j:Nat) (v:aC):Bk (X.setCell ⟨g,j,none⟩ v) g (vs.set j v):=by
 obtain ⟨e,h⟩:=h
 refine ⟨e,?_⟩
 have a:=(aS.1 h).1
 simp only [World.setCell,Array.getElem?_modify,h]
 simp
theorem Bk.keeps {X a:au} {g:Nat} {vs:List aC} (h:Bk X g vs) (b:a.heap[g]? = X.heap[g]?):Bk a g vs:=by
 obtain ⟨e,h⟩:=h
 exact ⟨e,b.trans h⟩
structure Bks (X:au) (l:List (Nat×List aC)):Prop where
 bk:∀x∈l,Bk X x.1 x.2
 ord:(l.map (·.1)).Pairwise (· > ·)
theorem Bks.nil (X:au):Bks X []:=⟨fun x a=>(by cases a),List.Pairwise.nil⟩
theorem Bks.at {X:au} {l:List (Nat×List aC)} (h:Bks X l) (j g:Nat) (vs:List aC) (a:l[j]? = some (g,vs)):Bk X g vs:=h.bk (g,vs) (eo a)
theorem Bks.lt {X:au} {l:List (Nat×List aC)} (h:Bks X l) (j:Nat) {g:Nat} {vs:List aC} (a:l[j]? = some (g,vs)):g<X.heap.size:=(h.at j g vs a).lt
theorem Bks.keep {X a:au} {l:List (Nat×List aC)} (h:Bks X l) (c:∀x∈l,a.heap[x.1]? = X.heap[x.1]?):Bks a l:=⟨fun x b=>(h.bk x b).keeps (c x b),h.ord⟩
theorem Bks.call {X a:au} {l:List (Nat×List aC)} (h:Bks X l) (b:aB X.heap.size X a):Bks a l:=⟨fun x c=>(h.bk x c).call b,h.ord⟩
theorem Bks.new {X:au} {l:List (Nat×List aC)} (h:Bks X l) (vs:List aC) (e:cH) {g:Nat} (b:X.heap.size=g):Bks (X.alloc (.cells vs.toArray e)) ((g,vs)::l):=by
 subst b
 refine ⟨fun x a=>?_,?_⟩
 ·rcases List.mem_cons.1 a with rfl | a
  ·exact Bk.new X vs e
  ·exact (h.bk x a).al _
 ·rw [da,em]
  refine ⟨fun g b=>?_,h.ord⟩
  obtain ⟨x,a,rfl⟩:=List.mem_map.1 b
  exact (h.bk x a).lt
theorem Bks.set {X:au} {l:List (Nat×List aC)} (h:Bks X l) (j i:Nat) {g:Nat} {vs:List aC} (c:l[j]? = some (g,vs)) (v:aC):Bks (X.setCell ⟨g,i,none⟩ v) (l.set j (g,vs.set i v)):=by
 have s:(l.set j (g,vs.set i v)).map (·.1)=l.map (·.1):=by
  rw [List.map_set]
  refine List.ext_getElem? fun k=>?_
  rw [dR]
  split
  ·rename_i e
   subst e
   split
   ·rw [List.getElem?_map,c];rfl
   ·rename_i t
    rw [List.getElem?_eq_none (by simpa using t)]
  ·rfl
 refine ⟨fun x w=>?_,by rw [s];exact h.ord⟩
 obtain ⟨k,a⟩:=List.mem_iff_getElem?.1 w
 rw [dR] at a
 split at a
 ·split at a
  ·injection a with a;subst a
   exact (h.at j g vs c).set i v
  ·cases a
 ·rename_i u
  have r:=h.bk x (eo a)
  refine r.other (fun e=>?_) i v
  have p:(l.map (·.1))[k]? = some x.1:=by rw [List.getElem?_map,a];rfl
  have q:(l.map (·.1))[j]? = some g:=by rw [List.getElem?_map,c];rfl
  obtain ⟨n,d⟩:=cO.1 p
  obtain ⟨o,f⟩:=cO.1 q
  have m:=List.pairwise_iff_getElem.1 h.ord
  rcases Nat.lt_or_gt_of_ne (fun e=>u e:j≠k) with b | b
  ·have:=m j k o n b
   rw [d,f] at this;omega
  ·have:=m k j n o b
   rw [d,f] at this;omega
theorem Bks.set4 {X:au} {l:List (Nat×List aC)} (h:Bks X l) (j:Nat) {g:Nat} {u0 u1 u2 u3:aC} (f:l[j]? = some (g,[u0,u1,u2,u3])) (a b c e:aC) :
  Bks ((((X.setCell ⟨g,0,none⟩ a).setCell ⟨g,1,none⟩ b).setCell ⟨g,2,none⟩ c).setCell ⟨g,3,none⟩ e) (l.set j (g,[a,b,c,e])):=by
 have d:j<l.length:=(cO.1 f).1
 have i:=h.set j 0 f a
 have k:=i.set j 1 (g:=g) (vs:=[a,u1,u2,u3]) (by rw [dR];simp [d]) b
 have m:=k.set j 2 (g:=g) (vs:=[a,b,u2,u3]) (by rw [dR];simp [d]) c
 have n:=m.set j 3 (g:=g) (vs:=[a,b,c,u3]) (by rw [dR];simp [d]) e
 simpa using n
theorem Bks.tl {X:au} {x:Nat×List aC} {l:List (Nat×List aC)} (h:Bks X (x::l)):Bks X l:=⟨fun y a=>h.bk y (List.mem_cons_of_mem _ a),by have:=h.ord;rw [da,em] at this;exact this.2⟩
theorem oT {l:List (Nat×List aC)} {j g:Nat} {vs:List aC} (c:List aC) (a:l[j]? = some (g,vs)):∀x∈l.set j (g,c),∃y∈l,y.1=x.1:=fun x b=>by
 rcases List.mem_or_eq_of_mem_set b with h | h
 ·exact ⟨x,h,rfl⟩
 ·exact ⟨_,eo a,by rw [h]⟩
theorem TmsK.rows {K:Nat->Prop} {w:au} {rs:List TR} {e:cH} (f:K w.heap.size) (l:rs.length<=maxLen) (h:∀x∈rs,TmsK K (w.alloc (.cells (dM rs).toArray e)) x.2.1 x.1.args) :
  TmsK K (w.alloc (.cells (dM rs).toArray e)) (some ⟨w.heap.size,0,none⟩) (rs.map (·.1)):=by
 have g:∀(rs:List TR) (j:Nat) (a:j<rs.length) (i:Nat),i<4->(dM rs)[j * 4+i]? = (fL rs[j])[i]?:=by
  intro rs
  induction rs with
  | nil=>intro j a;cases a
  | cons x rs ih=>
   intro j a i d
   have n:dM (x::rs)=fL x++dM rs:=rfl
   have k:(fL x).length=4:=rfl
   rw [n]
   cases j with
   | zero=>rw [List.getElem?_append_left (by omega)];simp
   | succ j=>
    rw [List.getElem?_append_right (by omega),k,show (j+1) * 4+i-4=j * 4+i by omega,ih j (by simpa using a) i d]
    rfl
 refine .mk _ _ (fun j=>(rs[j]?.map (·.2.1)).getD none) (fun j=>(rs[j]?.map (·.2.2)).getD 0) (by simpa using l) (fun j a=>?_) (fun j a=>?_)
 ·have b:j<rs.length:=by simpa using a
  have c:∀i u,i<4->(fL rs[j])[i]? = some u->(w.alloc (.cells (dM rs).toArray e)).cell? ⟨w.heap.size,0+j * 4+i,none⟩=some u:=fun i u d m=>by
   rw [aF,Nat.zero_add]
   simp [g rs j b i d,m]
  refine ⟨w.heap.size,0,rfl,f,?_,?_,?_,?_⟩
  ·have:=c 0 _ (by omega) rfl
   simpa using this
  ·have:=c 1 _ (by omega) rfl
   simpa using this
  ·have:=c 2 _ (by omega) rfl
   simpa using this
  ·have:=c 3 _ (by omega) rfl
   simpa [bi b] using this
 ·have b:j<rs.length:=by simpa using a
  have:=h rs[j] (bW b)
  simpa [bi b] using this
def gh (n:Nat) (S:Nat->Bool):Array Bool:=Array.ofFn fun i:Fin n=>S i
theorem io (n:Nat) (S:Nat->Bool) (j:Nat) (d:Bool) (a:j<n):(gh n S).getD j d=S j:=by
 unfold gh
 simp [Array.getD,a]
theorem rq (n:Nat) (S:Nat->Bool) (j:Nat):(gh n S).setIfInBounds j true=gh n (gC S j):=by
 apply Array.ext
 ·simp [gh]
 ·intro i f c
  have a:i<n:=by simpa [gh] using c
  rw [Array.getElem_setIfInBounds (by simpa [gh] using a)]
  have d:(gh n (gC S j))[i]=gC S j i:=ie ..
  have b:(gh n S)[i]'(by simpa [gh] using a)=S i:=ie ..
  rw [d,b]
  split
  ·rename_i e;subst e;exact (jN S j).symm
  ·rename_i e;exact (cB S (fun h=>e h.symm)).symm
theorem pW (n:Nat):gh n (fun _=>false)=Array.replicate n false:=by
 apply Array.ext
 ·simp [gh]
 ·intro i a b;simp [gh]
def pD (md:Region.Mode) (a:Array Oper):Bool:=(List.range a.size).all fun j=>(a[j]?).all fun o=>o.after.all fun e=>!ia md e||decide (e.on<j)
theorem ni {md:Region.Mode} {d:Array Oper} (h:pD md d=true) {j:Nat} {o:Oper} (c:d[j]? = some o) {e:Edge} (g:e∈o.after) (f:ia md e=true):e.on<j:=by
 unfold pD at h
 rw [List.all_eq_true] at h
 have a:=h j (List.mem_range.2 (aS.1 c).1)
 rw [c] at a
 simp only [Option.all_some] at a
 have b:=Array.all_eq_true_iff_forall_mem.1 a e g
 rw [f] at b
 simpa using b
theorem wm {P:Program} {b:Array Oper} {Q:Exit->Act->au->Prop} {md:Region.Mode} (I:(Nat->Bool)->Act->au->Prop) (y:pD md b=true)
  (D:∀S j o a w,b[j]? = some o->S j=false->(∀e∈o.after,ia md e=true->S e.on=true)->I S a w->if Region.wanted o (yielded b a.tmps) then o.wp P a w (I (gC S j)) Q else I (gC S j) (a.put o.dst undef) w)
  (v:∀S a w,(∀j,j<b.size->S j=true)->I S a w->Q .normal a w):∀(m:Nat) (S:Nat->Bool) (a:Act) (w:au),lK b.size S<=m->I S a w->wpAny P md b Q m (gh b.size S) a w:=by
 have B:∀S,Region.ready md b (gh b.size S)=[]->∀j,j<b.size->S j=true:=fun S s j=>by
  induction j using Nat.strongRecOn with
  | ind j ih=>
   intro r
   cases hs:S j with
   | true=>rfl
   | false=>
    have:j∈Region.ready md b (gh b.size S):=mem_ready.2 ⟨by rw [io _ _ _ _ r];exact hs,_,bp r,fun e n l=>by
     have x:=ni y (bp r) n l
     rw [io _ _ _ _ (by omega)]
     exact ih e.on x (by omega)⟩
    rw [s] at this
    cases this
 intro m
 induction m with
 | zero=>
  intro S a w A k
  have u:=oa b.size S (by omega)
  refine ⟨?_,v S a w u k⟩
  refine List.eq_nil_iff_forall_not_mem.2 fun i q=>?_
  obtain ⟨c,o,d,_⟩:=mem_ready.1 q
  have f:=(aS.1 d).1
  rw [io _ _ _ _ f,u i f] at c
  cases c
 | succ m ih=>
  intro S a w A k
  refine ⟨fun s=>v S a w (B S s) k,fun i q=>?_⟩
  obtain ⟨c,o,d,C⟩:=mem_ready.1 q
  have f:=(aS.1 d).1
  rw [io _ _ _ _ f] at c
  have p:=D S i o a w d c (fun e n l=>by
   have:=C e n l
   have x:=ni y d n l
   rw [io _ _ _ _ (by omega)] at this
   exact this) k
  have E:=pZ b.size S i f c
  have z:∀g w',I (gC S i) g w'->wpAny P md b Q m ((gh b.size S).setIfInBounds i true) g w':=fun g w' h=>by
   rw [rq]
   exact ih (gC S i) g w' (by omega) h
  unfold wpOp
  rw [d]
  dsimp only
  split
  ·rename_i t
   rw [if_pos t] at p
   exact .inl (Oper.wp_mono z p)
  ·rename_i t
   rw [if_neg t] at p
   exact z _ _ p
end Hb
