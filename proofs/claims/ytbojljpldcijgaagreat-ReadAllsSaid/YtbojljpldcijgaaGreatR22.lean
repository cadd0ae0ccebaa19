/- Parts of the proof. -/
import Derived.Test.YtbojljpldcijgaaGreatR01
import Derived.Test.YtbojljpldcijgaaGreatR21
import Derived.Test.YtbojljpldcijgaaGreatR12
import Derived.Test.YtbojljpldcijgaaGreatR05
import Derived.Test.YtbojljpldcijgaaGreatR13
import Derived.Test.YtbojljpldcijgaaGreatR02
import Derived.Test.YtbojljpldcijgaaGreatR17
set_option maxHeartbeats 12800000
set_option maxRecDepth 100000
open Go renaming Calls -> aU, World -> au, heap_setCell_other -> aW
open Go.Ending renaming returned -> aD
open Go.IntKind renaming i64 -> ab
open Go.Proofs.Tryz renaming prog -> am
open Go.RowKit renaming Below -> aB
open Go.RowKit.Below renaming refl -> ap
open Go.Value renaming bool -> av, int -> aa, string -> ac
open List renaming mem_singleton -> aK
open Nat renaming le_refl -> ae
namespace Go.Proofs.YtbojljpldcijgaaGreat
open Go.RowKit Hb Go.Shelf
theorem sx (w:au):aU am 23 #[] w fun e w'=>∃g b,e=aD (.agg #[.slice (some ⟨g,0,none⟩) 41 b,aa ab 1,aa ab 1,av false,av false,.slice none 0 0])/\aB w.heap.size w w'/\Tab w' (some ⟨g,0,none⟩) 41 b defL:=by
 have q:Hid (aB w.heap.size w (w.alloc (.cells #[.slice none 0 0,aa ab 0,aa ab 0,av false,av false,.slice none 0 0] 27))):=zq ((ap _ _).alloc (ae _) _)
 have y:Hid (Bk (w.alloc (.cells #[.slice none 0 0,aa ab 0,aa ab 0,av false,av false,.slice none 0 0] 27)) w.heap.size [.slice none 0 0,aa ab 0,aa ab 0,av false,av false,.slice none 0 0]):=zq (Bk.new w [.slice none 0 0,aa ab 0,aa ab 0,av false,av false,.slice none 0 0] 27)
 go_enter Tryz.func23,Tryz.ntmps23
 go_wp2_with fail
 refine (tn wQ _).mono ?_;rintro e T ⟨g,b,rfl,n,E⟩
 have r:=bz q n
 have z:=zq (y.out.call n)
 have A:=zq E
 clear n q y E
 go_wp2_with fail
 refine (xu _).mono ?_;rintro e d ⟨rfl,m⟩
 have t:=bz r m
 have a:=zq (z.out.call m)
 have B:=zq (A.out.below m)
 clear m r z A
 unfold BB vU
 dsimp only
 have U:d.cell? ⟨w.heap.size,0,none⟩=some (.slice none 0 0):=a.out.c 0 _ rfl
 have N:=a.out.f 0
 have V:d.cell? ⟨w.heap.size,1,none⟩=some (aa ab 0):=a.out.c 1 _ rfl
 have O:=a.out.f 1
 have W:d.cell? ⟨w.heap.size,2,none⟩=some (aa ab 0):=a.out.c 2 _ rfl
 have P:=a.out.f 2
 have X:d.cell? ⟨w.heap.size,3,none⟩=some (av false):=a.out.c 3 _ rfl
 have Q:=a.out.f 3
 have Y:d.cell? ⟨w.heap.size,4,none⟩=some (av false):=a.out.c 4 _ rfl
 have R:=a.out.f 4
 have Z:d.cell? ⟨w.heap.size,5,none⟩=some (.slice none 0 0):=a.out.c 5 _ rfl
 have S:=a.out.f 5
 have h:Hid (Bk ((((((d.setCell ⟨w.heap.size,0,none⟩ (.slice (some ⟨g,0,none⟩) 41 b)).setCell ⟨w.heap.size,1,none⟩ (aa ab 1)).setCell ⟨w.heap.size,2,none⟩ (aa ab 1)).setCell ⟨w.heap.size,3,none⟩ (av false)).setCell ⟨w.heap.size,4,none⟩ (av false)).setCell ⟨w.heap.size,5,none⟩ (.slice none 0 0)) w.heap.size [.slice (some ⟨g,0,none⟩) 41 b,aa ab 1,aa ab 1,av false,av false,.slice none 0 0]):=zq ((((((a.out.set 0 (.slice (some ⟨g,0,none⟩) 41 b)).set 1 (aa ab 1)).set 2 (aa ab 1)).set 3 (av false)).set 4 (av false)).set 5 (.slice none 0 0))
 have u:Hid (aB w.heap.size w ((((((d.setCell ⟨w.heap.size,0,none⟩ (.slice (some ⟨g,0,none⟩) 41 b)).setCell ⟨w.heap.size,1,none⟩ (aa ab 1)).setCell ⟨w.heap.size,2,none⟩ (aa ab 1)).setCell ⟨w.heap.size,3,none⟩ (av false)).setCell ⟨w.heap.size,4,none⟩ (av false)).setCell ⟨w.heap.size,5,none⟩ (.slice none 0 0))):=zq ((((((t.out.setCell (p:=⟨_,_,none⟩) (ae _) _).setCell (p:=⟨_,_,none⟩) (ae _) _).setCell (p:=⟨_,_,none⟩) (ae _) _).setCell (p:=⟨_,_,none⟩) (ae _) _).setCell (p:=⟨_,_,none⟩) (ae _) _).setCell (p:=⟨_,_,none⟩) (ae _) _)
 have C:Hid (Tab ((((((d.setCell ⟨w.heap.size,0,none⟩ (.slice (some ⟨g,0,none⟩) 41 b)).setCell ⟨w.heap.size,1,none⟩ (aa ab 1)).setCell ⟨w.heap.size,2,none⟩ (aa ab 1)).setCell ⟨w.heap.size,3,none⟩ (av false)).setCell ⟨w.heap.size,4,none⟩ (av false)).setCell ⟨w.heap.size,5,none⟩ (.slice none 0 0)) (some ⟨g,0,none⟩) 41 b defL):=zq (wN (L:=[(w.heap.size,[.slice none 0 0,aa ab 0,aa ab 0,av false,av false,.slice none 0 0])]) ⟨by kernel_rfl,B.out,fun _=>.inr ⟨_,rfl⟩⟩ ⟨fun x o=>by rw [aK.1 o];exact a.out,by simp⟩ (fun x o=>by
  rw [aK.1 o]
  intro i s x
  rcases i with _ | _ | _ | _ | _ | _ | i <;> simp) (by simp) (fun k F=>by
  have j:=F _ (aK.2 rfl)
  rw [aW _ _ _ _ j,aW _ _ _ _ j,aW _ _ _ _ j,aW _ _ _ _ j,aW _ _ _ _ j,aW _ _ _ _ j]))
 obtain ⟨l,D⟩:=lz (((((((d.setCell ⟨w.heap.size,0,none⟩ (.slice (some ⟨g,0,none⟩) 41 b)).setCell ⟨w.heap.size,1,none⟩ (aa ab 1)).setCell ⟨w.heap.size,2,none⟩ (aa ab 1)).setCell ⟨w.heap.size,3,none⟩ (av false)).setCell ⟨w.heap.size,4,none⟩ (av false)).setCell ⟨w.heap.size,5,none⟩ (.slice none 0 0)))
 rw [<-D.out] at h u C
 clear t a B
 go_wp2_with fail
 rw [<-D.out]
 have G:l.cell? ⟨w.heap.size,0,none⟩=some (.slice (some ⟨g,0,none⟩) 41 b):=h.out.c 0 _ rfl
 have H:l.cell? ⟨w.heap.size,1,none⟩=some (aa ab 1):=h.out.c 1 _ rfl
 have I:l.cell? ⟨w.heap.size,2,none⟩=some (aa ab 1):=h.out.c 2 _ rfl
 have J:l.cell? ⟨w.heap.size,3,none⟩=some (av false):=h.out.c 3 _ rfl
 have K:l.cell? ⟨w.heap.size,4,none⟩=some (av false):=h.out.c 4 _ rfl
 have M:l.cell? ⟨w.heap.size,5,none⟩=some (.slice none 0 0):=h.out.c 5 _ rfl
 exact bodyPost_ret (v:=.agg #[.slice (some ⟨g,0,none⟩) 41 b,aa ab 1,aa ab 1,av false,av false,.slice none 0 0]) (by simp [results,Tryz.results23,go_sem,G,H,I,J,K,M]) rfl ⟨g,b,rfl,u.out,C.out⟩
theorem uJ (A:Option Addr) (n a:Nat) (l:List OpR) (w:au) (b:n=l.length) (c:OpsAt w A l) :
  aU am 50 #[.slice A n a] w fun e w'=>e=aD (av (ea l))/\aB w.heap.size w w':=by
 by_cases f:100<n
 ·have g:decide ((100:Int)<n)=true:=by simp;omega
  have d:=zq (jr l (by omega))
  clear b c f
  go_enter Tryz.func50,Tryz.ntmps50
  go_wp2_with fail
  go_ret
  exact ⟨bY d.out.symm,ap _ _⟩
 ·exact qT A n a l w b (by omega) c
theorem pU (f:Option Addr) (on g:Nat) (q u:Int) (c d:Bool) (b:Option Addr) (a h:Nat) (l:List OpR) (n:List (Int×Int)) (w:au) (F:Tab w f on g l) (G:a=n.length) (H:a<=maxLen) (E:Pairs w b n) :
  aU am 31 #[.agg #[.slice f on g,aa ab q,aa ab u,av c,av d,.slice b a h]] w fun e w'=>e=aD (av (ea l&&(pS ⟨q,u,c,d⟩&&gq n)))/\aB w.heap.size w w':=by
 have C:=zq F
 have Q:=zq G
 have R:=zq H
 have P:=zq E
 have o:Hid (aB w.heap.size w (w.alloc (.cells #[.slice f on g,aa ab q,aa ab u,av c,av d,.slice b a h] 27))):=zq ((ap _ _).alloc (ae _) _)
 have B:Hid (Bk (w.alloc (.cells #[.slice f on g,aa ab q,aa ab u,av c,av d,.slice b a h] 27)) w.heap.size [.slice f on g,aa ab q,aa ab u,av c,av d,.slice b a h]):=zq (Bk.new w [.slice f on g,aa ab q,aa ab u,av c,av d,.slice b a h] 27)
 have x:=zq (fun W=>Ao ⟨q,u,c,d⟩ W)
 obtain ⟨D,p⟩:=lz (ea l)
 obtain ⟨U,s⟩:=lz (pS ⟨q,u,c,d⟩)
 obtain ⟨V,v⟩:=lz (gq n)
 rw [<-p.out,<-s.out,<-v.out]
 rw [<-s.out] at x
 unfold BB at x
 have T:Hid (∀W,aB w.heap.size w W->aU am 50 #[.slice f on g] W fun e w'=>e=aD (av D)/\aB W.heap.size W w'):=zq fun W A=>by
  have:=uJ f on g l W C.out.len (C.out.ops.below A)
  rwa [<-p.out] at this
 have S:Hid (∀W,aB w.heap.size w W->aU am 52 #[.slice b a h] W fun e w'=>e=aD (av V)/\aB W.heap.size W w'):=zq fun W A=>by
  have:=ma b a h n W Q.out R.out (P.out.below A)
  rwa [<-v.out] at this
 clear F G H E p s v
 go_enter Tryz.func31,Tryz.ntmps31
 go_wp2_with fail
 refine (T.out _ o.out).mono ?_;rintro e k ⟨rfl,y⟩
 have r:=bz o y
 have i:=zq (B.out.call y)
 clear y o B
 have I:k.cell? ⟨w.heap.size,0,none⟩=some (.slice f on g):=i.out.c 0 _ rfl
 have J:k.cell? ⟨w.heap.size,1,none⟩=some (aa ab q):=i.out.c 1 _ rfl
 have K:k.cell? ⟨w.heap.size,2,none⟩=some (aa ab u):=i.out.c 2 _ rfl
 have L:k.cell? ⟨w.heap.size,3,none⟩=some (av c):=i.out.c 3 _ rfl
 have M:k.cell? ⟨w.heap.size,4,none⟩=some (av d):=i.out.c 4 _ rfl
 have N:k.cell? ⟨w.heap.size,5,none⟩=some (.slice b a h):=i.out.c 5 _ rfl
 cases D
 ·go_wp2_with fail
  go_ret
  exact ⟨rfl,r.out⟩
 go_wp2_with fail
 refine (x.out _).mono ?_;rintro e m ⟨rfl,z⟩
 have t:=bz r z
 have j:=zq (i.out.call z)
 clear z r i I J K L M N
 have I:m.cell? ⟨w.heap.size,0,none⟩=some (.slice f on g):=j.out.c 0 _ rfl
 have J:m.cell? ⟨w.heap.size,1,none⟩=some (aa ab q):=j.out.c 1 _ rfl
 have K:m.cell? ⟨w.heap.size,2,none⟩=some (aa ab u):=j.out.c 2 _ rfl
 have L:m.cell? ⟨w.heap.size,3,none⟩=some (av c):=j.out.c 3 _ rfl
 have M:m.cell? ⟨w.heap.size,4,none⟩=some (av d):=j.out.c 4 _ rfl
 have N:m.cell? ⟨w.heap.size,5,none⟩=some (.slice b a h):=j.out.c 5 _ rfl
 cases U
 ·go_wp2_with fail
  go_ret
  exact ⟨rfl,t.out⟩
 go_wp2_with fail
 refine (S.out _ t.out).mono ?_;rintro e Y ⟨rfl,X⟩
 have O:=bz t X
 go_wp2_with fail
 go_ret
 exact ⟨rfl,O.out⟩
end Go.Proofs.YtbojljpldcijgaaGreat
namespace Hb
open Go Go.RowKit
structure Sy where
 P:List OpR
 q:Int
 u:Int
 c:Bool
 d:Bool
 C:List (Int×Int)
def Sy.ok (s:Sy):Bool:=ea s.P&&(pS ⟨s.q,s.u,s.c,s.d⟩&&gq s.C)
def Sy.conv (s:Sy):List (Int×Int):=if s.c=true then s.C else []
structure RdR where
 t:Tm
 names:List (List UInt8×Nat)
 singles:List (List UInt8×Nat)
 end_:Int
 where_:Int
 err:Int
def gx (k:Int) (e:Int):RdR:=⟨.mk 0 0 ⟨#[]⟩ [],[],[],0,k,e⟩
def qm (v:VS):List (List UInt8×Nat):=v.m.filter fun p=>v.o.count p.2==1
def kC (E:RE) (t:Tm) (m:Nat):RdR :=
 if dZ t=true then ⟨t,(bv E.T m).m,qm (bv E.T m),(E.at m).r.end_,0,0⟩ else gx (E.at 0).r.at_ 2
def ka (E:RE):RdR :=
 match kA E with
 | .error k=>gx (E.at k).r.at_ 7
 | .ok (t,m)=>kC E t m
def gA (L:List UInt8) (a:Int) (s:Sy):Bool:=decide (16384<L.length)||(decide (a<0)||(decide ((L.length:Int)<a) || !s.ok))
def cT (L:List UInt8) (a:Int) (s:Sy):AllR:=lL (ba (fj s.conv) L) L a.toNat
def eD (L:List UInt8) (a:Int) (s:Sy):RdR :=
 if gA L a s=true then gx 0 1
 else if ¬(cT L a s).err=0 then gx (cT L a s).where_ (cT L a s).err
 else ka ⟨(cT L a s).l,s.P,s.q⟩
def NmAt (K:Nat->Prop) (w:au) (A:Option Addr) (m:List (List UInt8×Nat)):Prop :=
 m.length<=maxLen/\∀j (h:j<m.length),∃b off,A=some ⟨b,off,none⟩/\K b/\w.cell? ⟨b,off+j * 2,none⟩=some (ac ⟨m[j].1.toArray⟩)/\w.cell? ⟨b,off+j * 2+1,none⟩=some (aa ab (m[j].2:Int))
theorem NmAt.keep {K K':Nat->Prop} {w w':au} {A:Option Addr} {m:List (List UInt8×Nat)} (h:NmAt K w A m) (g:∀b,K b->w'.heap[b]? = w.heap[b]?) (i:∀b,K b->K' b):NmAt K' w' A m:=⟨h.1,fun j k=>by
 obtain ⟨b,l,e,a,d,f⟩:=h.2 j k
 have c:∀o,w'.cell? ⟨b,o,none⟩=w.cell? ⟨b,o,none⟩:=fun o=>World.cell?_of_block (g b a)
 exact ⟨b,l,e,i b a,(c _).trans d,(c _).trans f⟩⟩
theorem NmAt.nil {K:Nat->Prop} {w:au} {A:Option Addr}:NmAt K w A []:=⟨by decide,fun j h=>absurd h (by simp)⟩
theorem oA:∀(m:List (List UInt8×Nat)) (j:Nat) (h:j<m.length),(eE m)[j * 2]? = some (ac ⟨m[j].1.toArray⟩)/\(eE m)[j * 2+1]? = some (aa ab (m[j].2:Int))
 | p::l,0,_=>⟨rfl,rfl⟩
 | p::l,j+1,h=>by
  have:=oA l j (by simpa using h)
  have e:eE (p::l)=ac ⟨p.1.toArray⟩::aa ab (p.2:Int)::eE l:=rfl
  rw [e,show (j+1) * 2=j * 2+2 by omega,show j * 2+2+1=j * 2+1+2 by omega]
  exact this
theorem NmAt.own {w:au} {c e:Nat} {A:Option Addr} {n f:Nat} {m:List (List UInt8×Nat)} (h:w.ownsRow c e 2 (.slice A n f) m.length (eE m)):n=m.length/\NmAt (fun b=>c<=b/\b<w.heap.size) w A m:=by
 have x:=h.1
 rcases h.2 with ⟨a,i⟩ | ⟨g,t,v,a,l,o,z,y,B⟩
 ·have:m=[]:=List.eq_nil_of_length_eq_zero i
  subst this
  injection a with _ a _
  exact ⟨a,NmAt.nil⟩
 ·injection a with hA hn2 _
  subst hA
  refine ⟨hn2,by omega,fun j p=>?_⟩
  obtain ⟨r,s⟩:=oA m j p
  have d:∀k u,(eE m)[k]? = some u->w.cell? ⟨g,0+k,none⟩=some u:=fun k u q=>by
   have:=h.cells (g:=g) rfl k u q
   rw [eO] at this
   exact this
  exact ⟨g,0,rfl,⟨l,(Array.getElem?_eq_some_iff.1 o).1⟩,d _ _ r,d _ _ s⟩
theorem lq (b:Int) (t:List UInt8) (a e:Int):¬(dI b t a e).err=1:=by
 unfold dI;split
 ·show ¬(2:Int)=1;decide
 ·show ¬(0:Int)=1;decide
theorem tA (b:Int) (t:List UInt8) (a e:Int):¬(fM b t a e).err=1:=by
 unfold fM;split
 ·show ¬(0:Int)=1;decide
 ·show ¬(7:Int)=1;decide
theorem sH (m l:List UInt8) (p:Nat):¬(dg m l p).err=1:=by
 unfold dg
 split
 ·show ¬(7:Int)=1;decide
 split
 ·exact lq _ _ _ _
 split
 ·unfold ew
  split
  ·cases cD (l.drop (p+2)) 39 with
   | none=>show ¬(7:Int)=1;decide
   | some ck=>show ¬(0:Int)=1;decide
  split
  ·exact tA _ _ _ _
  ·exact tA _ _ _ _
 split
 ·unfold km
  split
  ·show ¬(0:Int)=1;decide
  ·exact lq _ _ _ _
 split
 ·exact lq _ _ _ _
 split
 ·unfold gR
  split
  ·cases jj (l.drop (p+1)) 34 with
   | none=>show ¬(7:Int)=1;decide
   | some x=>show ¬(0:Int)=1;decide
  split
  ·cases jj (l.drop (p+1)) 39 with
   | none=>show ¬(7:Int)=1;decide
   | some x=>exact lq _ _ _ _
  ·show ¬(7:Int)=1;decide
 ·show ¬(7:Int)=1;decide
theorem xk (m l:List UInt8) (a:Nat):¬(bD m l a).r.err=1:=by
 unfold bD
 simp only
 split
 ·show ¬(14:Int)=1;decide
 split
 ·exact sH _ _ _
 ·exact sH _ _ _
theorem tT (m l:List UInt8):∀(f a:Nat) (b:List NextR),¬(kZ f m l a b).err=1
 | 0,_,_=>by show ¬(99:Int)=1;decide
 | f+1,a,b=>by
  rw [jT]
  split
  ·show ¬(7:Int)=1;decide
  split
  ·exact xk _ _ _
  split
  ·show ¬(0:Int)=1;decide
  ·exact tT m l f _ _
end Hb
