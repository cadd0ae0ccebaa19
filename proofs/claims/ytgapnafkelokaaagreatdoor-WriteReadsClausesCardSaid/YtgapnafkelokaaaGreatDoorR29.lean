/- Parts of the proof. -/
import Derived.Test.YtgapnafkelokaaaGreatDoorR01
import Derived.Test.YtgapnafkelokaaaGreatDoorR28
import Derived.Test.YtgapnafkelokaaaGreatDoorR22
import Derived.Test.YtgapnafkelokaaaGreatDoorR19
import Derived.Test.YtgapnafkelokaaaGreatDoorR05
import Derived.Test.YtgapnafkelokaaaGreatDoorR16
import Derived.Test.YtgapnafkelokaaaGreatDoorR25
set_option maxHeartbeats 12800000
set_option maxRecDepth 100000
open Go renaming World -> aj
open Go.Ending renaming returned -> av
open Go.IntKind renaming i64 -> ae
open Go.Proofs.Tryz renaming prog -> ah
open Go.RowKit renaming Below -> ay
open Go.RowKit.Below renaming refl -> ak
open Go.Value renaming bool -> an, int -> ab, string -> aa
namespace Go.Proofs.YtgapnafkelokaaaGreatDoor
open Go.RowKit Hb Go.Shelf
theorem zn (A:Option Addr) (n a:Nat) (l:List OpR) (w:aj) (b:n=l.length) (c:OpsAt w A l) :
  Calls ah 31 #[.slice A n a] w fun e w'=>e=av (an (bF l))/\ay w.heap.size w w':=by
 by_cases f:100<n
 ·have g:decide ((100:Int)<n)=true:=by simp;omega
  have d:=zq (jV l (by omega))
  clear b c f
  go_enter Tryz.func31,Tryz.ntmps31
  go_wp2_with fail
  go_ret
  exact ⟨bC d.out.symm,ak _ _⟩
 ·exact nF A n a l w b (by omega) c
theorem sO (f:Option Addr) (on g:Nat) (q u:Int) (c d:Bool) (b:Option Addr) (a h:Nat) (l:List OpR) (n:List (Int×Int)) (w:aj) (F:Tab w f on g l) (G:a=n.length) (H:a<=maxLen) (E:Pairs w b n) :
  Calls ah 48 #[.agg #[.slice f on g,ab ae q,ab ae u,an c,an d,.slice b a h]] w fun e w'=>e=av (an (bF l&&(pl ⟨q,u,c,d⟩&&iT n)))/\ay w.heap.size w w':=by
 have C:=zq F
 have Q:=zq G
 have R:=zq H
 have P:=zq E
 have o:Hid (ay w.heap.size w (w.alloc (.cells #[.slice f on g,ab ae q,ab ae u,an c,an d,.slice b a h] 62))):=zq ((ak _ _).alloc (Nat.le_refl _) _)
 have B:Hid (Bk (w.alloc (.cells #[.slice f on g,ab ae q,ab ae u,an c,an d,.slice b a h] 62)) w.heap.size [.slice f on g,ab ae q,ab ae u,an c,an d,.slice b a h]):=zq (Bk.new w [.slice f on g,ab ae q,ab ae u,an c,an d,.slice b a h] 62)
 have x:=zq (fun W=>Hv ⟨q,u,c,d⟩ W)
 obtain ⟨D,p⟩:=lz (bF l)
 obtain ⟨U,s⟩:=lz (pl ⟨q,u,c,d⟩)
 obtain ⟨V,v⟩:=lz (iT n)
 rw [<-p.out,<-s.out,<-v.out]
 rw [<-s.out] at x
 unfold Ke at x
 have T:Hid (∀W,ay w.heap.size w W->Calls ah 31 #[.slice f on g] W fun e w'=>e=av (an D)/\ay W.heap.size W w'):=zq fun W A=>by
  have:=zn f on g l W C.out.len (C.out.ops.below A)
  rwa [<-p.out] at this
 have S:Hid (∀W,ay w.heap.size w W->Calls ah 71 #[.slice b a h] W fun e w'=>e=av (an V)/\ay W.heap.size W w'):=zq fun W A=>by
  have:=nf b a h n W Q.out R.out (P.out.below A)
  rwa [<-v.out] at this
 clear F G H E p s v
 go_enter Tryz.func48,Tryz.ntmps48
 go_wp2_with fail
 refine (T.out _ o.out).mono ?_;rintro e k ⟨rfl,y⟩
 have r:=bz o y
 have i:=zq (B.out.call y)
 clear y o B
 have I:k.cell? ⟨w.heap.size,0,none⟩=some (.slice f on g):=i.out.c 0 _ rfl
 have J:k.cell? ⟨w.heap.size,1,none⟩=some (ab ae q):=i.out.c 1 _ rfl
 have K:k.cell? ⟨w.heap.size,2,none⟩=some (ab ae u):=i.out.c 2 _ rfl
 have L:k.cell? ⟨w.heap.size,3,none⟩=some (an c):=i.out.c 3 _ rfl
 have M:k.cell? ⟨w.heap.size,4,none⟩=some (an d):=i.out.c 4 _ rfl
 have N:k.cell? ⟨w.heap.size,5,none⟩=some (.slice b a h):=i.out.c 5 _ rfl
 cases D
 ·go_wp2_with fail
  go_ret
  exact ⟨rfl,r.out⟩
 go_wp2_with fail
 refine (x.out _).mono ?_;rintro e m ⟨rfl,z⟩
 have t:=bz r z
 have j:=zq (i.out.call z)
 clear z r i I J K L M N
 have I:m.cell? ⟨w.heap.size,0,none⟩=some (.slice f on g):=j.out.c 0 _ rfl
 have J:m.cell? ⟨w.heap.size,1,none⟩=some (ab ae q):=j.out.c 1 _ rfl
 have K:m.cell? ⟨w.heap.size,2,none⟩=some (ab ae u):=j.out.c 2 _ rfl
 have L:m.cell? ⟨w.heap.size,3,none⟩=some (an c):=j.out.c 3 _ rfl
 have M:m.cell? ⟨w.heap.size,4,none⟩=some (an d):=j.out.c 4 _ rfl
 have N:m.cell? ⟨w.heap.size,5,none⟩=some (.slice b a h):=j.out.c 5 _ rfl
 cases U
 ·go_wp2_with fail
  go_ret
  exact ⟨rfl,t.out⟩
 go_wp2_with fail
 refine (S.out _ t.out).mono ?_;rintro e Y ⟨rfl,X⟩
 have O:=bz t X
 go_wp2_with fail
 go_ret
 exact ⟨rfl,O.out⟩
end Go.Proofs.YtgapnafkelokaaaGreatDoor
namespace Hb
open Go Go.RowKit
structure Sy where
 P:List OpR
 q:Int
 u:Int
 c:Bool
 d:Bool
 C:List (Int×Int)
def Sy.ok (s:Sy):Bool:=bF s.P&&(pl ⟨s.q,s.u,s.c,s.d⟩&&iT s.C)
def Sy.conv (s:Sy):List (Int×Int):=if s.c=true then s.C else []
structure RdR where
 t:Tm
 names:List (List UInt8×Nat)
 singles:List (List UInt8×Nat)
 end_:Int
 where_:Int
 err:Int
def mN (k:Int) (e:Int):RdR:=⟨.mk 0 0 ⟨#[]⟩ [],[],[],0,k,e⟩
def DZ (v:VS):List (List UInt8×Nat):=v.m.filter fun p=>v.o.count p.2==1
def vj (E:RE) (t:Tm) (m:Nat):RdR :=
 if bu t=true then ⟨t,(cq E.T m).m,DZ (cq E.T m),(E.at m).r.end_,0,0⟩ else mN (E.at 0).r.at_ 2
def ub (E:RE):RdR :=
 match pF E with
 | .error k=>mN (E.at k).r.at_ 7
 | .ok (t,m)=>vj E t m
def ks (L:List UInt8) (a:Int) (s:Sy):Bool:=decide (16384<L.length)||(decide (a<0)||(decide ((L.length:Int)<a) || !s.ok))
def gW (L:List UInt8) (a:Int) (s:Sy):AllR:=oD (cD (jx s.conv) L) L a.toNat
def lG (L:List UInt8) (a:Int) (s:Sy):RdR :=
 if ks L a s=true then mN 0 1
 else if ¬(gW L a s).err=0 then mN (gW L a s).where_ (gW L a s).err
 else ub ⟨(gW L a s).l,s.P,s.q⟩
def NmAt (K:Nat->Prop) (w:aj) (A:Option Addr) (m:List (List UInt8×Nat)):Prop :=
 m.length<=maxLen/\∀j (h:j<m.length),∃b off,A=some ⟨b,off,none⟩/\K b/\w.cell? ⟨b,off+j * 2,none⟩=some (aa ⟨m[j].1.toArray⟩)/\w.cell? ⟨b,off+j * 2+1,none⟩=some (ab ae (m[j].2:Int))
theorem NmAt.keep {K K':Nat->Prop} {w w':aj} {A:Option Addr} {m:List (List UInt8×Nat)} (h:NmAt K w A m) (g:∀b,K b->w'.heap[b]? = w.heap[b]?) (i:∀b,K b->K' b):NmAt K' w' A m:=⟨h.1,fun j k=>by
 obtain ⟨b,l,e,a,d,f⟩:=h.2 j k
 have c:∀o,w'.cell? ⟨b,o,none⟩=w.cell? ⟨b,o,none⟩:=fun o=>World.cell?_of_block (g b a)
 exact ⟨b,l,e,i b a,(c _).trans d,(c _).trans f⟩⟩
theorem NmAt.nil {K:Nat->Prop} {w:aj} {A:Option Addr}:NmAt K w A []:=⟨by decide,fun j h=>absurd h (by simp)⟩
theorem qH:∀(m:List (List UInt8×Nat)) (j:Nat) (h:j<m.length),(gZ m)[j * 2]? = some (aa ⟨m[j].1.toArray⟩)/\(gZ m)[j * 2+1]? = some (ab ae (m[j].2:Int))
 | p::l,0,_=>⟨rfl,rfl⟩
 | p::l,j+1,h=>by
  have:=qH l j (by simpa using h)
  have e:gZ (p::l)=aa ⟨p.1.toArray⟩::ab ae (p.2:Int)::gZ l:=rfl
  rw [e,show (j+1) * 2=j * 2+2 by omega,show j * 2+2+1=j * 2+1+2 by omega]
  exact this
theorem NmAt.own {w:aj} {c e:Nat} {A:Option Addr} {n f:Nat} {m:List (List UInt8×Nat)} (h:w.ownsRow c e 2 (.slice A n f) m.length (gZ m)):n=m.length/\NmAt (fun b=>c<=b/\b<w.heap.size) w A m:=by
 have x:=h.1
 rcases h.2 with ⟨a,i⟩ | ⟨g,t,v,a,l,o,z,y,rest⟩
 ·have:m=[]:=List.eq_nil_of_length_eq_zero i
  subst this
  injection a with _ a _
  exact ⟨a,NmAt.nil⟩
 ·injection a with hA hn2 _
  subst hA
  refine ⟨hn2,by omega,fun j p=>?_⟩
  obtain ⟨r,s⟩:=qH m j p
  have d:∀k u,(gZ m)[k]? = some u->w.cell? ⟨g,0+k,none⟩=some u:=fun k u q=>by
   have:=h.cells (g:=g) rfl k u q
   rw [iM] at this
   exact this
  exact ⟨g,0,rfl,⟨l,(Array.getElem?_eq_some_iff.1 o).1⟩,d _ _ r,d _ _ s⟩
end Hb
