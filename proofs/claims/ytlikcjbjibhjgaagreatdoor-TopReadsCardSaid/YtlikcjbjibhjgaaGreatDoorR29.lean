/- Parts of the proof. -/
import Derived.Test.YtlikcjbjibhjgaaGreatDoorR01
import Derived.Test.YtlikcjbjibhjgaaGreatDoorR28
import Derived.Lib.ItoaNum
import Derived.Test.YtlikcjbjibhjgaaGreatDoorR16
import Derived.Test.YtlikcjbjibhjgaaGreatDoorR02
import Derived.Test.YtlikcjbjibhjgaaGreatDoorR19
open Bool renaming and_eq_true -> aF, true_and -> dl
open Go.Lib renaming decDigits -> aT, itoa -> fH
open List renaming append_assoc -> bj, cons_append -> ak, drop_append_of_le_length -> dD, drop_zero -> cY, length_append -> aB, length_cons -> bo, length_drop -> aH, mem_append -> dm, mem_cons -> bg, mem_cons_of_mem -> aW, mem_cons_self -> aV, mem_nil_iff -> bQ, mem_singleton -> aG, nil_append -> an, take_length -> cL
open Nat renaming add_zero -> bv, strongRecOn -> fT, zero_add -> ap
namespace Hb
theorem eW (t R:List UInt8) (i:Nat) (h:i<t.length):av (t++R) i=av t i:=by
 rw [fq _ _ (by simp;omega),fq _ _ h,<-iJ _ _ (by simp;omega),<-iJ _ _ h,List.getElem_append_left h]
theorem nY (t R:List UInt8):av (t++R) t.length=av R 0:=by
 have:=bZ (t++R) t.length 0
 rw [List.drop_left,bv] at this;exact this.symm
theorem nT (q:Int->Bool) (t R:List UInt8) (h:fw q t=true) (a:q (av R 0)=false):ch q (t++R)=t.length:=by
 induction t with
 | nil=>
  rw [an]
  match R,a with
  | [],_=>rfl
  | b::R,a=>rw [dy] at a;rw [ch,a];rfl
 | cons b t ih=>
  unfold fw at h ih
  rw [List.all_cons,aF] at h
  rw [ak,ch,if_pos h.1,ih h.2];rfl
theorem yJ (q:Int->Bool) (t R:List UInt8) (h:ch q t<t.length):ch q (t++R)=ch q t:=by
 induction t with
 | nil=>simp [ch] at h
 | cons b t ih=>
  rw [ak,ch,ch]
  rw [ch] at h
  by_cases a:q (b.toNat:Int)=true
  ·rw [if_pos a] at h |-
   rw [if_pos a,ih (by simpa using h)]
  ·rw [if_neg a,if_neg a]
theorem oJ (q:Int->Bool) (t:List UInt8) (h:ch q t=t.length):fw q t=true:=(mz q t).1 h
structure NoGlue (t R:List UInt8):Prop where
 a:dI (av t (t.length-1))=true->dI (av R 0)=false
 s:dC (av t (t.length-1))=true->dC (av R 0)=false
 q:cls (av t (t.length-1))=7->¬av t (t.length-1)=av R 0
 z:t=[48]->¬av R 0=39
theorem rL (b:Nat) (a:tK b) (c:Int) (h:cq (b:Int) c=true):dI c=true:=by
 have d:=Lb b a
 unfold cq at h
 rw [lx _ _ (by omega) (by omega)] at h
 have h:qK c<(b:Int):=by simpa using h
 have e:(48<=c/\c<=57)\/(97<=c/\c<=122)\/(65<=c/\c<=90):=by unfold qK at h;grind
 unfold dI cls
 grind
theorem nf (q:Int->Bool) (t:List UInt8) (h:fw q t=true) (a:0<t.length):q (av t (t.length-1))=true:=oy q t h _ (by omega)
theorem Ag (b:Nat) (a:tK b) (c:Int) (h:dI c=false):cq (b:Int) c=false:=by
 cases hd:cq (b:Int) c with
 | false=>rfl
 | true=>rw [rL b a c hd] at h;cases h
theorem uR (t:List UInt8) (k:Nat) (h:k<t.length):av (t.drop k) ((t.drop k).length-1)=av t (t.length-1):=by
 rw [bZ,aH];congr 1;omega
theorem sf (l R:List UInt8) (q c:Int) (k:Nat) (o:0<=q/\q<=255) (h:cO l q=some (c,k)):cO (l++R) q=some (c,k):=by
 have s:=fa l q c k o h
 have p:av (l++R) 0=av l 0:=eW _ _ _ (by omega)
 have t:=dX l 0
 unfold cO at h |-
 rw [p]
 by_cases j:av l 0<0\/av l 0=10
 ·rw [if_pos j] at h;cases h
 rw [if_neg j] at h |-
 by_cases m:av l 0=q
 ·rw [if_pos m] at h |-
  by_cases a:av l 1=q
  ·have:=dX l 1
   rw [eW _ _ _ (by omega),if_pos a]
   rw [if_pos a] at h;exact h
  ·rw [if_neg a] at h;cases h
 rw [if_neg m] at h |-
 by_cases a:av l 0≠92
 ·rw [if_pos a] at h |-;exact h
 rw [if_neg a] at h |-
 by_cases b:lP (av l 1)=true
 ·have:=FV _ b
  have:=dX l 1
  rw [if_pos b] at h
  rw [eW _ _ _ (by omega),if_pos b];exact h
 rw [if_neg b] at h
 by_cases e:0<fQ l/\jA l<=255/\av l (fo l+fQ l)=92
 ·have u:=dX l (fo l+fQ l)
  have r:1<=fo l:=by unfold fo;split <;> omega
  have f:av (l++R) 1=av l 1:=eW _ _ _ (by omega)
  have g:ke (l++R)=ke l:=by unfold ke;rw [f]
  have d:fo (l++R)=fo l:=by unfold fo;rw [f]
  have i:fQ (l++R)=fQ l:=by
   unfold fQ;rw [g,d,dD (by omega)]
   refine yJ _ _ _ ?_
   rw [aH];show fQ l<_;omega
  have n:jA (l++R)=jA l:=by
   unfold jA;rw [g,d,i,dD (by omega),List.take_append_of_le_length (by rw [aH];omega)]
  rw [if_pos e] at h
  rw [f,if_neg b,i,n,d,eW _ _ _ (by omega),if_pos e];exact h
 ·rw [if_neg e] at h;cases h
theorem rG (q:Int) (g:0<=q/\q<=255):∀(f:Nat) (l:List UInt8) (s:List UInt8) (k:Nat),kd f l q=some (s,k)->av l k=q
 | 0,_,_,_,h=>by cases h
 | f+1,l,s,k,h=>by
  unfold kd at h
  by_cases a:av l 0=q/\¬av l 1=q
  ·rw [if_pos a] at h;injection h with h;injection h with e1 e2;subst e2;exact a.1
  rw [if_neg a] at h
  by_cases e:av l 0=92/\av l 1=10
  ·rw [if_pos e] at h
   cases hi:kd f (l.drop 2) q with
   | none=>rw [hi] at h;cases h
   | some x=>
    obtain ⟨d,b⟩:=x
    have:=rG q g f (l.drop 2) d b hi
    rw [hi] at h;injection h with h;injection h with e1 e2;subst e2
    rw [bZ] at this;rw [<-this];congr 1;simp only [];omega
  rw [if_neg e] at h
  cases hs:cO l q with
  | none=>rw [hs] at h;cases h
  | some ck=>
   obtain ⟨c,j⟩:=ck
   rw [hs] at h
   simp only [] at h
   cases hi:kd f (l.drop j) q with
   | none=>rw [hi] at h;cases h
   | some x=>
    obtain ⟨d,b⟩:=x
    have:=rG q g f (l.drop j) d b hi
    rw [hi] at h;injection h with h;injection h with e1 e2;subst e2
    rw [bZ] at this;rw [<-this];congr 1;simp only [];omega
theorem It (q:Int) (d:0<=q/\q<=255) (R:List UInt8) (r:¬av R 0=q):∀(n:Nat) (l:List UInt8),l.length=n->∀(s:List UInt8) (k:Nat),lg l q=some (s,k)->k+1=l.length->lg (l++R) q=some (s,k):=by
 intro n
 induction n using fT with
 | _ n ih=>
  intro l w s k h v
  have p:0<l.length:=by omega
  rw [nh _ _ d] at h |-
  have i:av (l++R) 0=av l 0:=eW _ _ _ p
  have z:=dX l 1
  have o:1<l.length->av (l++R) 1=av l 1:=fun f=>eW _ _ _ f
  have u:l.length=1->av (l++R) 1=av R 0:=fun f=>by have:=nY l R;rwa [f] at this
  by_cases a:av l 0=q/\¬av l 1=q
  ·rw [if_pos a] at h
   injection h with h;injection h with e1 e2;subst e1;subst e2
   rw [i,if_pos ⟨a.1,by rw [u (by omega)];exact r⟩]
  rw [if_neg a] at h
  by_cases b:av l 0=92/\av l 1=10
  ·have e:1<l.length:=by omega
   rw [i,o e,if_neg a,if_pos b,dD (by omega)]
   rw [if_pos b] at h
   cases hi:lg (l.drop 2) q with
   | none=>rw [hi] at h;cases h
   | some x=>
    obtain ⟨m,g⟩:=x
    rw [hi] at h;injection h with h;injection h with e1 e2
    simp only [] at e1 e2
    rw [ih (l.drop 2).length (by rw [aH];omega) (l.drop 2) rfl m g hi (by rw [aH];omega)]
    simp only [Option.map_some,e1,e2]
  rw [if_neg b] at h
  cases hs:cO l q with
  | none=>rw [hs] at h;cases h
  | some ck=>
   obtain ⟨c,j⟩:=ck
   have y:=fa l q c j d hs
   rw [hs] at h
   simp only [] at h
   cases hi:lg (l.drop j) q with
   | none=>rw [hi] at h;cases h
   | some x=>
    obtain ⟨m,g⟩:=x
    have t:=mM q d _ _ _ _ hi
    rw [aH] at t
    have e:1<l.length:=by omega
    rw [hi] at h;injection h with h;injection h with e1 e2
    simp only [] at e1 e2
    rw [i,o e,if_neg a,if_neg b,sf l R q c j d hs]
    simp only []
    rw [dD (by omega),ih (l.drop j).length (by rw [aH];omega) (l.drop j) rfl m g hi (by rw [aH];omega)]
    simp only [Option.map_some,e1,e2]
theorem zF (t R:List UInt8) (h:1<t.length):cF (t++R) 0=cF t 0:=by
 unfold cF;rw [eW _ _ _ (by omega),eW _ _ _ h]
theorem BD (t:List UInt8) (h:0<cF t 0):∃b:Nat,tK b/\cF t 0=(b:Int):=by
 unfold cF at h |-
 split
 ·split
  ·exact ⟨16,.inr (.inr (.inr rfl)),rfl⟩
  split
  ·exact ⟨8,.inr (.inl rfl),rfl⟩
  split
  ·exact ⟨2,.inl rfl,rfl⟩
  ·rename_i a b c d;rw [if_pos a,if_neg b,if_neg c,if_neg d] at h;exact absurd h (by decide)
 ·rename_i a;rw [if_neg a] at h;exact absurd h (by decide)
theorem Ih (t R:List UInt8) (w:0<t.length) (c:(jP t t 0).err=0) (e:(jP t t 0).end_=t.length) (r:NoGlue t R):jP (t++R) (t++R) 0=jP t t 0:=by
 have v:av (t++R) 0=av t 0:=eW _ _ _ w
 by_cases i:av t 0=48/\av t (0+1)=39
 ·have I:=dX t (0+1)
  have j:1<t.length:=by omega
  unfold jP at c e |-
  rw [if_pos i] at c e |-
  rw [v,eW _ _ _ (by omega),if_pos i,dD (by omega)]
  cases hq:cO (t.drop (0+2)) 39 with
  | none=>rw [hq] at c;exact absurd c (by show ¬(7:Int)=0;decide)
  | some ck=>rw [sf _ _ _ _ _ (by decide) hq]
 by_cases n:0<cF t 0/\0<ch (cq (cF t 0)) (t.drop (0+2))
 ·have j:2<t.length:=by have:=fW (cq (cF t 0)) (t.drop (0+2));rw [aH] at this;omega
  obtain ⟨b,y,B⟩:=BD t n.1
  have f:(intR (cF t 0) ((t.drop (0+2)).take (ch (cq (cF t 0)) (t.drop (0+2)))) ((0:Nat):Int) ((0:Nat)+2+ch (cq (cF t 0)) (t.drop (0+2))))=jP t t 0:=by
   unfold jP;rw [if_neg i,if_pos n]
  rw [<-f] at c e
  have l:ch (cq (cF t 0)) (t.drop (0+2))=(t.drop (0+2)).length:=by
   rw [(sP _ _ _ _ c).2] at e;rw [aH];omega
  have g:=oJ _ _ l
  have D:0<(t.drop (0+2)).length:=by rw [aH];omega
  have p:=nf _ _ g D
  rw [uR t (0+2) (by omega),B] at p
  have q:=Ag b y _ (r.a (rL b y _ p))
  rw [<-B] at q
  have u:=nT _ _ R g q
  rw [<-f]
  unfold jP
  rw [v,eW _ _ _ (show 0+1<t.length by omega),if_neg i,zF t R (by omega),dD (by omega),u,if_pos ⟨n.1,D⟩,List.take_left,l,cL]
 ·have f:intR 10 ((t.drop 0).take (ch (cq 10) (t.drop 0))) ((0:Nat):Int) ((0:Nat)+ch (cq 10) (t.drop 0))=jP t t 0:=by
   unfold jP;rw [if_neg i,if_neg n]
  rw [<-f] at c e
  simp only [cY] at c e f
  have l:ch (cq 10) t=t.length:=by
   rw [(sP _ _ _ _ c).2] at e;omega
  have g:=oJ _ _ l
  have p:=nf _ _ g w
  have A:tK 10:=.inr (.inr (.inl rfl))
  have E:=rL 10 A _ p
  have s:=r.a E
  have q:=Ag 10 A _ s
  have u:ch (cq 10) (t++R)=t.length:=nT _ _ R g q
  have C:=fun k F=>IT t g k F
  have G:¬(av (t++R) 0=48/\av (t++R) (0+1)=39):=by
   rintro ⟨m,d⟩
   by_cases j:1<t.length
   ·have:=C 1 j
    rw [eW _ _ _ (by omega)] at d
    rw [ap] at d;omega
   ·have o:t.length=1:=by omega
    have:=nY t R
    rw [o] at this
    rw [ap,this] at d
    rw [v] at m
    exact r.z (oR t o 48 m) d
  have H:cF (t++R) 0=0:=by
   unfold cF
   by_cases m:av (t++R) 0=48
   ·rw [if_pos m]
    have d:¬(av (t++R) (0+1)=120)/\¬(av (t++R) (0+1)=111)/\¬(av (t++R) (0+1)=98):=by
     by_cases j:1<t.length
     ·have:=C 1 j
      rw [eW _ _ _ (by omega)]
      rw [ap];omega
     ·have o:t.length=1:=by omega
      have x:=nY t R
      rw [o] at x
      rw [ap,x]
      refine ⟨fun h=>?_,fun h=>?_,fun h=>?_⟩ <;> (rw [h] at s;exact absurd s (by decide +kernel))
    rw [if_neg d.1,if_neg d.2.1,if_neg d.2.2]
   ·rw [if_neg m]
  rw [<-f]
  unfold jP
  rw [if_neg G,H,if_neg (fun h=>absurd h.1 (by decide))]
  simp only [cY,u,l,List.take_left,cL]
theorem Ga (t R:List UInt8) (z:0<t.length) (b:(cC t t 0).err=0) (d:¬(cC t t 0).kind=7) (c:(cC t t 0).end_=t.length) (m:NoGlue t R):cC (t++R) (t++R) 0=cC t t 0:=by
 have i:av (t++R) 0=av t 0:=eW _ _ _ z
 unfold cC at b d c |-
 by_cases a0:av t 0=47/\av t (0+1)=42
 ·rw [if_pos a0] at b;exact absurd b (by decide)
 rw [if_neg a0] at b d c |-
 have I:¬(av (t++R) 0=47/\av (t++R) (0+1)=42):=by
  rintro ⟨f,g⟩
  rw [i] at f
  by_cases A:1<t.length
  ·rw [eW _ _ _ (by omega)] at g;exact a0 ⟨f,g⟩
  ·have F:t.length=1:=by omega
   have D:=nY t R
   rw [F] at D
   rw [ap,D] at g
   have l:=m.s
   rw [F,f,g] at l
   exact absurd (l (by decide +kernel)) (by decide +kernel)
 rw [if_neg I,i]
 by_cases p:cls (av t 0)=2\/cls (av t 0)=3
 ·rw [if_pos p] at b d c |-
  rw [if_pos p]
  unfold pf at b c |-
  simp only [cY] at b c |-
  have o:ch dI t=t.length:=by rw [(io _ _ _ _ b).2.1] at c;omega
  have n:=oJ _ _ o
  have C:=nT _ _ R n (m.a (nf _ _ n z))
  rw [i,C,o,List.take_left,cL]
 rw [if_neg p] at b d c |-
 rw [if_neg p]
 by_cases r:cls (av t 0)=4
 ·rw [if_pos r] at b d c |-
  rw [if_pos r]
  exact Ih t R z b c m
 rw [if_neg r] at b d c |-
 rw [if_neg r]
 by_cases u:cls (av t 0)=5
 ·rw [if_pos u] at b d c |-
  rw [if_pos u]
  by_cases w:av t 0=46/\jH (av t (0+1))=true
  ·unfold nI at d;rw [if_pos w] at d;exact absurd rfl d
  have K:dM 1 (t.take (ch dC t)) ((0:Nat):Int) ((0:Nat)+ch dC t)=nI t 0:=by unfold nI;rw [if_neg w];simp only [cY]
  rw [<-K] at b c |-
  have o:ch dC t=t.length:=by rw [(io _ _ _ _ b).2.1] at c;omega
  have n:=oJ _ _ o
  have C:=nT _ _ R n (m.s (nf _ _ n z))
  have J:¬(av (t++R) 0=46/\jH (av (t++R) (0+1))=true):=by
   rintro ⟨f,g⟩
   rw [i] at f
   by_cases A:1<t.length
   ·rw [eW _ _ _ (by omega)] at g;exact w ⟨f,g⟩
   ·exact w ⟨f,by rw [ko _ _ (by omega)];decide +kernel⟩
  unfold nI
  rw [if_neg J]
  simp only [cY]
  rw [C,o,List.take_left,cL]
 rw [if_neg u] at b d c |-
 rw [if_neg u]
 by_cases v:cls (av t 0)=6
 ·rw [if_pos v] at b d c |-
  rw [if_pos v]
  unfold rZ at b c |-
  simp only [cY] at b c |-
  have A:1=t.length:=by rw [(io _ _ _ _ b).2.1] at c;omega
  rw [i,A,List.take_left,cL]
 rw [if_neg v] at b d c |-
 rw [if_neg v]
 by_cases B:cls (av t 0)=7
 ·rw [if_pos B] at b d c |-
  rw [if_pos B]
  have M:(t++R).drop (0+1)=t.drop (0+1)++R:=dD (by omega)
  have H:∀q:Int,(q=34\/q=39)->av t 0=q->∀s k,lg (t.drop (0+1)) q=some (s,k)->k+1+1=t.length->lg ((t++R).drop (0+1)) q=some (s,k):=by
   intro q N O s k e A
   have G:0<=q/\q<=255:=by omega
   have l:=rG q G _ _ _ _ e
   rw [bZ] at l
   have E:av t (t.length-1)=q:=by rw [<-l];congr 1;omega
   have L:¬av R 0=q:=fun h=>m.q (by rw [E];rcases N with rfl|rfl <;> decide +kernel) (by rw [E,h])
   rw [M]
   exact It q G R L _ _ rfl s k e (by rw [aH];omega)
  unfold iD at b c |-
  rw [i]
  by_cases j:av t 0=34
  ·rw [if_pos j] at b c |-
   rw [if_pos j]
   cases e:lg (t.drop (0+1)) 34 with
   | none=>rw [e] at b;exact absurd b (by show ¬(7:Int)=0;decide)
   | some x=>
    obtain ⟨s,k⟩:=x
    rw [e] at c
    rw [H 34 (.inl rfl) j s k e (by have:((0:Nat):Int)+1+(k:Int)+1=t.length:=c;omega)]
  rw [if_neg j] at b c |-
  rw [if_neg j]
  by_cases y:av t 0=39
  ·rw [if_pos y] at b c |-
   rw [if_pos y]
   cases e:lg (t.drop (0+1)) 39 with
   | none=>rw [e] at b;exact absurd b (by show ¬(7:Int)=0;decide)
   | some x=>
    obtain ⟨s,k⟩:=x
    rw [e] at b c
    have:((0:Nat):Int)+1+(k:Int)+1=t.length:=by rw [<-c];exact (io _ _ _ _ b).2.1.symm
    rw [H 39 (.inr rfl) y s k e (by omega)]
  ·rw [if_neg y] at b;exact absurd b (by decide)
 ·rw [if_neg B] at b;exact absurd b (by decide)
theorem Er (t R:List UInt8) (c:0<t.length) (b:bS t=0) (e:(cC t t 0).err=0) (k:NoGlue t R):bS (t++R)=0:=by
 have o:av (t++R) 0=av t 0:=eW _ _ _ c
 have m:t.isEmpty=false:=by cases t with | nil=>simp at c | cons=>rfl
 have n:(t++R).isEmpty=false:=by cases t with | nil=>simp at c | cons=>rfl
 rw [mB,n,if_neg (by decide),o]
 rw [mB,m,if_neg (by decide)] at b
 by_cases f:cls (av t 0)=1
 ·rw [if_pos f] at b;omega
 rw [if_neg f] at b |-
 by_cases d:av t 0=37
 ·rw [if_pos d] at b
  have:=lC ie t c (by rw [d];rfl)
  omega
 rw [if_neg d] at b |-
 by_cases a:av t 0=47/\av (t++R) 1=42
 ·by_cases l:1<t.length
  ·have j:av t 0=47/\av t 1=42:=⟨a.1,by rw [<-eW t R 1 l];exact a.2⟩
   unfold cC at e
   rw [if_pos j] at e;exact absurd e (by decide)
  ·have i:t.length=1:=by omega
   have g:=nY t R
   rw [i] at g
   have h:=k.s
   rw [i,a.1,<-g,a.2] at h
   exact absurd (h (by decide +kernel)) (by decide +kernel)
 ·rw [if_neg a]
structure TokText (t:List UInt8):Prop where
 pos:0<t.length
 skip:bS t=0
 err:(cC t t 0).err=0
 kind:¬(cC t t 0).kind=7
 fin:(cC t t 0).end_=t.length
theorem ul (t u:List UInt8) (i:0<t.length) (j:0<u.length) (h:fv t u=false) (R:List UInt8) (e:av R 0=av u 0):NoGlue t R:=by
 have f:t.isEmpty=false:=by cases t with | nil=>simp at i | cons=>rfl
 have g:u.isEmpty=false:=by cases u with | nil=>simp at j | cons=>rfl
 unfold fv at h
 rw [f,g] at h
 simp only [Bool.not_false,dl,Bool.or_eq_false_iff,Bool.and_eq_false_iff] at h
 obtain ⟨c,d,a,b⟩:=h
 refine ⟨fun x=>?_,fun x=>?_,fun x y=>?_,fun x y=>?_⟩
 ·rw [e];rcases c with c | c
  ·rw [x] at c;cases c
  ·exact c
 ·rw [e];rcases d with d | d
  ·rw [x] at d;cases d
  ·exact d
 ·rw [e] at y
  rcases a with a | a
  ·rw [y] at a;simp at a
  ·rw [x] at a;simp at a
 ·rw [e] at y
  rcases b with b | b
  ·rw [x] at b;simp at b
  ·rw [y] at b;simp at b
theorem uk (t R:List UInt8) (b:av R 0=32):NoGlue t R where
 a:=fun _=>by rw [b];decide +kernel
 s:=fun _=>by rw [b];decide +kernel
 q:=fun h e=>by rw [e,b] at h;exact absurd h (by decide +kernel)
 z:=fun _=>by rw [b];decide
theorem CM (x:List UInt8):bS (32::x)=1+bS x:=by
 rw [mB,dy]
 simp only [List.isEmpty_cons,Bool.false_eq_true,if_false]
 rw [if_pos (by decide +kernel)];rfl
theorem oK (n:Int) (r:LexR) (h:r.err=0):uQ n r=⟨r.kind,r.text,r.n,r.at_+n,r.end_+n,0⟩:=by unfold uQ;rw [if_pos h]
theorem Ij (b a t R:List UInt8) (j:a=[]\/a=[32]) (c:TokText t) (e:NoGlue t R) :
  bF (b++(a++(t++R))) (b++(a++(t++R))) b.length=⟨uQ ((b.length+a.length:Nat):Int) (cC t t 0),decide (0<a.length),0⟩:=by
 have d:=Er t R c.pos c.skip c.err e
 have f:=Ga t R c.pos c.err c.kind c.fin e
 have g:bS ((b++(a++(t++R))).drop b.length)=a.length:=by
  rw [List.drop_left]
  rcases j with rfl|rfl
  ·exact d
  ·show bS (32::(t++R))=1
   rw [CM,d]
 have h:cC (b++(a++(t++R))) (b++(a++(t++R))) (b.length+a.length)=uQ ((b.length+a.length:Nat):Int) (cC t t 0):=by
  have:=CE (b++a) (t++R) 0
  rw [f,aB,bv,bj] at this
  exact this
 have i:(uQ ((b.length+a.length:Nat):Int) (cC t t 0)).err=0:=by rw [oK _ _ c.err]
 have k:=c.pos
 unfold bF
 simp only [g]
 rw [h,if_neg (by simp only [aB];omega),if_pos i]
 congr 1
 rw [decide_eq_decide];omega
theorem Bn (s:List UInt8) (d:mj s=true) (f:¬s=[91,93]) (g:¬s=[123,125]):TokText s/\cC s s 0=⟨1,s,0,0,s.length,0⟩:=by
 rw [vI] at d
 rcases d with (h | h) | ⟨i,h⟩
 ·exact absurd h f
 ·exact absurd h g
 have b:0<s.length:=by
  rcases h with (rfl|rfl) | ⟨_,h⟩ | ⟨h,_⟩
  ·decide
  ·decide
  ·cases s with
   | nil=>exact absurd h (by decide +kernel)
   | cons=>simp
  ·exact h
 have c:(s=[33]\/s=[59])\/((fw dI s=true/\cls (av s 0)=2)\/(fw dC s=true/\¬s=[46]/\¬s.take 2=[47,42])):=by
  rcases h with h | h | ⟨_,h⟩
  ·exact .inl h
  ·exact .inr (.inl h)
  ·exact .inr (.inr h)
 have a:=(DV s b).2 ⟨i,c⟩
 refine ⟨⟨b,Bo s b ?_,by rw [a],by rw [a];show ¬(1:Int)=7;decide,by rw [a]⟩,a⟩
 rcases c with h | h | ⟨h,_,e⟩
 ·exact .inl h
 ·exact .inr (.inl h)
 ·exact .inr (.inr ⟨h,e⟩)
abbrev CI:=Bool×List UInt8
def ki (s:Bool):List UInt8:=if s=true then [32] else []
theorem Em (s:Bool):ki s=[]\/ki s=[32]:=by cases s <;> simp [ki]
def fA:List CI->List UInt8
 | []=>[]
 | x::l=>ki x.1++(x.2++fA l)
def jg:Nat->List CI->List NextR
 | _,[]=>[]
 | a,x::l=>⟨uQ ((a+(ki x.1).length:Nat):Int) (cC x.2 x.2 0),x.1,0⟩::jg (a+(ki x.1).length+x.2.length) l
def nw (a:Nat) (s:Bool):NextR:=⟨⟨7,[46],0,(a+(ki s).length:Nat),(a+(ki s).length:Nat)+1,0⟩,s,0⟩
def Chn:List CI->Bool->Prop
 | [],_=>True
 | [x],s=>s=false->fv x.2 [46]=false
 | x::y::l,s=>(y.1=false->fv x.2 y.2=false)/\Chn (y::l) s
theorem Chn.tl {x:CI} {l:List CI} {s:Bool} (h:Chn (x::l) s):Chn l s:=by
 cases l with
 | nil=>trivial
 | cons y l=>exact h.2
structure DotOk (R:List UInt8):Prop where
 tok:cC (46::R) (46::R) 0=⟨7,[46],0,0,1,0⟩
 skip:bS (46::R)=0
theorem Fl:DotOk []:=⟨rfl,by decide +kernel⟩
theorem IW {R:List UInt8} {x:CI}:∀{l:List CI} {s:Bool},(∀y∈x::l,TokText y.2)->Chn (x::l) s->NoGlue x.2 (fA l++(ki s++46::R))
 | [],s,hT,h=>by
  cases s
  ·exact ul x.2 [46] (hT x (aV ..)).pos (by decide) (h rfl) _ rfl
  ·exact uk _ _ rfl
 | y::l,s,hT,h=>by
  rcases y with ⟨b,t⟩
  cases b
  ·have a:=(hT (false,t) (aW _ (aV ..))).pos
   refine ul x.2 t (hT x (aV ..)).pos a (h.1 rfl) _ ?_
   show av ((t++fA l)++_) 0=av t 0
   rw [bj,eW _ _ _ a]
  ·exact uk _ _ rfl
theorem EX {R:List UInt8} (b:DotOk R) (a:List UInt8) (s:Bool):bF (a++(ki s++46::R)) (a++(ki s++46::R)) a.length=nw a.length s:=by
 have c:bS ((a++(ki s++46::R)).drop a.length)=(ki s).length:=by
  rw [List.drop_left]
  cases s
  ·exact b.skip
  ·show bS (32::(46::R))=1
   rw [CM,b.skip]
 have d:cC (a++(ki s++46::R)) (a++(ki s++46::R)) (a.length+(ki s).length)=⟨7,[46],0,(a.length+(ki s).length:Nat),(a.length+(ki s).length:Nat)+1,0⟩:=by
  have:=CE (a++ki s) (46::R) 0
  rw [b.tok,oK _ _ rfl,aB,bj,bv] at this
  refine this.trans ?_
  simp;omega
 unfold bF
 simp only [c]
 rw [d,if_neg (by simp only [aB,bo];omega),if_pos rfl]
 unfold nw
 congr 1
 cases s
 ·simp [ki]
 ·simp [ki]
theorem Jh {R:List UInt8} (g:DotOk R):∀(l:List CI) (s:Bool) (a:List UInt8) (b:List NextR) (f:Nat),(∀x∈l,TokText x.2)->Chn l s->l.length<f ->
  rT f (a++(fA l++(ki s++46::R))) (a++(fA l++(ki s++46::R))) a.length b=⟨b++(jg a.length l++[nw (a.length+(fA l).length) s]),0,0⟩
 | [],s,a,b,0,_,_,h=>absurd h (by simp)
 | [],s,a,b,f+1,_,_,_=>by
  rw [fA,an,mS,EX g]
  rw [if_neg (by unfold nw;simp),if_neg (by unfold nw;simp),if_pos (show (nw a.length s).r.kind=7 from rfl)]
  rfl
 | x::l,s,a,b,0,_,_,h=>absurd h (by simp)
 | x::l,s,a,b,f+1,hT,hC,hf=>by
  have c:=hT x (aV ..)
  have o:=IW (R:=R) hT hC
  have e:a++(fA (x::l)++(ki s++46::R))=a++(ki x.1++(x.2++(fA l++(ki s++46::R)))):=by
   rw [fA];simp only [bj]
  have j:a++(fA (x::l)++(ki s++46::R))=(a++ki x.1++x.2)++(fA l++(ki s++46::R)):=by
   rw [e];simp only [bj]
  have d:=Ij a (ki x.1) x.2 _ (Em x.1) c o
  rw [<-e] at d
  have hd:decide (0<(ki x.1).length)=x.1:=by cases x.1 <;> simp [ki]
  rw [hd] at d
  have i:=oK ((a.length+(ki x.1).length:Nat):Int) (cC x.2 x.2 0) c.err
  rw [mS,d,i]
  simp only []
  rw [if_neg (by simp),if_neg (by simp),if_neg c.kind]
  have k:((cC x.2 x.2 0).end_+((a.length+(ki x.1).length:Nat):Int)).toNat=(a++ki x.1++x.2).length:=by
   rw [c.fin];simp only [aB];omega
  rw [k,j,Jh g l s (a++ki x.1++x.2) _ f (fun u p=>hT u (aW _ p)) hC.tl (by simpa using hf)]
  have m:(a++ki x.1++x.2).length=a.length+(ki x.1).length+x.2.length:=by simp only [aB]
  have n:a.length+(ki x.1).length+x.2.length+(fA l).length=a.length+(fA (x::l)).length:=by
   rw [fA];simp only [aB];omega
  rw [jg,i,m,n]
  simp
theorem we:∀(l:List CI),(∀x∈l,TokText x.2)->l.length<=(fA l).length
 | [],_=>by simp [fA]
 | x::l,h=>by
  have b:=(h x (aV ..)).pos
  have c:=we l fun u a=>h u (aW _ a)
  rw [fA,aB,aB,bo];omega
theorem Le {R:List UInt8} (c:DotOk R) (l:List CI) (s:Bool) (a:∀x∈l,TokText x.2) (b:Chn l s) :
  pZ (fA l++(ki s++46::R)) (fA l++(ki s++46::R)) 0=⟨jg 0 l++[nw (fA l).length s],0,0⟩:=by
 have d:=we l a
 have:=Jh c l s [] [] ((fA l++(ki s++46::R)).length+1) a b (by rw [aB];simp;omega)
 simp only [an,List.length_nil,ap] at this
 exact this
end Hb
namespace Hb
open Go
theorem IQ:∀d:Nat,d<10->(UInt8.ofNat (48+d)).toNat=48+d/\cq 10 ((UInt8.ofNat (48+d)).toNat:Int)=true/\(pb ((UInt8.ofNat (48+d)).toNat:Int) 10).toNat=d:=by decide +kernel
def so (b:UInt8):Prop:=48<=b.toNat/\b.toNat<=57/\cq 10 (b.toNat:Int)=true
theorem oA (u:Nat):db 10 (aT u)=u/\(∀b∈aT u,so b)/\0<(aT u).length:=by
 induction u using fT with
 | _ u ih=>
  rw [aT]
  by_cases h:u<10
  ·obtain ⟨e,c,d⟩:=IQ u h
   rw [dif_pos h]
   refine ⟨?_,?_,by simp⟩
   ·rw [<-an [UInt8.ofNat (48+u)],pL,d];simp [db]
   ·intro b a
    rw [aG] at a;subst a
    exact ⟨by omega,by omega,c⟩
  ·obtain ⟨e,c,d⟩:=IQ (u % 10) (Nat.mod_lt _ (by decide))
   obtain ⟨f,g,i⟩:=ih (u / 10) (by omega)
   rw [dif_neg h]
   refine ⟨?_,?_,by simp⟩
   ·rw [pL,d,f]
    show u / 10 * 10+u % 10=u
    omega
   ·intro b a
    rcases dm.1 a with a | a
    ·exact g b a
    ·rw [aG] at a;subst a
     exact ⟨by omega,by omega,c⟩
theorem yI (q:Int->Bool) (rest:List UInt8) (a:q (av rest 0)=false):∀ds:List UInt8,(∀b∈ds,q (b.toNat:Int)=true)->ch q (ds++rest)=ds.length
 | [],_=>by
  match rest,a with
  | [],_=>rfl
  | b::l,a=>
   rw [dy] at a
   rw [an,ch,a];rfl
 | b::ds,h=>by
  rw [ak,ch,if_pos (h b (aV ..)),yI q rest a ds fun x c=>h x (aW _ c)]
  rfl
theorem zh {T X:List UInt8} {p:Nat} (D:T.drop p=X) (j:Nat):av T (p+j)=av X j:=by rw [<-D,bZ]
theorem IV:∀n:Nat,n<58->48<=n->cls (n:Int)=4:=by decide +kernel
def Jj (rest:List UInt8):Prop:=cq 10 (av rest 0)=false/\¬av rest 0=39/\¬av rest 0=120/\¬av rest 0=111/\¬av rest 0=98
theorem EV:Jj []:=by
 have h:av [] 0=-1:=ko _ _ (by simp)
 unfold Jj
 rw [h]
 exact ⟨rI 10,by decide,by decide,by decide,by decide⟩
theorem JD {T ds rest:List UInt8} {p:Nat} (D:T.drop p=ds++rest) (g:0<ds.length) (hd:∀b∈ds,so b) (e:Jj rest):cC T T p=intR 10 ds p (p+ds.length)/\cls (av T p)=4:=by
 obtain ⟨b,ds',rfl⟩:∃b ds',ds=b::ds':=by cases ds with
  | nil=>simp at g
  | cons b ds'=>exact ⟨b,ds',rfl⟩
 have j:=hd b (aV ..)
 have f:av T p=(b.toNat:Int):=by
  have:=zh D 0
  rw [ak,dy] at this
  exact this
 have n:av T (p+1)=av (ds'++rest) 0:=by
  rw [zh D 1,ak,fP]
 have a:¬av T (p+1)=39/\¬av T (p+1)=120/\¬av T (p+1)=111/\¬av T (p+1)=98:=by
  rw [n]
  cases ds' with
  | nil=>rw [an];exact e.2
  | cons x l=>
   have c:=hd x (aW _ (aV ..))
   rw [ak,dy]
   unfold so at c
   refine ⟨?_,?_,?_,?_⟩ <;> omega
 have k:=j
 unfold so at k
 have d:cls (b.toNat:Int)=4:=IV _ (by omega) (by omega)
 have i:cF T p=0:=by
  unfold cF
  split
  ·rw [if_neg a.2.1,if_neg a.2.2.1,if_neg a.2.2.2]
  ·rfl
 have m:ch (cq 10) (T.drop p)=(b::ds').length:=by rw [D];exact yI _ _ e.1 _ fun x c=>(hd x c).2.2
 refine ⟨?_,by rw [f];exact d⟩
 unfold cC
 rw [f,if_neg (fun h=>by omega),d,if_neg (by decide),if_pos rfl]
 unfold jP
 rw [if_neg (fun h=>a.1 h.2),i,if_neg (fun h=>absurd h.1 (by decide)),m,D,List.take_left]
theorem tq {X:List UInt8} (b:¬cls (av X 0)=1) (c:¬av X 0=37) (d:¬av X 0=47):bS X=0:=by
 rw [mB]
 by_cases a:X.isEmpty=true
 ·rw [if_pos a]
 ·rw [if_neg a,if_neg b,if_neg c,if_neg (fun h=>d h.1)]
theorem KD (ds:List UInt8) (u:Nat) (p e:Int) (h:db 10 ds=u) (a:u<=9223372036854775808):Hb.intR 10 ds p e=⟨4,[],if u=9223372036854775808 then -9223372036854775808 else u,p,e,0⟩:=by
 unfold Hb.intR
 rw [h,if_pos a]
theorem IR (u:Nat) (k:u<=9223372036854775808):TokText (aT u)/\cC (aT u) (aT u) 0=⟨4,[],if u=9223372036854775808 then -9223372036854775808 else u,0,(aT u).length,0⟩:=by
 obtain ⟨g,e,a⟩:=oA u
 obtain ⟨h,i⟩:=JD (T:=aT u) (ds:=aT u) (rest:=[]) (p:=0) (by simp) a e EV
 have c:cC (aT u) (aT u) 0=⟨4,[],if u=9223372036854775808 then -9223372036854775808 else u,0,(aT u).length,0⟩:=by
  rw [h,KD _ u _ _ g k];simp
 have hd:∃b l,aT u=b::l/\so b:=by
  cases d:aT u with
  | nil=>rw [d] at a;simp at a
  | cons b l=>exact ⟨b,l,rfl,e b (by rw [d];exact aV ..)⟩
 obtain ⟨b,l,d,j⟩:=hd
 have f:av (aT u) 0=(b.toNat:Int):=by rw [d,dy]
 unfold so at j
 refine ⟨⟨a,tq ?_ ?_ ?_,by rw [c],by rw [c];show ¬(4:Int)=7;decide,by rw [c]⟩,c⟩
 ·rw [i];decide
 ·rw [f];omega
 ·rw [f];omega
end Hb
namespace Hb
def jQ:List UInt8->Bool
 | a::d::_=>a==45&&(decide (48<=d.toNat)&&decide (d.toNat<=57))
 | _=>false
def eC (p:List UInt8):List (List UInt8) :=
 if p=[91,93] then [[91],[93]] else if p=[123,125] then [[123],[125]] else if jQ p=true then [[45],p.drop 1] else [p]
def ip (s:Bool) (p:List UInt8):List CI:=match eC p with | []=>[] | t::l=>(s,t)::l.map fun u=>(false,u)
def ji:List UInt8->Bool->List (List UInt8)->List CI
 | _,_,[]=>[]
 | prev,sp,p::l=>if p=[32] then ji [] true l else ip (sp||fv prev p) p++ji p false l
theorem zI {p:List UInt8} (h:jQ p=true):∃d l,p=45::d::l/\48<=d.toNat/\d.toNat<=57:=by
 match p,h with
 | a::d::l,h=>
  unfold jQ at h
  simp only [aF,beq_iff_eq,decide_eq_true_iff] at h
  exact ⟨d,l,by rw [h.1],h.2.1,h.2.2⟩
theorem lS (p:List UInt8):(p=[91,93]/\eC p=[[91],[93]])\/(p=[123,125]/\eC p=[[123],[125]])\/(jQ p=true/\∃d l,p=45::d::l/\48<=d.toNat/\d.toNat<=57/\eC p=[[45],d::l])\/(eC p=[p]/\jQ p=false/\¬p=[91,93]/\¬p=[123,125]):=by
 unfold eC
 by_cases b:p=[91,93]
 ·exact .inl ⟨b,by rw [if_pos b]⟩
 ·rw [if_neg b]
  by_cases c:p=[123,125]
  ·exact .inr (.inl ⟨c,by rw [if_pos c]⟩)
  ·rw [if_neg c]
   by_cases a:jQ p=true
   ·obtain ⟨d,l,rfl,e,f⟩:=zI a
    exact .inr (.inr (.inl ⟨a,d,l,rfl,e,f,by rw [if_pos a];rfl⟩))
   ·exact .inr (.inr (.inr ⟨by rw [if_neg a],by simpa using a,b,c⟩))
theorem AS (p:List UInt8):(eC p).flatten=p:=by
 rcases lS p with ⟨rfl,e⟩ | ⟨rfl,e⟩ | ⟨_,d,l,rfl,_,_,e⟩ | ⟨e,_⟩ <;> rw [e] <;> simp
theorem th (p:List UInt8):¬eC p=[]:=by
 rcases lS p with ⟨rfl,e⟩ | ⟨rfl,e⟩ | ⟨_,d,l,rfl,_,_,e⟩ | ⟨e,_⟩ <;> rw [e] <;> simp
theorem rM:∀(a b:List CI),fA (a++b)=fA a++fA b
 | [],b=>rfl
 | x::a,b=>by rw [ak,fA,fA,rM a b];simp only [bj]
theorem wg:∀l:List (List UInt8),fA (l.map fun u=>((false,u):CI))=l.flatten
 | []=>rfl
 | x::l=>by rw [List.map_cons,fA,wg l];simp [ki]
theorem uc (s:Bool) (p:List UInt8):fA (ip s p)=ki s++p:=by
 have h:=AS p
 have a:=th p
 unfold ip
 cases hs:eC p with
 | nil=>exact absurd hs a
 | cons t l=>
  rw [hs] at h
  simp only
  rw [fA,wg]
  rw [<-h];simp
def rV:List (List UInt8)->Prop
 | []=>True
 | p::l=>(p=[32]->∃q r,l=q::r/\¬q=[32])/\rV l
theorem Fe (a:List UInt8):fv a [32]=false:=by
 unfold fv
 have b:dI (av [32] 0)=false:=by decide +kernel
 have c:dC (av [32] 0)=false:=by decide +kernel
 have d:(av [32] 0==39)=false:=by decide +kernel
 rw [b,c,d]
 simp only [Bool.and_false,Bool.false_or,Bool.or_false]
 have:(av a (a.length-1)==av [32] 0&&cls (av a (a.length-1))==7)=false:=by
  cases hb:(av a (a.length-1)==av [32] 0)
  ·rfl
  ·rw [beq_iff_eq] at hb
   rw [hb];decide +kernel
 rw [this];simp
theorem Ff (b:List UInt8):fv [32] b=false:=by
 unfold fv
 have a:dI (av [32] (([32]:List UInt8).length-1))=false:=by decide +kernel
 have c:dC (av [32] (([32]:List UInt8).length-1))=false:=by decide +kernel
 have d:(cls (av [32] (([32]:List UInt8).length-1))==7)=false:=by decide +kernel
 have e:(([32]:List UInt8)==[48])=false:=by decide +kernel
 rw [a,c,d,e]
 simp
theorem xe (a b:List UInt8):mC a b=ki (fv a b):=rfl
theorem qO:∀(l:List (List UInt8)) (b:List UInt8),rV l->fA (ji b false l)=gQ b l
 | [],_,_=>rfl
 | p::l,b,h=>by
  rw [ji,gQ]
  by_cases a:p=[32]
  ·rw [if_pos a]
   obtain ⟨q,r,rfl,c⟩:=h.1 a
   subst a
   rw [ji,if_neg c,rM,uc,qO r q h.2.2,gQ,xe,xe,Fe,Ff]
   simp [ki]
  ·rw [if_neg a,rM,uc,qO l p h.2,xe]
   simp
theorem yg:∀(a b:List (List UInt8)) (d:List UInt8) (e:Bool),¬a=[]->ji d e (a++b)=ji d e a++(if a.getLast? = some [32] then ji [] true b else ji (a.getLast?.getD []) false b)
 | [],_,_,_,h=>absurd rfl h
 | [p],b,d,e,_=>by
  rw [List.singleton_append,ji,ji]
  by_cases c:p=[32]
  ·rw [if_pos c,if_pos c,if_pos (by rw [c];rfl)];simp [ji]
  ·rw [if_neg c,if_neg c,if_neg (by simpa using c)];simp [ji]
 | p::q::a,b,d,e,_=>by
  rw [ak,ji,ji]
  have f:=fun d e=>yg (q::a) b d e (by simp)
  rw [List.getLast?_cons_cons]
  by_cases c:p=[32]
  ·rw [if_pos c,if_pos c,f]
  ·rw [if_neg c,if_neg c,f];simp only [bj]
structure PcOk (p:List UInt8):Prop where
 pos:0<p.length
 tok:∀t∈eC p,TokText t
 nz:¬p=[45,48]
 sp:¬p=[32]
theorem pQ {a c b d:List UInt8} (h:fv a b=false) (l:0<a.length) (m:0<b.length) (g:av c (c.length-1)=av a (a.length-1)) (i:av d 0=av b 0) (j:c=[48]->a=[48]):fv c d=false:=by
 have e:a.isEmpty=false:=by cases a with | nil=>simp at l | cons=>rfl
 have f:b.isEmpty=false:=by cases b with | nil=>simp at m | cons=>rfl
 unfold fv at h |-
 rw [e,f] at h
 simp only [Bool.not_false,dl] at h
 rw [g,i]
 have k:(c==[48]&&av b 0==39)=true->(a==[48]&&av b 0==39)=true:=fun h=>by
  rw [aF,beq_iff_eq] at h |-
  exact ⟨j h.1,h.2⟩
 cases hq:(c==[48]&&av b 0==39)
 ·simp only [Bool.or_eq_false_iff] at h
  rw [h.1,h.2.1,h.2.2.1]
  simp
 ·rw [k hq] at h
  simp at h
theorem xy (a b:List UInt8) (c:0<b.length):av (a++b) ((a++b).length-1)=av b (b.length-1):=by
 have h:(a++b).length-1=a.length+(b.length-1):=by rw [aB];omega
 rw [h,<-bZ,List.drop_left]
theorem lR (p:List UInt8):∃t l,eC p=t::l/\av t 0=av p 0:=by
 rcases lS p with ⟨rfl,e⟩ | ⟨rfl,e⟩ | ⟨_,d,l,rfl,_,_,e⟩ | ⟨e,_⟩
 ·exact ⟨_,_,e,rfl⟩
 ·exact ⟨_,_,e,rfl⟩
 ·exact ⟨_,_,e,by rw [dy,dy]⟩
 ·exact ⟨_,_,e,rfl⟩
theorem Fs {p:List UInt8}:∀{l:List (List UInt8)},¬l=[]->rV l->∃y r,ji p false l=y::r/\(y.1=true\/∃q l',l=q::l'/\y.1=fv p q/\av y.2 0=av q 0)
 | [],h,_=>absurd rfl h
 | q::l,_,hs=>by
  by_cases a:q=[32]
  ·obtain ⟨u,r,rfl,d⟩:=hs.1 a
   obtain ⟨t,k,b,_⟩:=lR u
   rw [ji,if_pos a,ji,if_neg d]
   unfold ip
   rw [b]
   exact ⟨_,_,rfl,.inl rfl⟩
  ·obtain ⟨t,k,b,c⟩:=lR q
   rw [ji,if_neg a]
   unfold ip
   rw [b]
   exact ⟨_,_,rfl,.inr ⟨q,l,rfl,rfl,c⟩⟩
theorem Ik (d:UInt8) (l:List UInt8) (h:48<=d.toNat/\d.toNat<=57):fv [45] (d::l)=false:=by
 have a:∀n:Nat,n<58->48<=n->fv [45] [n.toUInt8]=false:=by decide +kernel
 have:=a d.toNat (by omega) h.1
 refine pQ this (by simp) (by simp) rfl ?_ (fun h=>h)
 rw [dy,dy];simp
theorem IX {x:CI} {l:List CI} {s:Bool} (a:l=[]->s=false->fv x.2 [46]=false) (b:∀y r,l=y::r->y.1=false->fv x.2 y.2=false) (c:Chn l s):Chn (x::l) s:=by
 cases l with
 | nil=>exact a rfl
 | cons y r=>exact ⟨b y r rfl,c⟩
theorem Ap {p:List UInt8} {e:Bool} {l:List (List UInt8)} (c:rV l) (h:ji p e l=[]):l=[]:=by
 cases l with
 | nil=>rfl
 | cons q l=>
  exfalso
  by_cases a:q=[32]
  ·obtain ⟨u,r,rfl,d⟩:=c.1 a
   obtain ⟨t,k,b,_⟩:=lR u
   rw [ji,if_pos a,ji,if_neg d] at h
   unfold ip at h
   rw [b] at h
   cases h
  ·obtain ⟨t,k,b,f⟩:=lR q
   rw [ji,if_neg a] at h
   unfold ip at h
   rw [b] at h
   cases h
theorem yf:∀(l:List (List UInt8)) (w:List UInt8) (x s:Bool),(∀p∈l,p=[32]\/PcOk p)->rV l->(s=false->∀p,l.getLast? = some p->fv p [46]=false)->Chn (ji w x l) s
 | [],_,_,_,_,_,_=>trivial
 | p::l,w,x,s,hp,hs,he=>by
  have k:∀q∈l,q=[32]\/PcOk q:=fun q c=>hp q (aW _ c)
  have v:s=false->∀q,l.getLast? = some q->fv q [46]=false:=fun h q c=>he h q (by
   cases l with
   | nil=>simp at c
   | cons a b=>rw [List.getLast?_cons_cons];exact c)
  rw [ji]
  by_cases j:p=[32]
  ·rw [if_pos j]
   exact yf l _ _ s k hs.2 v
  rw [if_neg j]
  have f:PcOk p:=(hp p (aV ..)).resolve_left j
  have H:=yf l p false s k hs.2 v
  -- the last token text of the No
  have i:∀(t:List UInt8),0<t.length->av t (t.length-1)=av p (p.length-1)->(t=[48]->p=[48])->∀b:Bool,Chn ((b,t)::ji p false l) s:=fun t I o u b=>by
   refine IX (fun D F=>?_) (fun y r n g=>?_) H
   ·have m:=Ap hs.2 D
    subst m
    exact pQ (he F p rfl) f.pos (by decide) o rfl u
   ·have m:¬l=[]:=fun e=>by subst e;cases n
    obtain ⟨L,K,A,G⟩:=Fs (p:=p) m hs.2
    rw [A] at n
    injection n with e1 e2
    subst e1
    rcases G with h | ⟨q,J,c,h,z⟩
    ·rw [h] at g;cases g
    ·rw [h] at g
     have E:0<q.length:=by
      rcases k q (by rw [c];exact aV ..) with rfl | hk
      ·decide
      ·exact hk.pos
     exact pQ g f.pos E o z u
  unfold ip
  rcases lS p with ⟨rfl,e⟩ | ⟨rfl,e⟩ | ⟨_,d,r,rfl,B,C,e⟩ | ⟨e,_⟩
  ·rw [e]
   exact ⟨fun _=>show fv [91] [93]=false by decide +kernel,i [93] (by decide) rfl (fun h=>by cases h) _⟩
  ·rw [e]
   exact ⟨fun _=>show fv [123] [125]=false by decide +kernel,i [125] (by decide) rfl (fun h=>by cases h) _⟩
  ·rw [e]
   refine ⟨fun _=>Ik d r ⟨B,C⟩,i (d::r) (by simp) ?_ (fun h=>?_) _⟩
   ·exact (xy [45] (d::r) (by simp)).symm
   ·exact absurd (by rw [h]) f.nz
  ·rw [e]
   exact i p f.pos rfl (fun h=>h) _
theorem qN:∀(l:List (List UInt8)) (f:List UInt8) (g:Bool),(∀p∈l,p=[32]\/PcOk p)->∀x∈ji f g l,TokText x.2
 | [],_,_,_,x,a=>by cases a
 | p::l,f,g,hp,x,a=>by
  have e:∀q∈l,q=[32]\/PcOk q:=fun q b=>hp q (aW _ b)
  rw [ji] at a
  by_cases c:p=[32]
  ·rw [if_pos c] at a
   exact qN l _ _ e x a
  ·rw [if_neg c] at a
   have h:PcOk p:=(hp p (aV ..)).resolve_left c
   rcases dm.1 a with a | a
   ·unfold ip at a
    have d:=h.tok
    cases b:eC p with
    | nil=>rw [b] at a;cases a
    | cons t r=>
     rw [b] at a d
     rcases bg.1 a with rfl | a
     ·exact d t (aV ..)
     ·obtain ⟨u,i,rfl⟩:=List.mem_map.1 a
      exact d u (aW _ i)
   ·exact qN l _ _ e x a
theorem Cv {R:List UInt8} (c:DotOk R) (l:List (List UInt8)) (s:Bool) (a:∀p∈l,p=[32]\/PcOk p) (b:rV l) (d:s=false->∀p,l.getLast? = some p->fv p [46]=false) :
  pZ (fJ l++(ki s++46::R)) (fJ l++(ki s++46::R)) 0=⟨jg 0 (ji [] false l)++[nw (fJ l).length s],0,0⟩:=by
 have h:=Le c (ji [] false l) s (qN l _ _ a) (yf l _ _ s a b d)
 rw [qO l [] b] at h
 exact h
theorem jY:∀(l:List CI) (a:Nat),(jg a l).length=l.length
 | [],_=>rfl
 | x::l,a=>by rw [jg,bo,bo,jY l]
theorem vZ:∀(l:List CI) (a i:Nat) (h:i<l.length),∃b:Nat,(jg a l)[i]? = some ⟨uQ (b:Int) (cC l[i].2 l[i].2 0),l[i].1,0⟩
 | [],_,i,h=>absurd h (by simp)
 | x::l,a,0,h=>⟨_,rfl⟩
 | x::l,a,i+1,h=>by
  obtain ⟨b,c⟩:=vZ l (a+(ki x.1).length+x.2.length) i (by simpa using h)
  exact ⟨b,by simpa [jg] using c⟩
theorem LS (s:List UInt8) (L:List UInt8) (a:L=39::(lL 39 s++[39])):cC L L 0=dM 2 s 0 ((lL 39 s).length+2):=by
 subst a
 unfold cC
 rw [dy]
 rw [if_neg (fun h=>absurd h.1 (by decide)),if_neg (by decide +kernel),if_neg (by decide +kernel),if_neg (by decide +kernel),if_neg (by decide +kernel),if_pos (by decide +kernel)]
 unfold iD
 rw [dy,if_neg (by decide),if_pos (by decide)]
 simp only [ap,List.drop_succ_cons,cY]
 rw [vQ 39 (.inl rfl) 39 rfl]
 show dM 2 s ((0:Nat):Int) (((0:Nat):Int)+1+((lL 39 s).length:Int)+1)=_
 rw [show (((0:Nat):Int)+1+((lL 39 s).length:Int)+1)=((lL 39 s).length:Int)+2 by omega];rfl
end Hb
namespace Hb
open Go Go.RowKit
def pI (n:Int):List UInt8:=fH n
def pV (n:Int):List UInt8:=95::fH n
theorem um (n:Int):(kj n).data.toList=pI n:=rfl
theorem lr {p:List UInt8} (a:jQ p=false) (b:¬p=[91,93]) (c:¬p=[123,125]):eC p=[p]:=by
 unfold eC
 rw [if_neg b,if_neg c,if_neg (by rw [a];simp)]
theorem tE {p:List UInt8} (h:TokText p) (a:jQ p=false) (c:¬p=[91,93]) (d:¬p=[123,125]) (f:¬p=[32]):PcOk p:=by
 refine ⟨h.pos,fun t b=>?_,fun e=>?_,f⟩
 ·rw [lr a c d,aG] at b;subst b;exact h
 ·subst e;revert a;decide +kernel
theorem jc {c:UInt8} (a:c=40\/c=41\/c=91\/c=93\/c=123\/c=125\/c=44\/c=124):TokText [c]/\cC [c] [c] 0=⟨6,[c],0,0,1,0⟩:=by
 rcases a with rfl|rfl|rfl|rfl|rfl|rfl|rfl|rfl <;> exact ⟨⟨by decide,by decide +kernel,rfl,by decide,rfl⟩,rfl⟩
theorem mV {c:UInt8} (a:c=40\/c=41\/c=91\/c=93\/c=123\/c=125\/c=44\/c=124):PcOk [c]/\eC [c]=[[c]]:=by
 have e:eC [c]=[[c]]:=lr rfl (by simp) (by simp)
 exact ⟨tE (jc a).1 rfl (by simp) (by simp) (by rcases a with rfl|rfl|rfl|rfl|rfl|rfl|rfl|rfl <;> decide),e⟩
theorem Cm:∀n:Nat,n<58->48<=n->dI (n:Int)=true:=by decide +kernel
theorem Fj (u:Nat):fw dI (aT u)=true:=by
 unfold fw
 rw [List.all_eq_true]
 intro b a
 have:=(oA u).2.1 b a
 unfold so at this
 exact Cm _ (by omega) this.1
theorem Br (u:Nat):pV (u:Int)=95::aT u:=by
 unfold pV fH
 rw [if_neg (by omega)];rfl
theorem wT (u:Nat) (h:u<=9223372036854775807):TokText (pV u)/\cC (pV u) (pV u) 0=⟨3,pV u,0,0,(pV u).length,0⟩/\PcOk (pV u)/\eC (pV u)=[pV u]:=by
 rw [Br]
 have i:=oA u
 have j:(aT u).length<=99:=by
  have:∀(k u:Nat),u<10 ^ (k+1)->(aT u).length<=k+1:=by
   intro k
   induction k with
   | zero=>intro u h;rw [aT,dif_pos (by omega)];simp
   | succ k ih=>
    intro u h
    rw [aT]
    split
    ·simp
    ·rw [aB]
     have:=ih (u / 10) (by rw [Nat.pow_succ] at h;omega)
     simp;omega
  have g:=this 19 u (by omega)
  omega
 have a:av (95::aT u) 0=95:=dy _ _
 have f:ch dI (95::aT u)=(95::aT u).length:=by
  have:=nT dI (95::aT u) [] (by
   have:=Fj u
   unfold fw at this |-
   rw [List.all_cons,this];decide +kernel) (by decide +kernel)
  rwa [List.append_nil] at this
 have b:cC (95::aT u) (95::aT u) 0=⟨3,95::aT u,0,0,(95::aT u).length,0⟩:=by
  unfold cC
  rw [a,if_neg (fun h=>by omega),if_pos (by decide +kernel)]
  unfold pf
  rw [cY,f,List.take_of_length_le (Nat.le_refl _),a]
  unfold dM
  rw [if_neg (by simp;omega)]
  rw [show ly 95=3 by decide +kernel]
  simp
 have c:TokText (95::aT u):=⟨by simp,tq (by rw [a];decide +kernel) (by rw [a];decide) (by rw [a];decide),by rw [b],by rw [b];show ¬(3:Int)=7;decide,by rw [b]⟩
 have e:jQ (95::aT u)=false:=by
  cases hD:aT u with
  | nil=>rfl
  | cons d l=>unfold jQ;rfl
 exact ⟨c,b,tE c e (by simp) (by simp) (by simp),lr e (by simp) (by simp)⟩
def NI (u:Nat):Int:=if u=9223372036854775808 then -9223372036854775808 else u
theorem lq (u:Nat) (h:u<=9223372036854775808):TokText (aT u)/\cC (aT u) (aT u) 0=⟨4,[],NI u,0,(aT u).length,0⟩:=IR u h
theorem qL (u:Nat):∃d l,aT u=d::l/\48<=d.toNat/\d.toNat<=57:=by
 obtain ⟨_,b,a⟩:=oA u
 cases hD:aT u with
 | nil=>rw [hD] at a;simp at a
 | cons d l=>
  have:=b d (by rw [hD];exact aV ..)
  unfold so at this
  exact ⟨d,l,rfl,this.1,this.2.1⟩
theorem tF (u:Nat) (h:u<=9223372036854775807):PcOk (pI u)/\pI u=aT u/\eC (pI u)=[pI u]:=by
 have e:pI (u:Int)=aT u:=by unfold pI fH;rw [if_neg (by omega)];rfl
 obtain ⟨d,l,a,f,g⟩:=qL u
 have i:jQ (aT u)=false:=by
  rw [a]
  cases l with
  | nil=>rfl
  | cons y l=>
   show (d==45&&(decide (48<=y.toNat)&&decide (y.toNat<=57)))=false
   have:(d==45)=false:=by
    rw [beq_eq_false_iff_ne];intro e;subst e;revert f;decide
   rw [this];rfl
 have b:¬aT u=[91,93]:=fun e=>by rw [a] at e;injection e with e _;subst e;revert g;decide
 have c:¬aT u=[123,125]:=fun e=>by rw [a] at e;injection e with e _;subst e;revert g;decide
 have j:¬aT u=[32]:=fun e=>by rw [a] at e;injection e with e _;subst e;revert f;decide
 rw [e]
 exact ⟨tE (lq u (by omega)).1 i b c j,rfl,lr i b c⟩
theorem rl:TokText [45]/\cC [45] [45] 0=⟨1,[45],0,0,1,0⟩:=⟨⟨by decide,by decide +kernel,rfl,by decide,rfl⟩,rfl⟩
theorem xB (u:Nat) (j:0<u) (h:u<=9223372036854775808):PcOk (pI (-(u:Int)))/\pI (-(u:Int))=45::aT u/\eC (pI (-(u:Int)))=[[45],aT u]:=by
 have e:pI (-(u:Int))=45::aT u:=by
  unfold pI fH
  rw [if_pos (by omega)];simp
 obtain ⟨d,l,g,c,f⟩:=qL u
 have i:jQ (45::aT u)=true:=by
  rw [g]
  show ((45:UInt8)==45&&(decide (48<=d.toNat)&&decide (d.toNat<=57)))=true
  rw [decide_eq_true c,decide_eq_true f];rfl
 have b:eC (45::aT u)=[[45],aT u]:=by
  unfold eC
  rw [if_neg (by simp),if_neg (by simp),if_pos i];rfl
 rw [e]
 refine ⟨⟨by simp,fun t a=>?_,fun e=>?_,by simp⟩,rfl,b⟩
 ·rw [b] at a
  simp only [bg,bQ,or_false] at a
  rcases a with rfl|rfl
  ·exact rl.1
  ·exact (lq u h).1
 ·injection e with _ e
  have:=(oA u).1
  rw [e] at this
  have k:db 10 [48]=0:=by decide +kernel
  omega
theorem oS (s:List UInt8) (h:s.length<=100):PcOk (gA s)/\(((s=[91,93]\/s=[123,125])/\gA s=s) \/
  (¬s=[91,93]/\¬s=[123,125]/\eC (gA s)=[gA s]/\TokText (gA s)/\((gA s=s/\cC (gA s) (gA s) 0=⟨1,s,0,0,s.length,0⟩)\/(mj s=false/\cC (gA s) (gA s) 0=⟨2,s,0,0,(gA s).length,0⟩)))):=by
 unfold gA
 by_cases b:mj s=true
 ·rw [if_pos b]
  by_cases c:s=[91,93]
  ·subst c
   refine ⟨⟨by decide,fun t a=>?_,by decide,by decide⟩,.inl ⟨.inl rfl,rfl⟩⟩
   have e:eC [91,93]=[[91],[93]]:=rfl
   rw [e] at a
   simp only [bg,bQ,or_false] at a
   rcases a with rfl|rfl
   ·exact (jc (by simp)).1
   ·exact (jc (by simp)).1
  by_cases f:s=[123,125]
  ·subst f
   refine ⟨⟨by decide,fun t a=>?_,by decide,by decide⟩,.inl ⟨.inr rfl,rfl⟩⟩
   have e:eC [123,125]=[[123],[125]]:=rfl
   rw [e] at a
   simp only [bg,bQ,or_false] at a
   rcases a with rfl|rfl
   ·exact (jc (by simp)).1
   ·exact (jc (by simp)).1
  obtain ⟨g,a⟩:=Bn s b c f
  have i:jQ s=false:=by
   cases hb:jQ s
   ·rfl
   ·exfalso
    obtain ⟨d,l,rfl,q,w⟩:=zI hb
    have r:∀n:Nat,n<58->48<=n->dC (n:Int)=false:=by decide +kernel
    rw [vI] at b
    rcases b with (h | h) | ⟨_,(h | h) | ⟨h,_⟩ | ⟨_,h,_⟩⟩
    ·exact c h
    ·exact f h
    ·injection h with h _;exact absurd h (by decide)
    ·injection h with h _;exact absurd h (by decide)
    ·unfold fw at h
     rw [List.all_cons,aF] at h
     exact absurd h.1 (by decide +kernel)
    ·unfold fw at h
     rw [List.all_cons,List.all_cons,aF,aF,r d.toNat (by omega) q] at h
     exact absurd h.2.1 (by simp)
  have p:¬s=[32]:=fun e=>by subst e;revert b;decide +kernel
  exact ⟨tE g i c f p,.inr ⟨c,f,lr i c f,g,.inl ⟨rfl,a⟩⟩⟩
 ·rw [if_neg b]
  have a:cC (gB s) (gB s) 0=⟨2,s,0,0,(gB s).length,0⟩:=by
   rw [LS s (gB s) rfl]
   unfold dM
   rw [if_neg (by omega)]
   have:(gB s).length=(lL 39 s).length+2:=by unfold gB;simp
   rw [this];simp
  have j:av (gB s) 0=39:=by unfold gB;exact dy _ _
  have g:TokText (gB s):=⟨by unfold gB;simp,tq (by rw [j];decide +kernel) (by rw [j];decide) (by rw [j];decide),by rw [a],by rw [a];show ¬(2:Int)=7;decide,by rw [a]⟩
  have i:jQ (gB s)=false:=by
   unfold gB
   cases hD:lL 39 s++[39] with
   | nil=>rfl
   | cons d l=>rfl
  have k:¬gB s=[91,93]:=by unfold gB;simp
  have m:¬gB s=[123,125]:=by unfold gB;simp
  have o:¬gB s=[32]:=by unfold gB;simp
  have u:¬s=[91,93]:=fun e=>b (by rw [e];decide +kernel)
  have v:¬s=[123,125]:=fun e=>b (by rw [e];decide +kernel)
  exact ⟨tE g i k m o,.inr ⟨u,v,lr i k m,g,.inr ⟨by simpa using b,a⟩⟩⟩
section
variable {E:RE} {S:PT} {most:Int} {i:Nat}
def NmTk (t:NextR) (s:List UInt8):Prop:=(t.r.kind=1\/(t.r.kind=2/\¬s=[45]))/\t.r.text=s
def PuTk (t:NextR) (c:UInt8):Prop:=t.r.kind=6/\t.r.text=[c]
theorem NmTk.nam {t:NextR} {s:List UInt8} (h:NmTk t s):ge t=true:=by
 unfold ge
 rcases h.1 with h | h
 ·rw [h];rfl
 ·rw [h.1];rfl
theorem NmTk.txt {t:NextR} {s:List UInt8} (h:NmTk t s):t.txt=⟨s.toArray⟩:=by unfold NextR.txt;rw [h.2]
theorem NmTk.notP {t:NextR} {s:List UInt8} (h:NmTk t s) (x:List UInt8):isP t x=false:=by
 unfold isP
 rcases h.1 with h | h
 ·rw [h];rfl
 ·rw [h.1];rfl
theorem NmTk.opn {t:NextR} {s:List UInt8} (h:NmTk t s):opn t=false:=by unfold Hb.opn;rw [h.notP];rfl
theorem PuTk.isP {t:NextR} {c:UInt8} (h:PuTk t c):isP t [c]=true:=by unfold Hb.isP;rw [h.1,h.2];simp
theorem PuTk.notP {t:NextR} {c d:UInt8} (h:PuTk t c) (hd:¬c=d):Hb.isP t [d]=false:=by unfold Hb.isP;rw [h.1,h.2];simp [hd]
theorem PuTk.notNam {t:NextR} {c:UInt8} (h:PuTk t c):ge t=false:=by unfold ge;rw [h.1];rfl
theorem Kv (a:(E.at i).r.kind=4) (b:0<=(E.at i).r.n):kS E S most i=.ok (Fc (E.at i).r.n,0,i+1):=by
 unfold kS
 simp only
 rw [if_pos ⟨a,b⟩]
theorem Kr (a:(E.at i).r.kind=3):kS E S most i=.ok (NH ((cM E.T i).num (E.at i).r.text),0,i+1):=by
 unfold kS
 simp only
 rw [if_neg (fun h=>by rw [a] at h;exact absurd h.1 (by decide)),if_pos a]
theorem xN {s:List UInt8} (h:NmTk (E.at i) s):kS E S most i=tO E S (E.at i) most (i+1):=by
 have a:¬(E.at i).r.kind=4/\¬(E.at i).r.kind=3/\¬(E.at i).r.kind=5:=by
  rcases h.1 with h | h
  ·rw [h];decide
  ·rw [h.1];decide
 have b:ot (E.at i)=false:=by unfold ot;rw [h.notP,h.notP,h.notP];rfl
 unfold kS
 simp only
 rw [if_neg (fun x=>a.1 x.1),if_neg a.2.1,if_neg a.2.2,if_neg (by rw [b];simp),if_pos h.nam]
theorem sS {s:ByteArray} (h:opn (E.at i)=false):mc E S s i=.ok (none,i):=by unfold mc;rw [h,if_neg (by simp)]
theorem Al {s:ByteArray} {l:List Tm} {m:Nat} (h:opn (E.at i)=true) (b:rt E S (i+1)=.ok (l,m)) (a:isP (E.at m) [41]=true):mc E S s i=.ok (some (nC s l),m+1):=by
 unfold mc
 rw [if_pos h,b]
 simp only
 unfold im
 rw [if_pos a]
theorem Ib {s:List UInt8} {l:List Tm} {m:Nat} (h:NmTk (E.at i) s) (b:opn (E.at (i+1))=true) (c:rt E S (i+2)=.ok (l,m)) (a:isP (E.at m) [41]=true):kS E S most i=.ok (nC ⟨s.toArray⟩ l,0,m+1):=by
 rw [xN h]
 unfold tO
 rw [h.txt,Al b c a]
theorem zJ {t:NextR} (h:¬(t.r.kind=1/\t.r.text=[45]/\(E.at i).r.kind=4/\(E.at i).lay=false)):na E t i=false:=by
 cases hb:na E t i
 ·rfl
 ·exfalso
  apply h
  unfold na at hb
  simp only [aF,beq_iff_eq,Bool.not_eq_true'] at hb
  exact hb
theorem Ku (h:NmTk (E.at i) [45]) (a:(E.at (i+1)).r.kind=4) (c:(E.at (i+1)).lay=false):kS E S most i=.ok (Fc (if (E.at (i+1)).r.n=-9223372036854775808 then (E.at (i+1)).r.n else -(E.at (i+1)).r.n),0,i+2):=by
 have e:opn (E.at (i+1))=false:=by unfold Hb.opn isP;rw [a];rfl
 have b:(E.at i).r.kind=1:=by
  rcases h.1 with h | h
  ·exact h
  ·exact absurd rfl h.2
 have d:na E (E.at i) (i+1)=true:=by
  unfold na
  rw [b,h.2,a,c];rfl
 rw [xN h]
 unfold tO
 rw [sS e]
 simp only
 rw [if_pos d]
theorem Ic {s:List UInt8} (h:NmTk (E.at i) s) (b:opn (E.at (i+1))=false) (a:¬(E.at (i+1)).r.kind=4) (c:Bj E (E.at i) most (i+1)=false):kS E S most i=.ok (AB ⟨s.toArray⟩,0,i+1):=by
 rw [xN h]
 unfold tO
 rw [sS b]
 simp only
 rw [if_neg (by rw [zJ fun x=>a x.2.2.1];simp),if_neg (by rw [c];simp),h.txt]
theorem Ks {s:List UInt8} {u:Tm} {p:Int} {m:Nat} (h:NmTk (E.at i) s) (c:opn (E.at (i+1))=false) (b:¬(s=[45]/\(E.at (i+1)).r.kind=4/\(E.at (i+1)).lay=false)) (d:Bj E (E.at i) most (i+1)=true)
  (a:S (dB ((dt E.P ⟨s.toArray⟩ 1).getD op0)) (i+1)=.ok (u,p,m)):kS E S most i=.ok (nC ⟨s.toArray⟩ [u],((dt E.P ⟨s.toArray⟩ 1).getD op0).prec,m):=by
 rw [xN h]
 unfold tO
 rw [sS c]
 simp only
 rw [if_neg (by rw [zJ fun x=>b ⟨h.2.symm.trans x.2.1,x.2.2⟩];simp),if_pos d,h.txt,a]
theorem tC {c:UInt8} (h:PuTk (E.at i) c) (b:c=40\/c=91\/c=123):kS E S most i=(match ny E S [c] (i+1) with | .error e=>.error e | .ok (u,m)=>.ok (u,0,m)):=by
 have a:ot (E.at i)=true:=by
  unfold ot
  rcases b with rfl|rfl|rfl
  ·rw [h.isP];rfl
  ·rw [h.isP];simp
  ·rw [h.isP];simp
 unfold kS
 simp only
 rw [if_neg (fun x=>by rw [h.1] at x;exact absurd x.1 (by decide)),if_neg (by rw [h.1];decide),if_neg (by rw [h.1];decide),if_pos a,h.2]
 cases ny E S [c] (i+1) <;> rfl
theorem Kt {t:Tm} {p:Int} {m:Nat} (h:PuTk (E.at i) 40) (a:S 1200 (i+1)=.ok (t,p,m)) (b:isP (E.at m) [41]=true):kS E S most i=.ok (t,0,m+1):=by
 rw [tC h (.inl rfl)]
 unfold ny
 rw [if_pos rfl]
 unfold Kn
 rw [a]
 simp only
 unfold im
 rw [if_pos b];rfl
theorem ES {t:Tm} {p:Int} {m:Nat} (h:PuTk (E.at i) 123) (c:isP (E.at (i+1)) [125]=false) (a:S 1200 (i+1)=.ok (t,p,m)) (b:isP (E.at m) [125]=true):kS E S most i=.ok (nC ⟨#[123,125]⟩ [t],0,m+1):=by
 rw [tC h (.inr (.inr rfl))]
 unfold ny
 rw [if_neg (by decide),if_neg (fun x=>absurd x.1 (by decide)),if_neg (fun x=>by rw [c] at x;exact absurd x.2 (by decide)),if_neg (by decide)]
 unfold Kn
 rw [a]
 simp only
 unfold im
 rw [if_pos b]
theorem Df {a b:UInt8} (d:(a=91/\b=93)\/(a=123/\b=125)) (h:PuTk (E.at i) a) (c:PuTk (E.at (i+1)) b):kS E S most i=(match kw E S ⟨#[a,b]⟩ (i+2) with | .error e=>.error e | .ok (u,m)=>.ok (u,0,m)):=by
 rcases d with ⟨rfl,rfl⟩ | ⟨rfl,rfl⟩
 ·rw [tC h (.inr (.inl rfl))]
  unfold ny
  rw [if_neg (by decide),if_pos ⟨rfl,c.isP⟩]
 ·rw [tC h (.inr (.inr rfl))]
  unfold ny
  rw [if_neg (by decide),if_neg (fun x=>absurd x.1 (by decide)),if_pos ⟨rfl,c.isP⟩]
theorem xL {a b:UInt8} (d:(a=91/\b=93)\/(a=123/\b=125)) (h:PuTk (E.at i) a) (c:PuTk (E.at (i+1)) b) (e:opn (E.at (i+2))=false):kS E S most i=.ok (AB ⟨#[a,b]⟩,0,i+2):=by
 rw [Df d h c]
 unfold kw
 rw [sS e]
theorem xK {a b:UInt8} {l:List Tm} {m:Nat} (d:(a=91/\b=93)\/(a=123/\b=125)) (h:PuTk (E.at i) a) (c:PuTk (E.at (i+1)) b) (f:opn (E.at (i+2))=true) (g:rt E S (i+3)=.ok (l,m)) (e:isP (E.at m) [41]=true):kS E S most i=.ok (nC ⟨#[a,b]⟩ l,0,m+1):=by
 rw [Df d h c]
 unfold kw
 rw [Al f g e]
theorem zy {l:List Tm} {t:Tm} {m k:Nat} (h:PuTk (E.at i) 91) (b:isP (E.at (i+1)) [93]=false) (c:rt E S (i+1)=.ok (l,m)) (d:qd E S m=.ok (t,k)) (a:isP (E.at k) [93]=true):kS E S most i=.ok (sB l t,0,k+1):=by
 rw [tC h (.inr (.inl rfl))]
 unfold ny
 rw [if_neg (by decide),if_neg (fun x=>by rw [b] at x;exact absurd x.2 (by decide)),if_neg (fun x=>absurd x.1 (by decide)),if_pos rfl]
 unfold zM
 rw [c]
 simp only
 rw [d]
 simp only
 unfold im
 rw [if_pos a]
theorem Gl {m:Nat} (h:isP (E.at m) [124]=false):qd E S m=.ok (rD,m):=by unfold qd;rw [if_neg (by rw [h];simp)]
theorem Gn {t:Tm} {p:Int} {m k:Nat} (h:isP (E.at m) [124]=true) (a:S 999 (m+1)=.ok (t,p,k)):qd E S m=.ok (t,k):=by unfold qd;rw [if_pos h,a]
def Ji (E:RE) (S:PT):Nat->List Tm->Nat->Prop
 | _,[],_=>False
 | i,[t],m=>(∃p,S 999 i=.ok (t,p,m))/\isP (E.at m) [44]=false
 | i,t::u::l,m=>∃k,(∃p,S 999 i=.ok (t,p,k))/\isP (E.at k) [44]=true/\Ji E S (k+1) (u::l) m
theorem CY:∀(l:List Tm) (i m k:Nat),Ji E S i l m->l.length<=k->ts E S k i=.ok (l,m)
 | [],_,_,_,h,_=>absurd h (by simp [Ji])
 | [t],i,m,0,_,hk=>absurd hk (by simp)
 | [t],i,m,k+1,⟨⟨p,h⟩,hc⟩,_=>by
  unfold ts
  rw [h]
  simp only
  rw [if_neg (by rw [hc];simp)]
 | t::u::l,i,m,0,_,hk=>absurd hk (by simp)
 | t::u::l,i,m,k+1,⟨q,⟨p,h⟩,hc,hr⟩,hk=>by
  unfold ts
  rw [h]
  simp only
  rw [if_pos hc,CY (u::l) (q+1) m k hr (by simpa using hk)]
theorem JU {l:List Tm} {m:Nat} (h:Ji E S i l m) (a:l.length<=E.T.length):rt E S i=.ok (l,m):=CY l i m _ h a
end
def Rch (E:RE) (f:Nat) (most:Int) (i:Nat) (t:Tm) (p:Int) (m:Nat):Prop:=∃k,E.T.length+i<=k+m/\DS E (mv E f) most i=km E (mv E f) most k t p m
theorem Rch.opd {E:RE} {f:Nat} {most:Int} {i:Nat} {t:Tm} {p:Int} {m:Nat} (h:kS E (mv E f) most i=.ok (t,p,m)) (a:i<=m):Rch E f most i t p m :=
 ⟨E.T.length,by omega,by unfold DS;rw [h]⟩
def Stop (E:RE) (m:Nat) (L:Int):Prop:=(hQ E m).2=true->L<(hQ E m).1.prec
theorem Stop.mono {E:RE} {m:Nat} {L K:Int} (h:Stop E m L) (a:K<=L):Stop E m K:=fun x=>by have:=h x;omega
theorem Rch.done {E:RE} {f:Nat} {most:Int} {i:Nat} {t:Tm} {p:Int} {m:Nat} (h:Rch E f most i t p m) (c:m<E.T.length+i) (a:Stop E m most):mv E (f+1) most i=.ok (t,p,m):=by
 obtain ⟨k,b,h⟩:=h
 show DS E (mv E f) most i=_
 rw [h]
 obtain ⟨k,rfl⟩:∃j,k=j+1:=⟨k-1,by omega⟩
 unfold km
 rw [if_pos]
 unfold vW
 cases ho:(hQ E m).2
 ·rfl
 ·rw [decide_eq_true (a ho)];simp
theorem Rch.infix {E:RE} {f:Nat} {most:Int} {i:Nat} {t u:Tm} {p q:Int} {m k:Nat} {op:OpR} (h:Rch E f most i t p m) (r:m<E.T.length+i) (d:hQ E m=(op,true)) (e:ph op=false) (g:op.prec<=most) (l:p<=gi op) (b:mv E f (dB op) (m+1)=.ok (u,q,k)) (o:m<k) :
  Rch E f most i (nC op.name [t,u]) op.prec k:=by
 obtain ⟨j,n,h⟩:=h
 obtain ⟨j,rfl⟩:∃a,j=a+1:=⟨j-1,by omega⟩
 refine ⟨j,by omega,?_⟩
 have c:vW (op,true) most p=false:=by
  show (!true||(decide (most<op.prec)||decide (gi op<p)))=false
  rw [decide_eq_false (by omega),decide_eq_false (by omega)];rfl
 rw [h,km,d,if_neg (by rw [c];simp),if_neg (by rw [e];simp),b]
theorem Rch.postfix {E:RE} {f:Nat} {most:Int} {i:Nat} {t:Tm} {p:Int} {m:Nat} {op:OpR} (h:Rch E f most i t p m) (l:m<E.T.length+i) (c:hQ E m=(op,true)) (d:ph op=true) (e:op.prec<=most) (g:p<=gi op) :
  Rch E f most i (nC op.name [t]) op.prec (m+1):=by
 obtain ⟨j,k,h⟩:=h
 obtain ⟨j,rfl⟩:∃a,j=a+1:=⟨j-1,by omega⟩
 refine ⟨j,by omega,?_⟩
 have b:vW (op,true) most p=false:=by
  show (!true||(decide (most<op.prec)||decide (gi op<p)))=false
  rw [decide_eq_false (by omega),decide_eq_false (by omega)];rfl
 rw [h,km,c,if_neg (by rw [b];simp),if_pos d]
end Hb
