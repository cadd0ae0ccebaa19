/- Parts of the proof. -/
import Derived.Test.YtgapnafkelokaaaGreatDoorR01
import Derived.Test.YtgapnafkelokaaaGreatDoorR29
import Derived.Test.YtgapnafkelokaaaGreatDoorR22
import Derived.Test.YtgapnafkelokaaaGreatDoorR07
import Derived.Test.YtgapnafkelokaaaGreatDoorR19
import Derived.Test.YtgapnafkelokaaaGreatDoorR02
import Derived.Lib.ItoaNum
import Derived.Test.YtgapnafkelokaaaGreatDoorR16
set_option maxRecDepth 100000
open Bool renaming and_eq_true -> aE, true_and -> di
open Go.Lib renaming decDigits -> aP
open Go.Value renaming bool -> an
open List renaming append_assoc -> bG, cons_append -> ai, drop_append_of_le_length -> de, drop_drop -> cI, drop_zero -> cH, length_append -> aC, length_cons -> be, length_drop -> aI, length_take -> cZ, mem_append -> dl, mem_cons_of_mem -> ba, mem_cons_self -> aY, mem_singleton -> aJ, nil_append -> am, take_length -> dk
open Nat renaming add_zero -> bq, lt_or_ge -> dy, zero_add -> ap
namespace Go.Proofs.YtgapnafkelokaaaGreatDoor
open Go.RowKit Hb
theorem Er (f:FlR) (w:World):Calls Tryz.prog 26 #[.agg #[.int .i64 f.q,.int .i64 f.u,an f.c,an f.d]] w fun e w'=>e=.returned (an (pl f))/\Below w.heap.size w w':=by
 have h:=(Below.refl w.heap.size w).alloc (Nat.le_refl _) (.cells #[.int .i64 f.q,.int .i64 f.u,an f.c,an f.d] 53)
 have g:Hid (pl f=(decide (1<=f.q)&&(decide (f.q<=3)&&(f.u==1||f.u==2)))):=zq rfl
 generalize pl f=r at *
 generalize f.q=q at *
 generalize f.u=u at *
 generalize f.c=c at *
 generalize f.d=d at *
 have a:q<1\/3<q\/(1<=q/\q<=3):=by omega
 have b:u<1\/2<u\/(1<=u/\u<=2):=by omega
 rcases a with a | a | ⟨a,i⟩ <;> rcases b with b | b | ⟨b,j⟩
 all_goals
  go_enter Tryz.func26,Tryz.ntmps26
  go_wp2_with fail
  go_ret
  refine ⟨bC ?_,h⟩
  rw [g.out,Bool.eq_iff_iff]
  simp
  omega
end Go.Proofs.YtgapnafkelokaaaGreatDoor
namespace Hb
theorem lC (q:Int->Bool):∀s:List UInt8,bW q s=s.length↔fc q s=true
 | []=>by simp [bW,fc]
 | b::s=>by
  have a:=lC q s
  have c:=fD q s
  unfold fc at a |-
  rw [bW,List.all_cons]
  by_cases h:q (b.toNat:Int)=true
  ·rw [if_pos h,h,di,be,<-a];omega
  ·rw [if_neg h]
   have:q (b.toNat:Int)=false:=by simpa using h
   rw [this,Bool.false_and,be];simp
theorem nd (q:Int->Bool) (s:List UInt8) (h:fc q s=true) (k:Nat) (a:k<s.length):q (au s k)=true:=by
 unfold fc at h
 rw [List.all_eq_true] at h
 have:=h s[k] (List.getElem_mem a)
 rwa [eU _ _ a,<-ic _ _ a]
theorem nC (s:List UInt8) (h:s.length=1) (c:UInt8) (a:au s 0=(c.toNat:Int)):s=[c]:=by
 match s,h with
 | [b],_=>
  rw [cU] at a
  have:b=c:=UInt8.toNat_inj.1 (by omega)
  rw [this]
theorem tQ (s:List UInt8):s.take 2=[47,42]↔au s 0=47/\au s 1=42:=by
 match s with
 | []=>simp [au]
 | [b]=>simp [au]
 | b::c::l=>
  rw [cU,fs,cU]
  simp only [List.take_succ_cons,List.take_zero]
  constructor
  ·intro h;injection h with a h;injection h with d _;subst a;subst d;exact ⟨rfl,rfl⟩
  ·rintro ⟨a,d⟩
   have e:b=47:=UInt8.toNat_inj.1 (by show b.toNat=47;omega)
   have f:c=42:=UInt8.toNat_inj.1 (by show c.toNat=42;omega)
   rw [e,f]
theorem sm (s:List UInt8) (h:s.length<=100):dz 1 (s.take s.length) ((0:Nat):Int) ((0:Nat)+(s.length:Int))=⟨1,s,0,0,s.length,0⟩:=by
 unfold dz
 rw [dk,if_neg (by omega)];simp
theorem Bq (s:List UInt8) (v:0<s.length):cj s s 0=⟨1,s,0,0,s.length,0⟩ ↔
  (s.length<=100/\((s=[33]\/s=[59])\/((fc dw s=true/\cls (au s 0)=2)\/(fc db s=true/\¬s=[46]/\¬s.take 2=[47,42])))):=by
 have A:(0:Nat)+(s.length:Int)=(s.length:Int):=by omega
 have u:∀q,(s.take (bW q s)).length=s.length->bW q s=s.length:=fun q h=>by rw [cZ] at h;have:=fD q s;omega
 have p:fc db s=true->cls (au s 0)=5:=fun h=>by
  have:=nd db s h 0 v
  unfold db at this;simpa using this
 unfold cj
 rw [tQ]
 by_cases a0:au s 0=47/\au s (0+1)=42
 ·rw [if_pos a0]
  constructor
  ·intro h;exact absurd (congrArg LexR.err h) (by show ¬(7:Int)=0;decide)
  ·rintro ⟨_,h | ⟨_,h⟩ | ⟨_,_,h⟩⟩
   ·rcases h with rfl|rfl
    ·exact absurd a0.1 (by decide +kernel)
    ·exact absurd a0.1 (by decide +kernel)
   ·rw [a0.1] at h;exact absurd h (by decide +kernel)
   ·exact absurd a0 h
 rw [if_neg a0]
 by_cases e:cls (au s 0)=2\/cls (au s 0)=3
 ·rw [if_pos e]
  unfold nO
  simp only [cH]
  constructor
  ·intro h
   obtain ⟨_,_,a,f⟩:=gM _ _ _ _ (show _=(0:Int) by rw [h])
   rw [h] at a f
   have l:=u dw (by rw [<-f])
   have r:s.length<=100:=by
    rcases dy 100 s.length with d | d
    ·unfold dz at h
     rw [l,dk,if_pos d] at h
     exact absurd (congrArg LexR.err h) (by show ¬(2:Int)=0;decide)
    ·exact d
   refine ⟨r,.inr (.inl ⟨(lC _ _).1 l,?_⟩)⟩
   simp only [] at a
   unfold kE at a
   rcases e with e | e
   ·exact e
   ·rw [if_pos e] at a;exact absurd a (by decide)
  ·rintro ⟨g,h | ⟨i,o⟩ | ⟨i,_⟩⟩
   ·rcases h with rfl|rfl
    ·exact absurd e (by decide +kernel)
    ·exact absurd e (by decide +kernel)
   ·rw [(lC _ _).2 i]
    have:kE (au s 0)=1:=by unfold kE;rw [o];rfl
    rw [this];exact sm s g
   ·have:=p i;omega
 rw [if_neg e]
 by_cases m:cls (au s 0)=4
 ·rw [if_pos m]
  have c:¬(jh s s 0).kind=1\/¬(jh s s 0).err=0:=by
   unfold jh
   split
   ·cases cy (s.drop (0+2)) 39 with
    | none=>right;show ¬(7:Int)=0;decide
    | some ck=>left;show ¬(4:Int)=1;decide
   split
   ·unfold intR;split
    ·left;show ¬(4:Int)=1;decide
    ·right;show ¬(7:Int)=0;decide
   ·unfold intR;split
    ·left;show ¬(4:Int)=1;decide
    ·right;show ¬(7:Int)=0;decide
  constructor
  ·intro h;rw [h] at c;rcases c with c | c <;> exact absurd rfl c
  ·rintro ⟨_,h | ⟨_,h⟩ | ⟨h,_⟩⟩
   ·rcases h with rfl|rfl
    ·exact absurd m (by decide +kernel)
    ·exact absurd m (by decide +kernel)
   ·omega
   ·have:=p h;omega
 rw [if_neg m]
 by_cases j:cls (au s 0)=5
 ·rw [if_pos j]
  unfold mC
  simp only [cH]
  by_cases k:au s 0=46/\jb (au s (0+1))=true
  ·rw [if_pos k]
   constructor
   ·intro h;exact absurd (congrArg LexR.kind h) (by show ¬(7:Int)=1;decide)
   ·rintro ⟨_,h | ⟨_,h⟩ | ⟨i,o,z⟩⟩
    ·rcases h with rfl|rfl
     ·exact absurd j (by decide +kernel)
     ·exact absurd j (by decide +kernel)
    ·omega
    ·exfalso
     by_cases g:s.length=1
     ·exact o (nC s g 46 k.1)
     ·have:=nd db s i 1 (by omega)
      unfold db at this
      have b:cls (au s 1)=5:=by simpa using this
      have t:=k.2
      rw [ap] at t
      unfold jb at t
      have w:¬au s 1<0:=fun h=>by rw [Bb _ (by omega)] at b;omega
      have y:¬au s 1=37:=fun h=>by rw [h] at b;exact absurd b (by decide +kernel)
      simp [w,y,b] at t
  ·rw [if_neg k]
   constructor
   ·intro h
    obtain ⟨_,_,a,f⟩:=gM _ _ _ _ (show _=(0:Int) by rw [h])
    rw [h] at f
    have l:=u db (by rw [<-f])
    have r:s.length<=100:=by
     rcases dy 100 s.length with d | d
     ·unfold dz at h
      rw [l,dk,if_pos d] at h
      exact absurd (congrArg LexR.err h) (by show ¬(2:Int)=0;decide)
     ·exact d
    refine ⟨r,.inr (.inr ⟨(lC _ _).1 l,fun h=>?_,a0⟩)⟩
    subst h
    exact k ⟨rfl,by decide +kernel⟩
   ·rintro ⟨g,h | ⟨_,o⟩ | ⟨i,_⟩⟩
    ·rcases h with rfl|rfl
     ·exact absurd j (by decide +kernel)
     ·exact absurd j (by decide +kernel)
    ·omega
    ·rw [(lC _ _).2 i];exact sm s g
 rw [if_neg j]
 by_cases n:cls (au s 0)=6
 ·rw [if_pos n]
  unfold qx
  simp only [cH]
  constructor
  ·intro h
   obtain ⟨_,_,a,f⟩:=gM _ _ _ _ (show _=(0:Int) by rw [h])
   rw [h] at a f
   simp only [] at a f
   have g:s.length=1:=by
    have:=congrArg List.length f
    rw [cZ] at this;omega
   refine ⟨by omega,.inl ?_⟩
   unfold lD at a
   by_cases b:au s 0=33\/au s 0=59
   ·rcases b with b | b
    ·exact .inl (nC s g 33 b)
    ·exact .inr (nC s g 59 b)
   ·rw [if_neg b] at a;exact absurd a (by decide)
  ·rintro ⟨_,h | ⟨_,h⟩ | ⟨h,_⟩⟩
   ·rcases h with rfl|rfl
    ·rfl
    ·rfl
   ·omega
   ·have:=p h;omega
 rw [if_neg n]
 constructor
 ·intro h
  exfalso
  have c:¬(if cls (au s 0)=7 then gY s s 0 else dD 7).kind=1\/¬(if cls (au s 0)=7 then gY s s 0 else dD 7).err=0:=by
   split
   ·unfold gY
    split
    ·cases ko (s.drop (0+1)) 34 with
     | none=>right;show ¬(7:Int)=0;decide
     | some ck=>left;show ¬(5:Int)=1;decide
    split
    ·cases ko (s.drop (0+1)) 39 with
     | none=>right;show ¬(7:Int)=0;decide
     | some x=>
      by_cases d:100<x.1.length
      ·right;simp [si,dz,d,dD]
      ·left;simp [si,dz,d]
    ·right;show ¬(7:Int)=0;decide
   ·right;show ¬(7:Int)=0;decide
  rw [h] at c;rcases c with c | c <;> exact absurd rfl c
 ·rintro ⟨_,h | ⟨_,h⟩ | ⟨h,_⟩⟩
  ·rcases h with rfl|rfl
   ·exact absurd (show cls (au [33] 0)=6 by decide +kernel) n
   ·exact absurd (show cls (au [59] 0)=6 by decide +kernel) n
  ·omega
  ·have:=p h;omega
theorem ud (s:List UInt8):ln s=true↔(s=[91,93]\/s=[123,125])\/(s.length<=100/\((s=[33]\/s=[59])\/((fc dw s=true/\cls (au s 0)=2)\/(0<s.length/\fc db s=true/\¬s=[46]/\¬s.take 2=[47,42])))):=by
 unfold ln uN
 simp
 constructor
 ·rintro ⟨a,h⟩
  rcases h with (h | h | h | h) | ⟨b,c⟩ | ⟨b,c,d,e⟩
  ·exact .inl (.inl h)
  ·exact .inl (.inr h)
  ·exact .inr ⟨a,.inl (.inl h)⟩
  ·exact .inr ⟨a,.inl (.inr h)⟩
  ·exact .inr ⟨a,.inr (.inl ⟨b,c⟩)⟩
  ·exact .inr ⟨a,.inr (.inr ⟨by cases s with | nil=>exact absurd rfl c | cons=>simp,b,d,e⟩)⟩
 ·rintro ((h | h) | ⟨a,(h | h) | ⟨b,c⟩ | ⟨f,b,d,e⟩⟩)
  ·subst h;exact ⟨by decide,.inl (.inl rfl)⟩
  ·subst h;exact ⟨by decide,.inl (.inr (.inl rfl))⟩
  ·exact ⟨a,.inl (.inr (.inr (.inl h)))⟩
  ·exact ⟨a,.inl (.inr (.inr (.inr h)))⟩
  ·exact ⟨a,.inr (.inl ⟨b,c⟩)⟩
  ·exact ⟨a,.inr (.inr ⟨b,by rintro rfl;simp at f,d,e⟩)⟩
theorem zh (s:List UInt8) (b:0<s.length) (h:(s=[33]\/s=[59])\/((fc dw s=true/\cls (au s 0)=2)\/(fc db s=true/\¬s.take 2=[47,42]))):bL s=0:=by
 rw [lE]
 have f:s.isEmpty=false:=by cases s with | nil=>simp at b | cons=>rfl
 rw [f,if_neg (by decide)]
 have a:¬cls (au s 0)=1/\¬au s 0=37/\¬(au s 0=47/\au s 1=42):=by
  rcases h with (rfl|rfl) | ⟨_,h⟩ | ⟨h,d⟩
  ·decide +kernel
  ·decide +kernel
  ·refine ⟨by omega,fun e=>?_,fun e=>?_⟩
   ·rw [e] at h;exact absurd h (by decide +kernel)
   ·rw [e.1] at h;exact absurd h (by decide +kernel)
  ·have:=nd db s h 0 b
   unfold db at this
   have c:cls (au s 0)=5:=by simpa using this
   refine ⟨by omega,fun e=>?_,fun e=>d ((tQ s).2 e)⟩
   rw [e] at c;exact absurd c (by decide +kernel)
 rw [if_neg a.1,if_neg a.2.1,if_neg a.2.2]
def sd (b:Nat):Prop:=b=2\/b=8\/b=10\/b=16
theorem Im (b:Nat) (a:sd b):2<=b/\b<=16:=by rcases a with rfl|rfl|rfl|rfl <;> decide
theorem FD (s:List UInt8) (h:fc (bY 10) s=true) (k:Nat) (a:k<s.length):48<=au s k/\au s k<=57:=by
 have:=nd _ _ h k a
 have c:=eU _ _ a
 have d:=jj s k
 have e:=jG s k
 unfold bY at this
 rw [kD _ _ (by decide) (by decide)] at this
 have b:pq (au s k)<10:=by simpa using this
 unfold pq at b
 grind
def tV (n:Int) (r:LexR):LexR:=if r.err=0 then ⟨r.kind,r.text,r.n,r.at_+n,r.end_+n,0⟩ else r
theorem ld (n e:Int) (h:¬e=0):tV n (dD e)=dD e:=by unfold tV dD;rw [if_neg h]
theorem nA (n d:Int) (t:List UInt8) (a e b c:Int) (f:b=a+n) (g:c=e+n):dz d t b c=tV n (dz d t a e):=by
 subst f;subst g
 unfold dz
 by_cases h:100<t.length
 ·rw [if_pos h,if_pos h,ld _ _ (by decide)]
 ·rw [if_neg h,if_neg h];rfl
theorem Ax (n b:Int) (t:List UInt8) (a e c d:Int) (f:c=a+n) (g:d=e+n):intR b t c d=tV n (intR b t a e):=by
 subst f;subst g
 unfold intR
 by_cases h:cL b t<=9223372036854775808
 ·rw [if_pos h,if_pos h];rfl
 ·rw [if_neg h,if_neg h,ld _ _ (by decide)]
theorem yR (n d f a e b c:Int) (t:List UInt8) (g:b=a+n) (h:c=e+n):(⟨d,t,f,b,c,0⟩:LexR)=tV n ⟨d,t,f,a,e,0⟩:=by
 subst g;subst h;rfl
theorem Gu (n k:Int) (r:LexR):tV n (tV k r)=tV (k+n) r:=by
 by_cases h:r.err=0
 ·unfold tV;rw [if_pos h];simp only [if_true];rw [if_pos h];simp [Int.add_assoc]
 ·unfold tV;rw [if_neg h,if_neg h,if_neg h]
theorem vG (m:List UInt8) (p:Nat):cd (m.drop p) 0=cd m p:=by
 unfold cd;simp only [bT,bq,ap]
theorem wG (m l:List UInt8) (p:Nat):cj m l p=tV p (cj (m.drop p) (l.drop p) 0):=by
 have a:au (m.drop p) 0=au m p:=by rw [bT,bq]
 have b:au (m.drop p) (0+1)=au m (p+1):=by rw [bT,ap]
 unfold cj
 simp only [a,b]
 split
 ·rw [ld _ _ (by decide)]
 split
 ·unfold nO;rw [a];simp only [cH];exact nA _ _ _ _ _ _ _ (by simp) (by simp;omega)
 split
 ·unfold jh
  simp only [a,b,vG,cI,ap]
  split
  ·cases cy (l.drop (p+2)) 39 with
   | none=>rw [ld _ _ (by decide)]
   | some ck=>exact yR _ _ _ _ _ _ _ _ (by simp) (by simp;omega)
  split
  ·exact Ax _ _ _ _ _ _ _ (by simp) (by simp;omega)
  ·exact Ax _ _ _ _ _ _ _ (by simp) (by simp;omega)
 split
 ·unfold mC
  simp only [a,b,cH]
  split
  ·exact yR _ _ _ _ _ _ _ _ (by simp) (by simp;omega)
  ·exact nA _ _ _ _ _ _ _ (by simp) (by simp;omega)
 split
 ·unfold qx;rw [a];simp only [cH];exact nA _ _ _ _ _ _ _ (by simp) (by simp;omega)
 split
 ·unfold gY
  simp only [a,cI,ap]
  split
  ·cases ko (l.drop (p+1)) 34 with
   | none=>unfold mJ;rw [ld _ _ (by decide)]
   | some x=>unfold mJ;exact yR _ _ _ _ _ _ _ _ (by simp) (by simp;omega)
  split
  ·cases ko (l.drop (p+1)) 39 with
   | none=>unfold si;rw [ld _ _ (by decide)]
   | some x=>unfold si;exact nA _ _ _ _ _ _ _ (by simp) (by simp;omega)
  ·rw [ld _ _ (by decide)]
 ·rw [ld _ _ (by decide)]
theorem An (a l:List UInt8) (p:Nat):cj (a++l) (a++l) (a.length+p)=tV a.length (cj l l p):=by
 rw [wG,wG l l p,Gu,List.drop_append,List.drop_of_length_le (by omega),show a.length+p-a.length=p by omega,am]
 congr 1;simp;omega
theorem JI (l:List UInt8):cD (jx []) l=l:=by
 unfold cD jx
 simp
def KC:Nat->List UInt8
 | 0=>[32]
 | 1=>[10]
 | 2=>[9]
 | 3=>[37,32,97,32,39,98,32,47,42,10]
 | 4=>[47,42,32,37,32,39,32,42,32,47,32,42,42,47]
 | 5=>[47,42,42,47]
 | _=>[13,10]
theorem er (t R:List UInt8) (i:Nat) (h:i<t.length):au (t++R) i=au t i:=by
 rw [eU _ _ (by simp;omega),eU _ _ h,<-ic _ _ (by simp;omega),<-ic _ _ h,List.getElem_append_left h]
theorem mO (t R:List UInt8):au (t++R) t.length=au R 0:=by
 have:=bT (t++R) t.length 0
 rw [List.drop_left,bq] at this;exact this.symm
theorem mK (q:Int->Bool) (t R:List UInt8) (h:fc q t=true) (a:q (au R 0)=false):bW q (t++R)=t.length:=by
 induction t with
 | nil=>
  rw [am]
  match R,a with
  | [],_=>rfl
  | b::R,a=>rw [cU] at a;rw [bW,a];rfl
 | cons b t ih=>
  unfold fc at h ih
  rw [List.all_cons,aE] at h
  rw [ai,bW,if_pos h.1,ih h.2];rfl
theorem wU (q:Int->Bool) (t R:List UInt8) (h:bW q t<t.length):bW q (t++R)=bW q t:=by
 induction t with
 | nil=>simp [bW] at h
 | cons b t ih=>
  rw [ai,bW,bW]
  rw [bW] at h
  by_cases a:q (b.toNat:Int)=true
  ·rw [if_pos a] at h |-
   rw [if_pos a,ih (by simpa using h)]
  ·rw [if_neg a,if_neg a]
theorem ny (q:Int->Bool) (t:List UInt8) (h:bW q t=t.length):fc q t=true:=(lC q t).1 h
structure NoGlue (t R:List UInt8):Prop where
 a:dw (au t (t.length-1))=true->dw (au R 0)=false
 s:db (au t (t.length-1))=true->db (au R 0)=false
 q:cls (au t (t.length-1))=7->¬au t (t.length-1)=au R 0
 z:t=[48]->¬au R 0=39
theorem qh (b:Nat) (a:sd b) (c:Int) (h:bY (b:Int) c=true):dw c=true:=by
 have d:=Im b a
 unfold bY at h
 rw [kD _ _ (by omega) (by omega)] at h
 have h:pq c<(b:Int):=by simpa using h
 have e:(48<=c/\c<=57)\/(97<=c/\c<=122)\/(65<=c/\c<=90):=by unfold pq at h;grind
 unfold dw cls
 grind
theorem mh (q:Int->Bool) (t:List UInt8) (h:fc q t=true) (a:0<t.length):q (au t (t.length-1))=true:=nd q t h _ (by omega)
theorem yi (b:Nat) (a:sd b) (c:Int) (h:dw c=false):bY (b:Int) c=false:=by
 cases hd:bY (b:Int) c with
 | false=>rfl
 | true=>rw [qh b a c hd] at h;cases h
theorem tw (t:List UInt8) (k:Nat) (h:k<t.length):au (t.drop k) ((t.drop k).length-1)=au t (t.length-1):=by
 rw [bT,aI];congr 1;omega
theorem qC (l R:List UInt8) (q c:Int) (k:Nat) (o:0<=q/\q<=255) (h:cy l q=some (c,k)):cy (l++R) q=some (c,k):=by
 have s:=eD l q c k o h
 have p:au (l++R) 0=au l 0:=er _ _ _ (by omega)
 have t:=dK l 0
 unfold cy at h |-
 rw [p]
 by_cases j:au l 0<0\/au l 0=10
 ·rw [if_pos j] at h;cases h
 rw [if_neg j] at h |-
 by_cases m:au l 0=q
 ·rw [if_pos m] at h |-
  by_cases a:au l 1=q
  ·have:=dK l 1
   rw [er _ _ _ (by omega),if_pos a]
   rw [if_pos a] at h;exact h
  ·rw [if_neg a] at h;cases h
 rw [if_neg m] at h |-
 by_cases a:au l 0≠92
 ·rw [if_pos a] at h |-;exact h
 rw [if_neg a] at h |-
 by_cases b:kX (au l 1)=true
 ·have:=Du _ b
  have:=dK l 1
  rw [if_pos b] at h
  rw [er _ _ _ (by omega),if_pos b];exact h
 rw [if_neg b] at h
 by_cases e:0<fv l/\iU l<=255/\au l (eS l+fv l)=92
 ·have u:=dK l (eS l+fv l)
  have r:1<=eS l:=by unfold eS;split <;> omega
  have f:au (l++R) 1=au l 1:=er _ _ _ (by omega)
  have g:jE (l++R)=jE l:=by unfold jE;rw [f]
  have d:eS (l++R)=eS l:=by unfold eS;rw [f]
  have i:fv (l++R)=fv l:=by
   unfold fv;rw [g,d,de (by omega)]
   refine wU _ _ _ ?_
   rw [aI];show fv l<_;omega
  have n:iU (l++R)=iU l:=by
   unfold iU;rw [g,d,i,de (by omega),List.take_append_of_le_length (by rw [aI];omega)]
  rw [if_pos e] at h
  rw [f,if_neg b,i,n,d,er _ _ _ (by omega),if_pos e];exact h
 ·rw [if_neg e] at h;cases h
theorem pY (q:Int) (g:0<=q/\q<=255):∀(f:Nat) (l:List UInt8) (s:List UInt8) (k:Nat),jD f l q=some (s,k)->au l k=q
 | 0,_,_,_,h=>by cases h
 | f+1,l,s,k,h=>by
  unfold jD at h
  by_cases a:au l 0=q/\¬au l 1=q
  ·rw [if_pos a] at h;injection h with h;injection h with e1 e2;subst e2;exact a.1
  rw [if_neg a] at h
  by_cases e:au l 0=92/\au l 1=10
  ·rw [if_pos e] at h
   cases hi:jD f (l.drop 2) q with
   | none=>rw [hi] at h;cases h
   | some x=>
    obtain ⟨d,b⟩:=x
    have:=pY q g f (l.drop 2) d b hi
    rw [hi] at h;injection h with h;injection h with e1 e2;subst e2
    rw [bT] at this;rw [<-this];congr 1;simp only [];omega
  rw [if_neg e] at h
  cases hs:cy l q with
  | none=>rw [hs] at h;cases h
  | some ck=>
   obtain ⟨c,j⟩:=ck
   rw [hs] at h
   simp only [] at h
   cases hi:jD f (l.drop j) q with
   | none=>rw [hi] at h;cases h
   | some x=>
    obtain ⟨d,b⟩:=x
    have:=pY q g f (l.drop j) d b hi
    rw [hi] at h;injection h with h;injection h with e1 e2;subst e2
    rw [bT] at this;rw [<-this];congr 1;simp only [];omega
theorem Fc (q:Int) (d:0<=q/\q<=255) (R:List UInt8) (r:¬au R 0=q):∀(n:Nat) (l:List UInt8),l.length=n->∀(s:List UInt8) (k:Nat),ko l q=some (s,k)->k+1=l.length->ko (l++R) q=some (s,k):=by
 intro n
 induction n using Nat.strongRecOn with
 | _ n ih=>
  intro l w s k h v
  have p:0<l.length:=by omega
  rw [mj _ _ d] at h |-
  have i:au (l++R) 0=au l 0:=er _ _ _ p
  have z:=dK l 1
  have o:1<l.length->au (l++R) 1=au l 1:=fun f=>er _ _ _ f
  have u:l.length=1->au (l++R) 1=au R 0:=fun f=>by have:=mO l R;rwa [f] at this
  by_cases a:au l 0=q/\¬au l 1=q
  ·rw [if_pos a] at h
   injection h with h;injection h with e1 e2;subst e1;subst e2
   rw [i,if_pos ⟨a.1,by rw [u (by omega)];exact r⟩]
  rw [if_neg a] at h
  by_cases b:au l 0=92/\au l 1=10
  ·have e:1<l.length:=by omega
   rw [i,o e,if_neg a,if_pos b,de (by omega)]
   rw [if_pos b] at h
   cases hi:ko (l.drop 2) q with
   | none=>rw [hi] at h;cases h
   | some x=>
    obtain ⟨m,g⟩:=x
    rw [hi] at h;injection h with h;injection h with e1 e2
    simp only [] at e1 e2
    rw [ih (l.drop 2).length (by rw [aI];omega) (l.drop 2) rfl m g hi (by rw [aI];omega)]
    simp only [Option.map_some,e1,e2]
  rw [if_neg b] at h
  cases hs:cy l q with
  | none=>rw [hs] at h;cases h
  | some ck=>
   obtain ⟨c,j⟩:=ck
   have y:=eD l q c j d hs
   rw [hs] at h
   simp only [] at h
   cases hi:ko (l.drop j) q with
   | none=>rw [hi] at h;cases h
   | some x=>
    obtain ⟨m,g⟩:=x
    have t:=lP q d _ _ _ _ hi
    rw [aI] at t
    have e:1<l.length:=by omega
    rw [hi] at h;injection h with h;injection h with e1 e2
    simp only [] at e1 e2
    rw [i,o e,if_neg a,if_neg b,qC l R q c j d hs]
    simp only []
    rw [de (by omega),ih (l.drop j).length (by rw [aI];omega) (l.drop j) rfl m g hi (by rw [aI];omega)]
    simp only [Option.map_some,e1,e2]
theorem xJ (t R:List UInt8) (h:1<t.length):cd (t++R) 0=cd t 0:=by
 unfold cd;rw [er _ _ _ (by omega),er _ _ _ h]
theorem zu (t:List UInt8) (h:0<cd t 0):∃b:Nat,sd b/\cd t 0=(b:Int):=by
 unfold cd at h |-
 split
 ·split
  ·exact ⟨16,.inr (.inr (.inr rfl)),rfl⟩
  split
  ·exact ⟨8,.inr (.inl rfl),rfl⟩
  split
  ·exact ⟨2,.inl rfl,rfl⟩
  ·rename_i a b c d;rw [if_pos a,if_neg b,if_neg c,if_neg d] at h;exact absurd h (by decide)
 ·rename_i a;rw [if_neg a] at h;exact absurd h (by decide)
theorem EN (t R:List UInt8) (w:0<t.length) (c:(jh t t 0).err=0) (e:(jh t t 0).end_=t.length) (r:NoGlue t R):jh (t++R) (t++R) 0=jh t t 0:=by
 have v:au (t++R) 0=au t 0:=er _ _ _ w
 by_cases i:au t 0=48/\au t (0+1)=39
 ·have I:=dK t (0+1)
  have j:1<t.length:=by omega
  unfold jh at c e |-
  rw [if_pos i] at c e |-
  rw [v,er _ _ _ (by omega),if_pos i,de (by omega)]
  cases hq:cy (t.drop (0+2)) 39 with
  | none=>rw [hq] at c;exact absurd c (by show ¬(7:Int)=0;decide)
  | some ck=>rw [qC _ _ _ _ _ (by decide) hq]
 by_cases n:0<cd t 0/\0<bW (bY (cd t 0)) (t.drop (0+2))
 ·have j:2<t.length:=by have:=fD (bY (cd t 0)) (t.drop (0+2));rw [aI] at this;omega
  obtain ⟨b,y,B⟩:=zu t n.1
  have f:(intR (cd t 0) ((t.drop (0+2)).take (bW (bY (cd t 0)) (t.drop (0+2)))) ((0:Nat):Int) ((0:Nat)+2+bW (bY (cd t 0)) (t.drop (0+2))))=jh t t 0:=by
   unfold jh;rw [if_neg i,if_pos n]
  rw [<-f] at c e
  have l:bW (bY (cd t 0)) (t.drop (0+2))=(t.drop (0+2)).length:=by
   rw [(rn _ _ _ _ c).2] at e;rw [aI];omega
  have g:=ny _ _ l
  have D:0<(t.drop (0+2)).length:=by rw [aI];omega
  have p:=mh _ _ g D
  rw [tw t (0+2) (by omega),B] at p
  have q:=yi b y _ (r.a (qh b y _ p))
  rw [<-B] at q
  have u:=mK _ _ R g q
  rw [<-f]
  unfold jh
  rw [v,er _ _ _ (show 0+1<t.length by omega),if_neg i,xJ t R (by omega),de (by omega),u,if_pos ⟨n.1,D⟩,List.take_left,l,dk]
 ·have f:intR 10 ((t.drop 0).take (bW (bY 10) (t.drop 0))) ((0:Nat):Int) ((0:Nat)+bW (bY 10) (t.drop 0))=jh t t 0:=by
   unfold jh;rw [if_neg i,if_neg n]
  rw [<-f] at c e
  simp only [cH] at c e f
  have l:bW (bY 10) t=t.length:=by
   rw [(rn _ _ _ _ c).2] at e;omega
  have g:=ny _ _ l
  have p:=mh _ _ g w
  have A:sd 10:=.inr (.inr (.inl rfl))
  have E:=qh 10 A _ p
  have s:=r.a E
  have q:=yi 10 A _ s
  have u:bW (bY 10) (t++R)=t.length:=mK _ _ R g q
  have C:=fun k F=>FD t g k F
  have G:¬(au (t++R) 0=48/\au (t++R) (0+1)=39):=by
   rintro ⟨m,d⟩
   by_cases j:1<t.length
   ·have:=C 1 j
    rw [er _ _ _ (by omega)] at d
    rw [ap] at d;omega
   ·have o:t.length=1:=by omega
    have:=mO t R
    rw [o] at this
    rw [ap,this] at d
    rw [v] at m
    exact r.z (nC t o 48 m) d
  have H:cd (t++R) 0=0:=by
   unfold cd
   by_cases m:au (t++R) 0=48
   ·rw [if_pos m]
    have d:¬(au (t++R) (0+1)=120)/\¬(au (t++R) (0+1)=111)/\¬(au (t++R) (0+1)=98):=by
     by_cases j:1<t.length
     ·have:=C 1 j
      rw [er _ _ _ (by omega)]
      rw [ap];omega
     ·have o:t.length=1:=by omega
      have x:=mO t R
      rw [o] at x
      rw [ap,x]
      refine ⟨fun h=>?_,fun h=>?_,fun h=>?_⟩ <;> (rw [h] at s;exact absurd s (by decide +kernel))
    rw [if_neg d.1,if_neg d.2.1,if_neg d.2.2]
   ·rw [if_neg m]
  rw [<-f]
  unfold jh
  rw [if_neg G,H,if_neg (fun h=>absurd h.1 (by decide))]
  simp only [cH,u,l,List.take_left,dk]
theorem Dx (t R:List UInt8) (z:0<t.length) (b:(cj t t 0).err=0) (d:¬(cj t t 0).kind=7) (c:(cj t t 0).end_=t.length) (m:NoGlue t R):cj (t++R) (t++R) 0=cj t t 0:=by
 have i:au (t++R) 0=au t 0:=er _ _ _ z
 unfold cj at b d c |-
 by_cases a0:au t 0=47/\au t (0+1)=42
 ·rw [if_pos a0] at b;exact absurd b (by decide)
 rw [if_neg a0] at b d c |-
 have I:¬(au (t++R) 0=47/\au (t++R) (0+1)=42):=by
  rintro ⟨f,g⟩
  rw [i] at f
  by_cases A:1<t.length
  ·rw [er _ _ _ (by omega)] at g;exact a0 ⟨f,g⟩
  ·have F:t.length=1:=by omega
   have D:=mO t R
   rw [F] at D
   rw [ap,D] at g
   have l:=m.s
   rw [F,f,g] at l
   exact absurd (l (by decide +kernel)) (by decide +kernel)
 rw [if_neg I,i]
 by_cases p:cls (au t 0)=2\/cls (au t 0)=3
 ·rw [if_pos p] at b d c |-
  rw [if_pos p]
  unfold nO at b c |-
  simp only [cH] at b c |-
  have o:bW dw t=t.length:=by rw [(gM _ _ _ _ b).2.1] at c;omega
  have n:=ny _ _ o
  have C:=mK _ _ R n (m.a (mh _ _ n z))
  rw [i,C,o,List.take_left,dk]
 rw [if_neg p] at b d c |-
 rw [if_neg p]
 by_cases r:cls (au t 0)=4
 ·rw [if_pos r] at b d c |-
  rw [if_pos r]
  exact EN t R z b c m
 rw [if_neg r] at b d c |-
 rw [if_neg r]
 by_cases u:cls (au t 0)=5
 ·rw [if_pos u] at b d c |-
  rw [if_pos u]
  by_cases w:au t 0=46/\jb (au t (0+1))=true
  ·unfold mC at d;rw [if_pos w] at d;exact absurd rfl d
  have K:dz 1 (t.take (bW db t)) ((0:Nat):Int) ((0:Nat)+bW db t)=mC t 0:=by unfold mC;rw [if_neg w];simp only [cH]
  rw [<-K] at b c |-
  have o:bW db t=t.length:=by rw [(gM _ _ _ _ b).2.1] at c;omega
  have n:=ny _ _ o
  have C:=mK _ _ R n (m.s (mh _ _ n z))
  have J:¬(au (t++R) 0=46/\jb (au (t++R) (0+1))=true):=by
   rintro ⟨f,g⟩
   rw [i] at f
   by_cases A:1<t.length
   ·rw [er _ _ _ (by omega)] at g;exact w ⟨f,g⟩
   ·exact w ⟨f,by rw [jN _ _ (by omega)];decide +kernel⟩
  unfold mC
  rw [if_neg J]
  simp only [cH]
  rw [C,o,List.take_left,dk]
 rw [if_neg u] at b d c |-
 rw [if_neg u]
 by_cases v:cls (au t 0)=6
 ·rw [if_pos v] at b d c |-
  rw [if_pos v]
  unfold qx at b c |-
  simp only [cH] at b c |-
  have A:1=t.length:=by rw [(gM _ _ _ _ b).2.1] at c;omega
  rw [i,A,List.take_left,dk]
 rw [if_neg v] at b d c |-
 rw [if_neg v]
 by_cases B:cls (au t 0)=7
 ·rw [if_pos B] at b d c |-
  rw [if_pos B]
  have M:(t++R).drop (0+1)=t.drop (0+1)++R:=de (by omega)
  have H:∀q:Int,(q=34\/q=39)->au t 0=q->∀s k,ko (t.drop (0+1)) q=some (s,k)->k+1+1=t.length->ko ((t++R).drop (0+1)) q=some (s,k):=by
   intro q N O s k e A
   have G:0<=q/\q<=255:=by omega
   have l:=pY q G _ _ _ _ e
   rw [bT] at l
   have E:au t (t.length-1)=q:=by rw [<-l];congr 1;omega
   have L:¬au R 0=q:=fun h=>m.q (by rw [E];rcases N with rfl|rfl <;> decide +kernel) (by rw [E,h])
   rw [M]
   exact Fc q G R L _ _ rfl s k e (by rw [aI];omega)
  unfold gY at b c |-
  rw [i]
  by_cases j:au t 0=34
  ·rw [if_pos j] at b c |-
   rw [if_pos j]
   cases e:ko (t.drop (0+1)) 34 with
   | none=>rw [e] at b;exact absurd b (by show ¬(7:Int)=0;decide)
   | some x=>
    obtain ⟨s,k⟩:=x
    rw [e] at c
    rw [H 34 (.inl rfl) j s k e (by have:((0:Nat):Int)+1+(k:Int)+1=t.length:=c;omega)]
  rw [if_neg j] at b c |-
  rw [if_neg j]
  by_cases y:au t 0=39
  ·rw [if_pos y] at b c |-
   rw [if_pos y]
   cases e:ko (t.drop (0+1)) 39 with
   | none=>rw [e] at b;exact absurd b (by show ¬(7:Int)=0;decide)
   | some x=>
    obtain ⟨s,k⟩:=x
    rw [e] at b c
    have:((0:Nat):Int)+1+(k:Int)+1=t.length:=by rw [<-c];exact (gM _ _ _ _ b).2.1.symm
    rw [H 39 (.inr rfl) y s k e (by omega)]
  ·rw [if_neg y] at b;exact absurd b (by decide)
 ·rw [if_neg B] at b;exact absurd b (by decide)
theorem BK (t R:List UInt8) (c:0<t.length) (b:bL t=0) (e:(cj t t 0).err=0) (k:NoGlue t R):bL (t++R)=0:=by
 have o:au (t++R) 0=au t 0:=er _ _ _ c
 have m:t.isEmpty=false:=by cases t with | nil=>simp at c | cons=>rfl
 have n:(t++R).isEmpty=false:=by cases t with | nil=>simp at c | cons=>rfl
 rw [lE,n,if_neg (by decide),o]
 rw [lE,m,if_neg (by decide)] at b
 by_cases f:cls (au t 0)=1
 ·rw [if_pos f] at b;omega
 rw [if_neg f] at b |-
 by_cases d:au t 0=37
 ·rw [if_pos d] at b
  have:=kH gF t c (by rw [d];rfl)
  omega
 rw [if_neg d] at b |-
 by_cases a:au t 0=47/\au (t++R) 1=42
 ·by_cases l:1<t.length
  ·have j:au t 0=47/\au t 1=42:=⟨a.1,by rw [<-er t R 1 l];exact a.2⟩
   unfold cj at e
   rw [if_pos j] at e;exact absurd e (by decide)
  ·have i:t.length=1:=by omega
   have g:=mO t R
   rw [i] at g
   have h:=k.s
   rw [i,a.1,<-g,a.2] at h
   exact absurd (h (by decide +kernel)) (by decide +kernel)
 ·rw [if_neg a]
structure TokText (t:List UInt8):Prop where
 pos:0<t.length
 skip:bL t=0
 err:(cj t t 0).err=0
 kind:¬(cj t t 0).kind=7
 fin:(cj t t 0).end_=t.length
theorem sJ (t u:List UInt8) (i:0<t.length) (j:0<u.length) (h:eo t u=false) (R:List UInt8) (e:au R 0=au u 0):NoGlue t R:=by
 have f:t.isEmpty=false:=by cases t with | nil=>simp at i | cons=>rfl
 have g:u.isEmpty=false:=by cases u with | nil=>simp at j | cons=>rfl
 unfold eo at h
 rw [f,g] at h
 simp only [Bool.not_false,di,Bool.or_eq_false_iff,Bool.and_eq_false_iff] at h
 obtain ⟨c,d,a,b⟩:=h
 refine ⟨fun x=>?_,fun x=>?_,fun x y=>?_,fun x y=>?_⟩
 ·rw [e];rcases c with c | c
  ·rw [x] at c;cases c
  ·exact c
 ·rw [e];rcases d with d | d
  ·rw [x] at d;cases d
  ·exact d
 ·rw [e] at y
  rcases a with a | a
  ·rw [y] at a;simp at a
  ·rw [x] at a;simp at a
 ·rw [e] at y
  rcases b with b | b
  ·rw [x] at b;simp at b
  ·rw [y] at b;simp at b
theorem sI (t R:List UInt8) (b:au R 0=32):NoGlue t R where
 a:=fun _=>by rw [b];decide +kernel
 s:=fun _=>by rw [b];decide +kernel
 q:=fun h e=>by rw [e,b] at h;exact absurd h (by decide +kernel)
 z:=fun _=>by rw [b];decide
theorem Aw (x:List UInt8):bL (32::x)=1+bL x:=by
 rw [lE,cU]
 simp only [List.isEmpty_cons,Bool.false_eq_true,if_false]
 rw [if_pos (by decide +kernel)];rfl
theorem re (n:Int) (r:LexR) (h:r.err=0):tV n r=⟨r.kind,r.text,r.n,r.at_+n,r.end_+n,0⟩:=by unfold tV;rw [if_pos h]
theorem EP (b a t R:List UInt8) (j:a=[]\/a=[32]) (c:TokText t) (e:NoGlue t R) :
  bt (b++(a++(t++R))) (b++(a++(t++R))) b.length=⟨tV ((b.length+a.length:Nat):Int) (cj t t 0),decide (0<a.length),0⟩:=by
 have d:=BK t R c.pos c.skip c.err e
 have f:=Dx t R c.pos c.err c.kind c.fin e
 have g:bL ((b++(a++(t++R))).drop b.length)=a.length:=by
  rw [List.drop_left]
  rcases j with rfl|rfl
  ·exact d
  ·show bL (32::(t++R))=1
   rw [Aw,d]
 have h:cj (b++(a++(t++R))) (b++(a++(t++R))) (b.length+a.length)=tV ((b.length+a.length:Nat):Int) (cj t t 0):=by
  have:=An (b++a) (t++R) 0
  rw [f,aC,bq,bG] at this
  exact this
 have i:(tV ((b.length+a.length:Nat):Int) (cj t t 0)).err=0:=by rw [re _ _ c.err]
 have k:=c.pos
 unfold bt
 simp only [g]
 rw [h,if_neg (by simp only [aC];omega),if_pos i]
 congr 1
 rw [decide_eq_decide];omega
theorem zg (s:List UInt8) (d:ln s=true) (f:¬s=[91,93]) (g:¬s=[123,125]):TokText s/\cj s s 0=⟨1,s,0,0,s.length,0⟩:=by
 rw [ud] at d
 rcases d with (h | h) | ⟨i,h⟩
 ·exact absurd h f
 ·exact absurd h g
 have b:0<s.length:=by
  rcases h with (rfl|rfl) | ⟨_,h⟩ | ⟨h,_⟩
  ·decide
  ·decide
  ·cases s with
   | nil=>exact absurd h (by decide +kernel)
   | cons=>simp
  ·exact h
 have c:(s=[33]\/s=[59])\/((fc dw s=true/\cls (au s 0)=2)\/(fc db s=true/\¬s=[46]/\¬s.take 2=[47,42])):=by
  rcases h with h | h | ⟨_,h⟩
  ·exact .inl h
  ·exact .inr (.inl h)
  ·exact .inr (.inr h)
 have a:=(Bq s b).2 ⟨i,c⟩
 refine ⟨⟨b,zh s b ?_,by rw [a],by rw [a];show ¬(1:Int)=7;decide,by rw [a]⟩,a⟩
 rcases c with h | h | ⟨h,_,e⟩
 ·exact .inl h
 ·exact .inr (.inl h)
 ·exact .inr (.inr ⟨h,e⟩)
abbrev CI:=Bool×List UInt8
def je (s:Bool):List UInt8:=if s=true then [32] else []
theorem BH (s:Bool):je s=[]\/je s=[32]:=by cases s <;> simp [je]
def fi:List CI->List UInt8
 | []=>[]
 | x::l=>je x.1++(x.2++fi l)
def iS:Nat->List CI->List NextR
 | _,[]=>[]
 | a,x::l=>⟨tV ((a+(je x.1).length:Nat):Int) (cj x.2 x.2 0),x.1,0⟩::iS (a+(je x.1).length+x.2.length) l
def mE (a:Nat) (s:Bool):NextR:=⟨⟨7,[46],0,(a+(je s).length:Nat),(a+(je s).length:Nat)+1,0⟩,s,0⟩
def Chn:List CI->Bool->Prop
 | [],_=>True
 | [x],s=>s=false->eo x.2 [46]=false
 | x::y::l,s=>(y.1=false->eo x.2 y.2=false)/\Chn (y::l) s
theorem Chn.tl {x:CI} {l:List CI} {s:Bool} (h:Chn (x::l) s):Chn l s:=by
 cases l with
 | nil=>trivial
 | cons y l=>exact h.2
structure DotOk (R:List UInt8):Prop where
 tok:cj (46::R) (46::R) 0=⟨7,[46],0,0,1,0⟩
 skip:bL (46::R)=0
theorem CJ:DotOk []:=⟨rfl,by decide +kernel⟩
theorem Fw:DotOk [10]:=⟨rfl,by decide +kernel⟩
theorem FI {R:List UInt8} {x:CI}:∀{l:List CI} {s:Bool},(∀y∈x::l,TokText y.2)->Chn (x::l) s->NoGlue x.2 (fi l++(je s++46::R))
 | [],s,hT,h=>by
  cases s
  ·exact sJ x.2 [46] (hT x (aY ..)).pos (by decide) (h rfl) _ rfl
  ·exact sI _ _ rfl
 | y::l,s,hT,h=>by
  rcases y with ⟨b,t⟩
  cases b
  ·have a:=(hT (false,t) (ba _ (aY ..))).pos
   refine sJ x.2 t (hT x (aY ..)).pos a (h.1 rfl) _ ?_
   show au ((t++fi l)++_) 0=au t 0
   rw [bG,er _ _ _ a]
  ·exact sI _ _ rfl
theorem Cr {R:List UInt8} (b:DotOk R) (a:List UInt8) (s:Bool):bt (a++(je s++46::R)) (a++(je s++46::R)) a.length=mE a.length s:=by
 have c:bL ((a++(je s++46::R)).drop a.length)=(je s).length:=by
  rw [List.drop_left]
  cases s
  ·exact b.skip
  ·show bL (32::(46::R))=1
   rw [Aw,b.skip]
 have d:cj (a++(je s++46::R)) (a++(je s++46::R)) (a.length+(je s).length)=⟨7,[46],0,(a.length+(je s).length:Nat),(a.length+(je s).length:Nat)+1,0⟩:=by
  have:=An (a++je s) (46::R) 0
  rw [b.tok,re _ _ rfl,aC,bG,bq] at this
  refine this.trans ?_
  simp;omega
 unfold bt
 simp only [c]
 rw [d,if_neg (by simp only [aC,be];omega),if_pos rfl]
 unfold mE
 congr 1
 cases s
 ·simp [je]
 ·simp [je]
theorem FQ {R:List UInt8} (g:DotOk R):∀(l:List CI) (s:Bool) (a:List UInt8) (b:List NextR) (f:Nat),(∀x∈l,TokText x.2)->Chn l s->l.length<f ->
  qq f (a++(fi l++(je s++46::R))) (a++(fi l++(je s++46::R))) a.length b=⟨b++(iS a.length l++[mE (a.length+(fi l).length) s]),0,0⟩
 | [],s,a,b,0,_,_,h=>absurd h (by simp)
 | [],s,a,b,f+1,_,_,_=>by
  rw [fi,am,lV,Cr g]
  rw [if_neg (by unfold mE;simp),if_neg (by unfold mE;simp),if_pos (show (mE a.length s).r.kind=7 from rfl)]
  rfl
 | x::l,s,a,b,0,_,_,h=>absurd h (by simp)
 | x::l,s,a,b,f+1,hT,hC,hf=>by
  have c:=hT x (aY ..)
  have o:=FI (R:=R) hT hC
  have e:a++(fi (x::l)++(je s++46::R))=a++(je x.1++(x.2++(fi l++(je s++46::R)))):=by
   rw [fi];simp only [bG]
  have j:a++(fi (x::l)++(je s++46::R))=(a++je x.1++x.2)++(fi l++(je s++46::R)):=by
   rw [e];simp only [bG]
  have d:=EP a (je x.1) x.2 _ (BH x.1) c o
  rw [<-e] at d
  have hd:decide (0<(je x.1).length)=x.1:=by cases x.1 <;> simp [je]
  rw [hd] at d
  have i:=re ((a.length+(je x.1).length:Nat):Int) (cj x.2 x.2 0) c.err
  rw [lV,d,i]
  simp only []
  rw [if_neg (by simp),if_neg (by simp),if_neg c.kind]
  have k:((cj x.2 x.2 0).end_+((a.length+(je x.1).length:Nat):Int)).toNat=(a++je x.1++x.2).length:=by
   rw [c.fin];simp only [aC];omega
  rw [k,j,FQ g l s (a++je x.1++x.2) _ f (fun u p=>hT u (ba _ p)) hC.tl (by simpa using hf)]
  have m:(a++je x.1++x.2).length=a.length+(je x.1).length+x.2.length:=by simp only [aC]
  have n:a.length+(je x.1).length+x.2.length+(fi l).length=a.length+(fi (x::l)).length:=by
   rw [fi];simp only [aC];omega
  rw [iS,i,m,n]
  simp
theorem uv:∀(l:List CI),(∀x∈l,TokText x.2)->l.length<=(fi l).length
 | [],_=>by simp [fi]
 | x::l,h=>by
  have b:=(h x (aY ..)).pos
  have c:=uv l fun u a=>h u (ba _ a)
  rw [fi,aC,aC,be];omega
theorem Ip {R:List UInt8} (c:DotOk R) (l:List CI) (s:Bool) (a:∀x∈l,TokText x.2) (b:Chn l s) :
  oD (fi l++(je s++46::R)) (fi l++(je s++46::R)) 0=⟨iS 0 l++[mE (fi l).length s],0,0⟩:=by
 have d:=uv l a
 have:=FQ c l s [] [] ((fi l++(je s++46::R)).length+1) a b (by rw [aC];simp;omega)
 simp only [am,List.length_nil,ap] at this
 exact this
end Hb
namespace Hb
open Go
theorem Fz:∀d:Nat,d<10->(UInt8.ofNat (48+d)).toNat=48+d/\bY 10 ((UInt8.ofNat (48+d)).toNat:Int)=true/\(nL ((UInt8.ofNat (48+d)).toNat:Int) 10).toNat=d:=by decide +kernel
def qL (b:UInt8):Prop:=48<=b.toNat/\b.toNat<=57/\bY 10 (b.toNat:Int)=true
theorem ne (u:Nat):cL 10 (aP u)=u/\(∀b∈aP u,qL b)/\0<(aP u).length:=by
 induction u using Nat.strongRecOn with
 | _ u ih=>
  rw [aP]
  by_cases h:u<10
  ·obtain ⟨e,c,d⟩:=Fz u h
   rw [dif_pos h]
   refine ⟨?_,?_,by simp⟩
   ·rw [<-am [UInt8.ofNat (48+u)],oo,d];simp [cL]
   ·intro b a
    rw [aJ] at a;subst a
    exact ⟨by omega,by omega,c⟩
  ·obtain ⟨e,c,d⟩:=Fz (u % 10) (Nat.mod_lt _ (by decide))
   obtain ⟨f,g,i⟩:=ih (u / 10) (by omega)
   rw [dif_neg h]
   refine ⟨?_,?_,by simp⟩
   ·rw [oo,d,f]
    show u / 10 * 10+u % 10=u
    omega
   ·intro b a
    rcases dl.1 a with a | a
    ·exact g b a
    ·rw [aJ] at a;subst a
     exact ⟨by omega,by omega,c⟩
theorem wT (q:Int->Bool) (rest:List UInt8) (a:q (au rest 0)=false):∀ds:List UInt8,(∀b∈ds,q (b.toNat:Int)=true)->bW q (ds++rest)=ds.length
 | [],_=>by
  match rest,a with
  | [],_=>rfl
  | b::l,a=>
   rw [cU] at a
   rw [am,bW,a];rfl
 | b::ds,h=>by
  rw [ai,bW,if_pos (h b (aY ..)),wT q rest a ds fun x c=>h x (ba _ c)]
  rfl
theorem xm {T X:List UInt8} {p:Nat} (D:T.drop p=X) (j:Nat):au T (p+j)=au X j:=by rw [<-D,bT]
theorem FF:∀n:Nat,n<58->48<=n->cls (n:Int)=4:=by decide +kernel
def FS (rest:List UInt8):Prop:=bY 10 (au rest 0)=false/\¬au rest 0=39/\¬au rest 0=120/\¬au rest 0=111/\¬au rest 0=98
theorem Cp:FS []:=by
 have h:au [] 0=-1:=jN _ _ (by simp)
 unfold FS
 rw [h]
 exact ⟨qa 10,by decide,by decide,by decide,by decide⟩
theorem Gh {T ds rest:List UInt8} {p:Nat} (D:T.drop p=ds++rest) (g:0<ds.length) (hd:∀b∈ds,qL b) (e:FS rest):cj T T p=intR 10 ds p (p+ds.length)/\cls (au T p)=4:=by
 obtain ⟨b,ds',rfl⟩:∃b ds',ds=b::ds':=by cases ds with
  | nil=>simp at g
  | cons b ds'=>exact ⟨b,ds',rfl⟩
 have j:=hd b (aY ..)
 have f:au T p=(b.toNat:Int):=by
  have:=xm D 0
  rw [ai,cU] at this
  exact this
 have n:au T (p+1)=au (ds'++rest) 0:=by
  rw [xm D 1,ai,fs]
 have a:¬au T (p+1)=39/\¬au T (p+1)=120/\¬au T (p+1)=111/\¬au T (p+1)=98:=by
  rw [n]
  cases ds' with
  | nil=>rw [am];exact e.2
  | cons x l=>
   have c:=hd x (ba _ (aY ..))
   rw [ai,cU]
   unfold qL at c
   refine ⟨?_,?_,?_,?_⟩ <;> omega
 have k:=j
 unfold qL at k
 have d:cls (b.toNat:Int)=4:=FF _ (by omega) (by omega)
 have i:cd T p=0:=by
  unfold cd
  split
  ·rw [if_neg a.2.1,if_neg a.2.2.1,if_neg a.2.2.2]
  ·rfl
 have m:bW (bY 10) (T.drop p)=(b::ds').length:=by rw [D];exact wT _ _ e.1 _ fun x c=>(hd x c).2.2
 refine ⟨?_,by rw [f];exact d⟩
 unfold cj
 rw [f,if_neg (fun h=>by omega),d,if_neg (by decide),if_pos rfl]
 unfold jh
 rw [if_neg (fun h=>a.1 h.2),i,if_neg (fun h=>absurd h.1 (by decide)),m,D,List.take_left]
theorem rK {X:List UInt8} (b:¬cls (au X 0)=1) (c:¬au X 0=37) (d:¬au X 0=47):bL X=0:=by
 rw [lE]
 by_cases a:X.isEmpty=true
 ·rw [if_pos a]
 ·rw [if_neg a,if_neg b,if_neg c,if_neg (fun h=>d h.1)]
theorem Hj (ds:List UInt8) (u:Nat) (p e:Int) (h:cL 10 ds=u) (a:u<=9223372036854775808):Hb.intR 10 ds p e=⟨4,[],if u=9223372036854775808 then -9223372036854775808 else u,p,e,0⟩:=by
 unfold Hb.intR
 rw [h,if_pos a]
theorem FB (u:Nat) (k:u<=9223372036854775808):TokText (aP u)/\cj (aP u) (aP u) 0=⟨4,[],if u=9223372036854775808 then -9223372036854775808 else u,0,(aP u).length,0⟩:=by
 obtain ⟨g,e,a⟩:=ne u
 obtain ⟨h,i⟩:=Gh (T:=aP u) (ds:=aP u) (rest:=[]) (p:=0) (by simp) a e Cp
 have c:cj (aP u) (aP u) 0=⟨4,[],if u=9223372036854775808 then -9223372036854775808 else u,0,(aP u).length,0⟩:=by
  rw [h,Hj _ u _ _ g k];simp
 have hd:∃b l,aP u=b::l/\qL b:=by
  cases d:aP u with
  | nil=>rw [d] at a;simp at a
  | cons b l=>exact ⟨b,l,rfl,e b (by rw [d];exact aY ..)⟩
 obtain ⟨b,l,d,j⟩:=hd
 have f:au (aP u) 0=(b.toNat:Int):=by rw [d,cU]
 unfold qL at j
 refine ⟨⟨a,rK ?_ ?_ ?_,by rw [c],by rw [c];show ¬(4:Int)=7;decide,by rw [c]⟩,c⟩
 ·rw [i];decide
 ·rw [f];omega
 ·rw [f];omega
end Hb
namespace Hb
def ji:List UInt8->Bool
 | a::d::_=>a==45&&(decide (48<=d.toNat)&&decide (d.toNat<=57))
 | _=>false
def eB (p:List UInt8):List (List UInt8) :=
 if p=[91,93] then [[91],[93]] else if p=[123,125] then [[123],[125]] else if ji p=true then [[45],p.drop 1] else [p]
def iw (s:Bool) (p:List UInt8):List CI:=match eB p with | []=>[] | t::l=>(s,t)::l.map fun u=>(false,u)
def iQ:List UInt8->Bool->List (List UInt8)->List CI
 | _,_,[]=>[]
 | prev,sp,p::l=>if p=[32] then iQ [] true l else iw (sp||eo prev p) p++iQ p false l
theorem xN {p:List UInt8} (h:ji p=true):∃d l,p=45::d::l/\48<=d.toNat/\d.toNat<=57:=by
 match p,h with
 | a::d::l,h=>
  unfold ji at h
  simp only [aE,beq_iff_eq,decide_eq_true_iff] at h
  exact ⟨d,l,by rw [h.1],h.2.1,h.2.2⟩
theorem la (p:List UInt8):(p=[91,93]/\eB p=[[91],[93]])\/(p=[123,125]/\eB p=[[123],[125]])\/(ji p=true/\∃d l,p=45::d::l/\48<=d.toNat/\d.toNat<=57/\eB p=[[45],d::l])\/(eB p=[p]/\ji p=false/\¬p=[91,93]/\¬p=[123,125]):=by
 unfold eB
 by_cases b:p=[91,93]
 ·exact .inl ⟨b,by rw [if_pos b]⟩
 ·rw [if_neg b]
  by_cases c:p=[123,125]
  ·exact .inr (.inl ⟨c,by rw [if_pos c]⟩)
  ·rw [if_neg c]
   by_cases a:ji p=true
   ·obtain ⟨d,l,rfl,e,f⟩:=xN a
    exact .inr (.inr (.inl ⟨a,d,l,rfl,e,f,by rw [if_pos a];rfl⟩))
   ·exact .inr (.inr (.inr ⟨by rw [if_neg a],by simpa using a,b,c⟩))
theorem yN (p:List UInt8):(eB p).flatten=p:=by
 rcases la p with ⟨rfl,e⟩ | ⟨rfl,e⟩ | ⟨_,d,l,rfl,_,_,e⟩ | ⟨e,_⟩ <;> rw [e] <;> simp
theorem wQ (p:List UInt8):¬eB p=[]:=by
 rcases la p with ⟨rfl,e⟩ | ⟨rfl,e⟩ | ⟨_,d,l,rfl,_,_,e⟩ | ⟨e,_⟩ <;> rw [e] <;> simp
theorem qi:∀(a b:List CI),fi (a++b)=fi a++fi b
 | [],b=>rfl
 | x::a,b=>by rw [ai,fi,fi,qi a b];simp only [bG]
theorem uw:∀l:List (List UInt8),fi (l.map fun u=>((false,u):CI))=l.flatten
 | []=>rfl
 | x::l=>by rw [List.map_cons,fi,uw l];simp [je]
theorem sy (s:Bool) (p:List UInt8):fi (iw s p)=je s++p:=by
 have h:=yN p
 have a:=wQ p
 unfold iw
 cases hs:eB p with
 | nil=>exact absurd hs a
 | cons t l=>
  rw [hs] at h
  simp only
  rw [fi,uw]
  rw [<-h];simp
def qr:List (List UInt8)->Prop
 | []=>True
 | p::l=>(p=[32]->∃q r,l=q::r/\¬q=[32])/\qr l
theorem Cz (a:List UInt8):eo a [32]=false:=by
 unfold eo
 have b:dw (au [32] 0)=false:=by decide +kernel
 have c:db (au [32] 0)=false:=by decide +kernel
 have d:(au [32] 0==39)=false:=by decide +kernel
 rw [b,c,d]
 simp only [Bool.and_false,Bool.false_or,Bool.or_false]
 have:(au a (a.length-1)==au [32] 0&&cls (au a (a.length-1))==7)=false:=by
  cases hb:(au a (a.length-1)==au [32] 0)
  ·rfl
  ·rw [beq_iff_eq] at hb
   rw [hb];decide +kernel
 rw [this];simp
theorem CB (b:List UInt8):eo [32] b=false:=by
 unfold eo
 have a:dw (au [32] (([32]:List UInt8).length-1))=false:=by decide +kernel
 have c:db (au [32] (([32]:List UInt8).length-1))=false:=by decide +kernel
 have d:(cls (au [32] (([32]:List UInt8).length-1))==7)=false:=by decide +kernel
 have e:(([32]:List UInt8)==[48])=false:=by decide +kernel
 rw [a,c,d,e]
 simp
theorem uR (a b:List UInt8):lf a b=je (eo a b):=rfl
theorem px:∀(l:List (List UInt8)) (b:List UInt8),qr l->fi (iQ b false l)=eV b l
 | [],_,_=>rfl
 | p::l,b,h=>by
  rw [iQ,eV]
  by_cases a:p=[32]
  ·rw [if_pos a]
   obtain ⟨q,r,rfl,c⟩:=h.1 a
   subst a
   rw [iQ,if_neg c,qi,sy,px r q h.2.2,eV,uR,uR,Cz,CB]
   simp [je]
  ·rw [if_neg a,qi,sy,px l p h.2,uR]
   simp
theorem vV:∀(a b:List (List UInt8)) (d:List UInt8) (e:Bool),¬a=[]->iQ d e (a++b)=iQ d e a++(if a.getLast? = some [32] then iQ [] true b else iQ (a.getLast?.getD []) false b)
 | [],_,_,_,h=>absurd rfl h
 | [p],b,d,e,_=>by
  rw [List.singleton_append,iQ,iQ]
  by_cases c:p=[32]
  ·rw [if_pos c,if_pos c,if_pos (by rw [c];rfl)];simp [iQ]
  ·rw [if_neg c,if_neg c,if_neg (by simpa using c)];simp [iQ]
 | p::q::a,b,d,e,_=>by
  rw [ai,iQ,iQ]
  have f:=fun d e=>vV (q::a) b d e (by simp)
  rw [List.getLast?_cons_cons]
  by_cases c:p=[32]
  ·rw [if_pos c,if_pos c,f]
  ·rw [if_neg c,if_neg c,f];simp only [bG]
structure PcOk (p:List UInt8):Prop where
 pos:0<p.length
 tok:∀t∈eB p,TokText t
 nz:¬p=[45,48]
 sp:¬p=[32]
theorem oy {a c b d:List UInt8} (h:eo a b=false) (l:0<a.length) (m:0<b.length) (g:au c (c.length-1)=au a (a.length-1)) (i:au d 0=au b 0) (j:c=[48]->a=[48]):eo c d=false:=by
 have e:a.isEmpty=false:=by cases a with | nil=>simp at l | cons=>rfl
 have f:b.isEmpty=false:=by cases b with | nil=>simp at m | cons=>rfl
 unfold eo at h |-
 rw [e,f] at h
 simp only [Bool.not_false,di] at h
 rw [g,i]
 have k:(c==[48]&&au b 0==39)=true->(a==[48]&&au b 0==39)=true:=fun h=>by
  rw [aE,beq_iff_eq] at h |-
  exact ⟨j h.1,h.2⟩
 cases hq:(c==[48]&&au b 0==39)
 ·simp only [Bool.or_eq_false_iff] at h
  rw [h.1,h.2.1,h.2.2.1]
  simp
 ·rw [k hq] at h
  simp at h
theorem vt (a b:List UInt8) (c:0<b.length):au (a++b) ((a++b).length-1)=au b (b.length-1):=by
 have h:(a++b).length-1=a.length+(b.length-1):=by rw [aC];omega
 rw [h,<-bT,List.drop_left]
theorem kZ (p:List UInt8):∃t l,eB p=t::l/\au t 0=au p 0:=by
 rcases la p with ⟨rfl,e⟩ | ⟨rfl,e⟩ | ⟨_,d,l,rfl,_,_,e⟩ | ⟨e,_⟩
 ·exact ⟨_,_,e,rfl⟩
 ·exact ⟨_,_,e,rfl⟩
 ·exact ⟨_,_,e,by rw [cU,cU]⟩
 ·exact ⟨_,_,e,rfl⟩
theorem CW {p:List UInt8}:∀{l:List (List UInt8)},¬l=[]->qr l->∃y r,iQ p false l=y::r/\(y.1=true\/∃q l',l=q::l'/\y.1=eo p q/\au y.2 0=au q 0)
 | [],h,_=>absurd rfl h
 | q::l,_,hs=>by
  by_cases a:q=[32]
  ·obtain ⟨u,r,rfl,d⟩:=hs.1 a
   obtain ⟨t,k,b,_⟩:=kZ u
   rw [iQ,if_pos a,iQ,if_neg d]
   unfold iw
   rw [b]
   exact ⟨_,_,rfl,.inl rfl⟩
  ·obtain ⟨t,k,b,c⟩:=kZ q
   rw [iQ,if_neg a]
   unfold iw
   rw [b]
   exact ⟨_,_,rfl,.inr ⟨q,l,rfl,rfl,c⟩⟩
theorem EQ (d:UInt8) (l:List UInt8) (h:48<=d.toNat/\d.toNat<=57):eo [45] (d::l)=false:=by
 have a:∀n:Nat,n<58->48<=n->eo [45] [n.toUInt8]=false:=by decide +kernel
 have:=a d.toNat (by omega) h.1
 refine oy this (by simp) (by simp) rfl ?_ (fun h=>h)
 rw [cU,cU];simp
theorem FJ {x:CI} {l:List CI} {s:Bool} (a:l=[]->s=false->eo x.2 [46]=false) (b:∀y r,l=y::r->y.1=false->eo x.2 y.2=false) (c:Chn l s):Chn (x::l) s:=by
 cases l with
 | nil=>exact a rfl
 | cons y r=>exact ⟨b y r rfl,c⟩
theorem yt {p:List UInt8} {e:Bool} {l:List (List UInt8)} (c:qr l) (h:iQ p e l=[]):l=[]:=by
 cases l with
 | nil=>rfl
 | cons q l=>
  exfalso
  by_cases a:q=[32]
  ·obtain ⟨u,r,rfl,d⟩:=c.1 a
   obtain ⟨t,k,b,_⟩:=kZ u
   rw [iQ,if_pos a,iQ,if_neg d] at h
   unfold iw at h
   rw [b] at h
   cases h
  ·obtain ⟨t,k,b,f⟩:=kZ q
   rw [iQ,if_neg a] at h
   unfold iw at h
   rw [b] at h
   cases h
theorem vU:∀(l:List (List UInt8)) (w:List UInt8) (x s:Bool),(∀p∈l,p=[32]\/PcOk p)->qr l->(s=false->∀p,l.getLast? = some p->eo p [46]=false)->Chn (iQ w x l) s
 | [],_,_,_,_,_,_=>trivial
 | p::l,w,x,s,hp,hs,he=>by
  have k:∀q∈l,q=[32]\/PcOk q:=fun q c=>hp q (ba _ c)
  have v:s=false->∀q,l.getLast? = some q->eo q [46]=false:=fun h q c=>he h q (by
   cases l with
   | nil=>simp at c
   | cons a b=>rw [List.getLast?_cons_cons];exact c)
  rw [iQ]
  by_cases j:p=[32]
  ·rw [if_pos j]
   exact vU l _ _ s k hs.2 v
  rw [if_neg j]
  have f:PcOk p:=(hp p (aY ..)).resolve_left j
  have H:=vU l p false s k hs.2 v
  -- the last token text of the KC
  have i:∀(t:List UInt8),0<t.length->au t (t.length-1)=au p (p.length-1)->(t=[48]->p=[48])->∀b:Bool,Chn ((b,t)::iQ p false l) s:=fun t I o u b=>by
   refine FJ (fun D F=>?_) (fun y r n g=>?_) H
   ·have m:=yt hs.2 D
    subst m
    exact oy (he F p rfl) f.pos (by decide) o rfl u
   ·have m:¬l=[]:=fun e=>by subst e;cases n
    obtain ⟨L,K,A,G⟩:=CW (p:=p) m hs.2
    rw [A] at n
    injection n with e1 e2
    subst e1
    rcases G with h | ⟨q,J,c,h,z⟩
    ·rw [h] at g;cases g
    ·rw [h] at g
     have E:0<q.length:=by
      rcases k q (by rw [c];exact aY ..) with rfl | hk
      ·decide
      ·exact hk.pos
     exact oy g f.pos E o z u
  unfold iw
  rcases la p with ⟨rfl,e⟩ | ⟨rfl,e⟩ | ⟨_,d,r,rfl,B,C,e⟩ | ⟨e,_⟩
  ·rw [e]
   exact ⟨fun _=>show eo [91] [93]=false by decide +kernel,i [93] (by decide) rfl (fun h=>by cases h) _⟩
  ·rw [e]
   exact ⟨fun _=>show eo [123] [125]=false by decide +kernel,i [125] (by decide) rfl (fun h=>by cases h) _⟩
  ·rw [e]
   refine ⟨fun _=>EQ d r ⟨B,C⟩,i (d::r) (by simp) ?_ (fun h=>?_) _⟩
   ·exact (vt [45] (d::r) (by simp)).symm
   ·exact absurd (by rw [h]) f.nz
  ·rw [e]
   exact i p f.pos rfl (fun h=>h) _
theorem rr:∀(l:List (List UInt8)) (f:List UInt8) (g:Bool),(∀p∈l,p=[32]\/PcOk p)->∀x∈iQ f g l,TokText x.2
 | [],_,_,_,x,a=>by cases a
 | p::l,f,g,hp,x,a=>by
  have e:∀q∈l,q=[32]\/PcOk q:=fun q b=>hp q (ba _ b)
  rw [iQ] at a
  by_cases c:p=[32]
  ·rw [if_pos c] at a
   exact rr l _ _ e x a
  ·rw [if_neg c] at a
   have h:PcOk p:=(hp p (aY ..)).resolve_left c
   rcases dl.1 a with a | a
   ·unfold iw at a
    have d:=h.tok
    cases b:eB p with
    | nil=>rw [b] at a;cases a
    | cons t r=>
     rw [b] at a d
     rcases List.mem_cons.1 a with rfl | a
     ·exact d t (aY ..)
     ·obtain ⟨u,i,rfl⟩:=List.mem_map.1 a
      exact d u (ba _ i)
   ·exact rr l _ _ e x a
theorem Ag {R:List UInt8} (c:DotOk R) (l:List (List UInt8)) (s:Bool) (a:∀p∈l,p=[32]\/PcOk p) (b:qr l) (d:s=false->∀p,l.getLast? = some p->eo p [46]=false) :
  oD (dP l++(je s++46::R)) (dP l++(je s++46::R)) 0=⟨iS 0 (iQ [] false l)++[mE (dP l).length s],0,0⟩:=by
 have h:=Ip c (iQ [] false l) s (rr l _ _ a) (vU l _ _ s a b d)
 rw [px l [] b] at h
 exact h
theorem jw:∀(l:List CI) (a:Nat),(iS a l).length=l.length
 | [],_=>rfl
 | x::l,a=>by rw [iS,be,be,jw l]
theorem uu:∀(l:List CI) (a i:Nat) (h:i<l.length),∃b:Nat,(iS a l)[i]? = some ⟨tV (b:Int) (cj l[i].2 l[i].2 0),l[i].1,0⟩
 | [],_,i,h=>absurd h (by simp)
 | x::l,a,0,h=>⟨_,rfl⟩
 | x::l,a,i+1,h=>by
  obtain ⟨b,c⟩:=uu l (a+(je x.1).length+x.2.length) i (by simpa using h)
  exact ⟨b,by simpa [iS] using c⟩
end Hb
