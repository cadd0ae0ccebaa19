/- Parts of the proof. -/
import Derived.Test.YtlikcjbjibhjgaaGreatDoorR01
import Derived.Test.YtlikcjbjibhjgaaGreatDoorR29
import Derived.Test.YtlikcjbjibhjgaaGreatDoorR07
import Derived.Test.YtlikcjbjibhjgaaGreatDoorR10
open Array renaming length_toList -> eK
open Bool renaming and_eq_false_iff -> gx, and_eq_true -> aF, not_eq_true -> dN, or_eq_true -> eU, true_and -> dl
open Go.Lib renaming itoa -> fH, toList_data -> gN
open List renaming append_assoc -> bj, cons_append -> ak, getD_eq_getElem?_getD -> aX, getElem_mem -> aR, getElem_of_mem -> cI, length_append -> aB, length_cons -> bo, length_eq_zero_iff -> eo, map_cons -> bE, map_nil -> eG, mem_cons -> bg, mem_cons_of_mem -> aW, mem_cons_self -> aV, mem_singleton -> aG, nil_append -> an
open Nat renaming le_refl -> ag
namespace Hb
open Go Go.RowKit
def Lg (t:NextR) (x:CI):Prop:=t.r.kind=(cC x.2 x.2 0).kind/\t.r.text=(cC x.2 x.2 0).text/\t.r.n=(cC x.2 x.2 0).n/\t.lay=x.1
def Sg (E:RE):Nat->List CI->Prop
 | _,[]=>True
 | i,x::l=>Lg (E.at i) x/\Sg E (i+1) l
theorem Sg.app {E:RE}:∀{a b:List CI} {i:Nat},Sg E i (a++b)↔Sg E i a/\Sg E (i+a.length) b
 | [],b,i=>by simp [Sg]
 | x::a,b,i=>by
  rw [ak,Sg,Sg,Sg.app (a:=a) (b:=b),bo,and_assoc,show i+(a.length+1)=i+1+a.length by omega]
theorem Nl (P:List OpR) (q:Int) (L:List CI) (a:Nat) (d:∀x∈L,TokText x.2) (e:NextR):Sg ⟨jg a L++[e],P,q⟩ 0 L:=by
 have f:∀i,(h:i<L.length)->Lg ((⟨jg a L++[e],P,q⟩:RE).at i) L[i]:=by
  intro i h
  obtain ⟨b,g⟩:=vZ L a i h
  have c:(⟨jg a L++[e],P,q⟩:RE).at i=⟨uQ (b:Int) (cC L[i].2 L[i].2 0),L[i].1,0⟩:=by
   show wO _ i=_
   unfold wO
   rw [aB,jY,show min i (L.length+[e].length-1)=i by simp;omega,aX,List.getElem?_append_left (by rw [jY];exact h),g]
   rfl
  rw [c]
  have l:=d L[i] (aR h)
  unfold Lg
  rw [oK _ _ l.err]
  exact ⟨rfl,rfl,rfl,rfl⟩
 have m:∀(K:List CI) (j:Nat),(∀i (h:i<K.length),Lg ((⟨jg a L++[e],P,q⟩:RE).at (j+i)) K[i])->Sg ⟨jg a L++[e],P,q⟩ j K:=by
  intro K
  induction K with
  | nil=>intro j _;trivial
  | cons x K ih=>
   intro j h
   refine ⟨h 0 (by simp),ih (j+1) fun i k=>?_⟩
   have:=h (i+1) (by simpa using k)
   rw [show j+1+i=j+(i+1) by omega]
   exact this
 exact m L 0 fun i h=>by rw [Nat.zero_add];exact f i h
theorem GG (P:List OpR) (q:Int) (L:List CI) (a:Nat) (e:NextR):(⟨jg a L++[e],P,q⟩:RE).at L.length=e:=by
 show wO _ _=_
 unfold wO
 rw [aB,jY,show min L.length (L.length+[e].length-1)=L.length by simp,aX,List.getElem?_append_right (by rw [jY];exact ag _),jY]
 simp
theorem gS {a p:List UInt8} {b:Bool} {l:List (List UInt8)} (h:¬p=[32]):ji a b (p::l)=ip (b||fv a p) p++ji p false l:=by rw [ji,if_neg h]
theorem Fa (s a:Bool) (p:List UInt8):(ip s p).length=(ip a p).length:=by
 unfold ip;cases eC p <;> simp
theorem jJ:∀(l:List (List UInt8)) (a b:List UInt8) (c d:Bool),(ji a c l).length=(ji b d l).length
 | [],_,_,_,_=>rfl
 | p::l,a,b,c,d=>by
  rw [ji,ji]
  split
  ·exact jJ l _ _ _ _
  ·rw [aB,aB,Fa,jJ l p p false false]
def tl (l:List (List UInt8)):Nat:=(ji [] false l).length
theorem Nj (l:List (List UInt8)) (a:List UInt8) (b:Bool):(ji a b l).length=tl l:=jJ l _ _ _ _
theorem kQ (a b:List (List UInt8)):tl (a++b)=tl a+tl b:=by
 by_cases h:a=[]
 ·subst h;simp [tl,ji]
 ·unfold tl
  rw [yg a b _ _ h,aB]
  split
  ·rw [jJ b]
  ·rw [jJ b]
theorem ju {s:Bool} {p:List UInt8} (h:eC p=[p]):ip s p=[(s,p)]:=by unfold ip;rw [h];rfl
theorem oV {s:Bool} {p a b:List UInt8} (h:eC p=[a,b]):ip s p=[(s,a),(false,b)]:=by unfold ip;rw [h];rfl
def Sp (E:RE) (i:Nat) (l:List (List UInt8)):Prop:=∃prev sp,Sg E i (ji prev sp l)
theorem Sp.app {E:RE} {i:Nat} {a b:List (List UInt8)} (h:Sp E i (a++b)):Sp E i a/\Sp E (i+tl a) b:=by
 obtain ⟨e,f,h⟩:=h
 by_cases d:a=[]
 ·subst d;exact ⟨⟨e,f,trivial⟩,by simpa [tl,ji] using ⟨e,f,h⟩⟩
 ·rw [yg a b _ _ d,Sg.app] at h
  rw [Nj] at h
  refine ⟨⟨_,_,h.1⟩,?_⟩
  have c:=h.2
  split at c
  ·exact ⟨_,_,c⟩
  ·exact ⟨_,_,c⟩
theorem Gh (l:List (List UInt8)):tl ([32]::l)=tl l:=by
 unfold tl;rw [ji,if_pos rfl,jJ]
theorem Sp.solo {E:RE} {i:Nat} {c:UInt8} {l:List (List UInt8)} (a:c=40\/c=41\/c=91\/c=93\/c=123\/c=125\/c=44\/c=124) (h:Sp E i ([c]::l)):PuTk (E.at i) c/\Sp E (i+1) l:=by
 obtain ⟨f,g,h⟩:=h
 obtain ⟨d,e⟩:=mV a
 rw [gS d.sp,ju e] at h
 have b:=(jc a).2
 exact ⟨⟨by have:=h.1.1;rw [b] at this;exact this,by have:=h.1.2.1;rw [b] at this;exact this⟩,_,_,h.2⟩
theorem ja {c:UInt8} (d:c=40\/c=41\/c=91\/c=93\/c=123\/c=125\/c=44\/c=124) (l:List (List UInt8)):tl ([c]::l)=1+tl l:=by
 obtain ⟨a,b⟩:=mV d
 unfold tl
 rw [gS a.sp,ju b,aB,jJ l [c] [] false false];rfl
theorem Fg (p:List UInt8):fv p [40]=false:=by
 unfold fv
 have a:dI (av [40] 0)=false:=by decide +kernel
 have b:dC (av [40] 0)=false:=by decide +kernel
 have c:(av [40] 0==39)=false:=by decide +kernel
 rw [a,b,c]
 simp only [Bool.and_false,Bool.false_or,Bool.or_false]
 have:(av p (p.length-1)==av [40] 0&&cls (av p (p.length-1))==7)=false:=by
  cases hb:(av p (p.length-1)==av [40] 0)
  ·rfl
  ·rw [beq_iff_eq] at hb
   rw [hb];decide +kernel
 rw [this];simp
theorem Sp.name {E:RE} {i:Nat} {s:List UInt8} {l:List (List UInt8)} (n:s.length<=100) (f:¬s=[91,93]) (g:¬s=[123,125]) (h:Sp E i (gA s::l)):NmTk (E.at i) s/\Sg E (i+1) (ji (gA s) false l):=by
 obtain ⟨r,t,h⟩:=h
 obtain ⟨k,j⟩:=oS s n
 rcases j with ⟨a,_⟩ | ⟨_,_,o,p,b⟩
 ·rcases a with a | a
  ·exact absurd a f
  ·exact absurd a g
 rw [gS k.sp,ju o] at h
 refine ⟨?_,h.2⟩
 have c:=h.1.1
 have d:=h.1.2.1
 rcases b with ⟨q,b⟩ | ⟨m,b⟩
 ·rw [b] at c d
  exact ⟨.inl c,d⟩
 ·rw [b] at c d
  exact ⟨.inr ⟨c,fun e=>by subst e;revert m;decide +kernel⟩,d⟩
theorem oH {s:List UInt8} {l:List (List UInt8)} (f:s.length<=100) (b:¬s=[91,93]) (c:¬s=[123,125]):tl (gA s::l)=1+tl l:=by
 obtain ⟨e,d⟩:=oS s f
 rcases d with ⟨a,_⟩ | ⟨_,_,g,h,i⟩
 ·rcases a with a | a
  ·exact absurd a b
  ·exact absurd a c
 unfold tl
 rw [gS e.sp,ju g,aB,jJ l _ [] false false];rfl
theorem Sp.two {E:RE} {i:Nat} {a b:UInt8} {l:List (List UInt8)} (d:(a=91/\b=93)\/(a=123/\b=125)) (h:Sp E i (gA [a,b]::l)):PuTk (E.at i) a/\PuTk (E.at (i+1)) b/\Sg E (i+2) (ji [a,b] false l):=by
 obtain ⟨m,n,h⟩:=h
 have e:gA [a,b]=[a,b]:=by rcases d with ⟨rfl,rfl⟩ | ⟨rfl,rfl⟩ <;> decide +kernel
 have j:eC [a,b]=[[a],[b]]:=by rcases d with ⟨rfl,rfl⟩ | ⟨rfl,rfl⟩ <;> rfl
 have k:¬[a,b]=[32]:=by simp
 rw [e,gS k,oV j] at h
 have f:=(jc (c:=a) (by rcases d with ⟨rfl,rfl⟩ | ⟨rfl,rfl⟩ <;> simp)).2
 have g:=(jc (c:=b) (by rcases d with ⟨rfl,rfl⟩ | ⟨rfl,rfl⟩ <;> simp)).2
 exact ⟨⟨by have:=h.1.1;rw [f] at this;exact this,by have:=h.1.2.1;rw [f] at this;exact this⟩,⟨by have:=h.2.1.1;rw [g] at this;exact this,by have:=h.2.1.2.1;rw [g] at this;exact this⟩,h.2.2⟩
theorem wP {a b:UInt8} {l:List (List UInt8)} (c:(a=91/\b=93)\/(a=123/\b=125)):tl (gA [a,b]::l)=2+tl l:=by
 have e:gA [a,b]=[a,b]:=by rcases c with ⟨rfl,rfl⟩ | ⟨rfl,rfl⟩ <;> decide +kernel
 have d:eC [a,b]=[[a],[b]]:=by rcases c with ⟨rfl,rfl⟩ | ⟨rfl,rfl⟩ <;> rfl
 unfold tl
 rw [e,gS (by simp),oV d,aB,jJ l _ [] false false];rfl
theorem xd {E:RE} {i:Nat} {p:List UInt8} {l:List (List UInt8)} (h:Sg E i (ji p false ([40]::l))):opn (E.at i)=true/\Sp E (i+1) l:=by
 obtain ⟨e,f⟩:=mV (c:=40) (.inl rfl)
 rw [gS e.sp,ju f,Fg] at h
 have g:=(jc (c:=40) (.inl rfl)).2
 refine ⟨?_,_,_,h.2⟩
 have a:=h.1.1
 have b:=h.1.2.1
 have d:=h.1.2.2.2
 rw [g] at a b
 unfold Hb.opn isP
 rw [a,b,d];rfl
theorem Sp.var {E:RE} {i:Nat} {u:Nat} {l:List (List UInt8)} (d:u<=9223372036854775807) (h:Sp E i (pV u::l)):(E.at i).r.kind=3/\(E.at i).r.text=pV u/\Sp E (i+1) l:=by
 obtain ⟨e,f,h⟩:=h
 obtain ⟨_,a,b,c⟩:=wT u d
 rw [gS b.sp,ju c] at h
 exact ⟨by have:=h.1.1;rw [a] at this;exact this,by have:=h.1.2.1;rw [a] at this;exact this,_,_,h.2⟩
theorem Gg {u:Nat} {l:List (List UInt8)} (c:u<=9223372036854775807):tl (pV u::l)=1+tl l:=by
 obtain ⟨_,d,a,b⟩:=wT u c
 unfold tl
 rw [gS a.sp,ju b,aB,jJ l _ [] false false];rfl
theorem Sp.nat {E:RE} {i:Nat} {u:Nat} {l:List (List UInt8)} (e:u<=9223372036854775807) (h:Sp E i (pI u::l)):(E.at i).r.kind=4/\(E.at i).r.n=u/\Sp E (i+1) l:=by
 obtain ⟨f,g,h⟩:=h
 obtain ⟨c,b,d⟩:=tF u e
 rw [gS c.sp,ju d] at h
 have a:=(lq u (by omega)).2
 rw [<-b] at a
 exact ⟨by have:=h.1.1;rw [a] at this;exact this,by have:=h.1.2.2.1;rw [a] at this;rw [this];unfold NI;rw [if_neg (by omega)],_,_,h.2⟩
theorem Gj {u:Nat} {l:List (List UInt8)} (c:u<=9223372036854775807):tl (pI u::l)=1+tl l:=by
 obtain ⟨a,d,b⟩:=tF u c
 unfold tl
 rw [gS a.sp,ju b,aB,jJ l _ [] false false];rfl
theorem Sp.neg {E:RE} {i:Nat} {u:Nat} {l:List (List UInt8)} (d:0<u) (c:u<=9223372036854775808) (h:Sp E i (pI (-(u:Int))::l)):NmTk (E.at i) [45]/\(E.at (i+1)).r.kind=4/\(E.at (i+1)).r.n=NI u/\(E.at (i+1)).lay=false/\Sp E (i+2) l:=by
 obtain ⟨j,k,h⟩:=h
 obtain ⟨e,g,f⟩:=xB u d c
 rw [gS e.sp,oV f] at h
 have b:=(lq u c).2
 have a:=rl.2
 exact ⟨⟨.inl (by have:=h.1.1;rw [a] at this;exact this),by have:=h.1.2.1;rw [a] at this;exact this⟩,by have:=h.2.1.1;rw [b] at this;exact this,by have:=h.2.1.2.2.1;rw [b] at this;exact this,h.2.1.2.2.2,_,_,h.2.2⟩
theorem Gi {u:Nat} {l:List (List UInt8)} (a:0<u) (d:u<=9223372036854775808):tl (pI (-(u:Int))::l)=2+tl l:=by
 obtain ⟨b,e,c⟩:=xB u a d
 unfold tl
 rw [gS b.sp,oV c,aB,jJ l _ [] false false];rfl
theorem yd {T:List OpR} {s:ByteArray} {c:Int} {op:OpR} (h:dt T s c=some op):op∈T/\op.name.toList=s.toList/\bX op.typ=c/\nK op=true:=by
 unfold dt at h
 split at h
 ·rename_i d
  have b:=List.mem_of_find?_eq_some h
  have a:=List.find?_some h
  unfold lN at a
  simp only [aF,beq_iff_eq] at a
  exact ⟨b,by simpa using a.1,by simpa using a.2,oG d _ b⟩
 ·cases h
theorem zC {op:OpR} (h:nK op=true):1<=op.prec/\op.prec<=1200/\¬op.name.toList=[91,93]/\¬op.name.toList=[123,125]/\(op.name.toList=[44]->op.typ=2/\op.prec=1000)/\(op.name.toList=[124]->bX op.typ=2/\1001<=op.prec):=by
 unfold nK Iu at h
 split at h
 ·cases h
 ·rename_i b
  simp only [eU,decide_eq_true_iff,beq_iff_eq,not_or] at b
  split at h
  ·cases h
  ·rename_i a
   simp only [eU,beq_iff_eq,not_or] at a
   refine ⟨by omega,by omega,a.1,a.2,fun e=>?_,fun e=>?_⟩
   ·rw [if_pos (by simpa using e)] at h
    simpa using h
   ·rw [if_neg (by rw [e];decide),if_pos (by simpa using e)] at h
    simpa using h
theorem KV {t:Int} (h:bX t=1):t=4\/t=5:=by unfold bX at h;grind
theorem DA {t:Int} (h:bX t=2):t=1\/t=2\/t=3:=by unfold bX at h;grind
theorem Fp {t:Int} (h:bX t=3):t=6\/t=7:=by unfold bX at h;grind
theorem xc {op:OpR} (h:1<=op.prec/\op.prec<=1200):0<=gi op/\gi op<=op.prec/\0<=dB op/\dB op<=op.prec:=by
 unfold gi dB
 grind
theorem Dp {T:List OpR} {s:ByteArray} {c:Int} (h:has T s c=true):dt T s c=some (cP T s c):=by
 unfold has at h
 unfold cP
 cases hf:dt T s c with
 | none=>rw [hf] at h;cases h
 | some op=>rfl
theorem qD {T:List OpR} {s:ByteArray} (d:bB T=true) (h:lI T s=false) (c:Int):has T s c=false:=by
 cases hh:has T s c
 ·rfl
 ·exfalso
  obtain ⟨a,b,_,_⟩:=yd (Dp hh)
  unfold lI at h
  rw [d,dl,List.any_eq_false] at h
  have:=h _ a
  unfold isNm at this
  rw [b] at this
  simp at this
def bl (l:List ByteArray):List (List UInt8):=l.map fun b=>b.data.toList
theorem fB (a b:List ByteArray):bl (a++b)=bl a++bl b:=List.map_append
theorem bW (a:ByteArray) (b:List ByteArray):bl (a::b)=a.data.toList::bl b:=rfl
theorem gC:bl []=[]:=rfl
def NOk (t:Tm):Prop:=dH t=true /\ -9223372036854775808<=t.num/\t.num<=9223372036854775807
structure Cx (o:WO) (T:List OpR) (S:Tm->WR) (E:RE) (ρ:Int->Int):Prop where
 q:o.q=true
 nu:o.nu=false
 val:bB T=true
 ops:E.P=T
 st:∀t:Tm,Tm.All NOk t->t.kind=3->S t=mw o T S t
 var:∀i,i<E.T.length->∀u:Int,(E.at i).r.kind=3->(E.at i).r.text=pV u->((cM E.T i).num (pV u):Int)=ρ u
theorem NOk.kinds {t:Tm} (h:NOk t):t.kind=0\/t.kind=1\/t.kind=2\/t.kind=3:=by
 have h:=h.1
 unfold dH at h
 by_cases a:t.kind=0
 ·exact .inl a
 by_cases b:t.kind=1
 ·exact .inr (.inl b)
 by_cases c:t.kind=2
 ·exact .inr (.inr (.inl c))
 by_cases d:t.kind=3
 ·exact .inr (.inr (.inr d))
 rw [if_neg a,if_neg b,if_neg c,if_neg d] at h
 cases h
theorem wy {s:ByteArray} {l:List UInt8} (h:s.toList=l):s=⟨l.toArray⟩:=by
 rw [gN] at h
 apply ByteArray.ext
 rw [<-h]
theorem iI (s:ByteArray):(⟨s.data.toList.toArray⟩:ByteArray)=s:=by
 apply ByteArray.ext;simp
theorem NOk.var {t:Tm} (h:NOk t) (k:t.kind=0):0<=t.num/\t.num<=1099511627776/\t.name=⟨#[]⟩/\t.args=[]:=by
 have h:=h.1
 unfold dH at h
 rw [if_pos k] at h
 simp only [aF,decide_eq_true_iff,beq_iff_eq] at h
 exact ⟨h.1.1.1,h.1.1.2,wy h.1.2,eo.1 h.2⟩
theorem NOk.int {t:Tm} (h:NOk t) (k:t.kind=1):t.name=⟨#[]⟩/\t.args=[]:=by
 have h:=h.1
 unfold dH at h
 rw [if_neg (by omega),if_pos k] at h
 simp only [aF,beq_iff_eq] at h
 exact ⟨wy h.1,eo.1 h.2⟩
theorem NOk.atom {t:Tm} (h:NOk t) (k:t.kind=2):t.num=0/\t.name.data.toList.length<=100/\t.args=[]:=by
 have h:=h.1
 unfold dH at h
 rw [if_neg (by omega),if_neg (by omega),if_pos k] at h
 simp only [aF,decide_eq_true_iff,beq_iff_eq] at h
 exact ⟨h.1.1,h.1.2,eo.1 h.2⟩
theorem NOk.str {t:Tm} (h:NOk t) (k:t.kind=3):t.num=0/\t.name.data.toList.length<=100/\0<t.args.length/\t.args.length<=8:=by
 have h:=h.1
 unfold dH at h
 rw [if_neg (by omega),if_neg (by omega),if_neg (by omega),if_pos k] at h
 simp only [aF,decide_eq_true_iff,beq_iff_eq] at h
 exact ⟨h.1.1.1,h.1.1.2,h.1.2,h.2⟩
theorem JZ {ρ:Int->Int} {t:Tm} (h:NOk t) (k:t.kind=0):fX ρ t=NH (ρ t.num):=by
 obtain ⟨_,_,a,b⟩:=h.var k
 rw [jy,k,a,b,if_pos rfl];rfl
theorem Kd {ρ:Int->Int} {t:Tm} (h:NOk t) (k:t.kind=1):fX ρ t=Fc t.num:=by
 obtain ⟨a,b⟩:=h.int k
 rw [jy,k,a,b,if_neg (by decide)];rfl
theorem yZ {ρ:Int->Int} {t:Tm} (h:NOk t) (k:t.kind=2):fX ρ t=AB t.name:=by
 obtain ⟨a,_,b⟩:=h.atom k
 rw [jy,k,a,b,if_neg (by decide)];rfl
theorem mU {ρ:Int->Int} {t:Tm} (h:NOk t) (k:t.kind=3):fX ρ t=nC t.name (t.args.map (fX ρ)):=by
 obtain ⟨a,_⟩:=h.str k
 rw [jy,k,a,if_neg (by decide)];rfl
def Nx (E:RE) (m:Nat):Prop:=opn (E.at m)=false/\¬(E.at m).r.kind=4
theorem PuTk.nx {E:RE} {m:Nat} {c:UInt8} (h:PuTk (E.at m) c) (a:¬c=40):Nx E m:=by
 refine ⟨?_,by rw [h.1];decide⟩
 unfold opn
 rw [h.notP a];rfl
theorem NmTk.nx {E:RE} {m:Nat} {s:List UInt8} (h:NmTk (E.at m) s):Nx E m:=by
 refine ⟨h.opn,?_⟩
 rcases h.1 with h | h
 ·rw [h];decide
 ·rw [h.1];decide
theorem PuTk.alone {E:RE} {m:Nat} {c:UInt8} (h:PuTk (E.at m) c) (a:¬c=40/\¬c=91/\¬c=123):gE E m=true:=by
 unfold gE
 rw [if_neg (by rw [h.1];decide),if_pos h.1,h.2]
 simp [a]
theorem PuTk.stop {E:RE} {m:Nat} {c:UInt8} {L:Int} (h:PuTk (E.at m) c) (b:¬c=44/\¬c=124):Stop E m L:=by
 intro a
 unfold hQ at a
 simp only at a
 rw [h.notNam,h.notP b.1,h.notP b.2,if_pos (by rfl)] at a
 cases a
theorem CK {E:RE} {m:Nat} {c:UInt8} (h:PuTk (E.at m) c) (f:c=44\/c=124):Stop E m 999:=by
 intro d
 have o:(E.at m).txt=⟨#[c]⟩:=by unfold NextR.txt;rw [h.2]
 unfold hQ at d |-
 simp only at d |-
 have n:(!ge (E.at m)&&(!isP (E.at m) [44] && !isP (E.at m) [124]))=false:=by
  rcases f with rfl|rfl
  ·rw [h.isP];simp
  ·rw [h.isP];simp
 rw [n,if_neg (by simp)] at d |-
 have g:∀k op,dt E.P (E.at m).txt k=some op->999<op.prec:=by
  intro k op b
  obtain ⟨_,a,_,i⟩:=yd b
  rw [o] at a
  obtain ⟨_,_,_,_,j,l⟩:=zC i
  have e:(⟨#[c]⟩:ByteArray).toList=[c]:=by rw [gN]
  rw [e] at a
  rcases f with rfl|rfl
  ·have:=(j a).2;omega
  ·have:=(l a).2;omega
 by_cases a:lJ E.P (E.at m).txt 2=true
 ·rw [if_pos a]
  unfold lJ at a
  cases b:dt E.P (E.at m).txt 2 with
  | none=>rw [b] at a;cases a
  | some op=>exact g 2 op b
 ·rw [if_neg a] at d |-
  unfold lJ at d
  cases b:dt E.P (E.at m).txt 3 with
  | none=>simp only [b] at d;cases d
  | some op=>exact g 3 op b
inductive Hd:List UInt8->Prop
 | br (c:UInt8) (h:c=40\/c=91\/c=123):Hd [c]
 | nm (s:List UInt8) (h:s.length<=100):Hd (gA s)
 | nat (u:Nat) (h:u<=9223372036854775807):Hd (pI u)
 | neg (u:Nat) (h0:0<u) (h:u<=9223372036854775808):Hd (pI (-(u:Int)))
 | var (u:Nat) (h:u<=9223372036854775807):Hd (pV u)
theorem Mv {n:Int} (h:-9223372036854775808<=n/\n<=9223372036854775807):Hd (pI n):=by
 by_cases a:0<=n
 ·have e:n=(n.toNat:Int):=by omega
  rw [e];exact .nat _ (by omega)
 ·have e:n=-((-n).toNat:Int):=by omega
  rw [e];exact .neg _ (by omega) (by omega)
def MC (p:List UInt8):Bool:=match p with | d::_=>decide (48<=d.toNat)&&decide (d.toNat<=57) | []=>false
theorem Hd.facts {E:RE} {i:Nat} {p:List UInt8} {l:List (List UInt8)} (o:Hd p) (h:Sp E i (p::l)) :
  isP (E.at i) [93]=false/\isP (E.at i) [125]=false/\(isP (E.at i) [40]=true->p=[40])/\((E.at i).r.kind=4->MC p=true):=by
 cases o with
 | br c hc=>
  obtain ⟨b,_⟩:=h.solo (by rcases hc with rfl|rfl|rfl <;> simp)
  refine ⟨b.notP (by rcases hc with rfl|rfl|rfl <;> decide),b.notP (by rcases hc with rfl|rfl|rfl <;> decide),fun a=>?_,fun a=>by rw [b.1] at a;cases a⟩
  by_cases e:c=40
  ·rw [e]
  ·rw [b.notP e] at a;cases a
 | nm s hs=>
  by_cases g:s=[91,93]
  ·subst g
   obtain ⟨b,_⟩:=h.two (.inl ⟨rfl,rfl⟩)
   exact ⟨b.notP (by decide),b.notP (by decide),fun a=>(by rw [b.notP (by decide)] at a;cases a),fun a=>by rw [b.1] at a;cases a⟩
  by_cases j:s=[123,125]
  ·subst j
   obtain ⟨b,_⟩:=h.two (.inr ⟨rfl,rfl⟩)
   exact ⟨b.notP (by decide),b.notP (by decide),fun a=>(by rw [b.notP (by decide)] at a;cases a),fun a=>by rw [b.1] at a;cases a⟩
  obtain ⟨b,_⟩:=h.name hs g j
  exact ⟨b.notP _,b.notP _,fun a=>(by rw [b.notP] at a;cases a),fun a=>absurd a b.nx.2⟩
 | nat u hu=>
  obtain ⟨b,_,_⟩:=h.nat hu
  have f:∀x,isP (E.at i) x=false:=fun x=>by unfold isP;rw [b];rfl
  refine ⟨f _,f _,fun a=>(by rw [f] at a;cases a),fun _=>?_⟩
  obtain ⟨_,e,_⟩:=tF u hu
  obtain ⟨d,r,n,k,m⟩:=qL u
  rw [e,n]
  show (decide (48<=d.toNat)&&decide (d.toNat<=57))=true
  rw [decide_eq_true k,decide_eq_true m];rfl
 | neg u h0 hu=>
  obtain ⟨b,_⟩:=h.neg h0 hu
  exact ⟨b.notP _,b.notP _,fun a=>(by rw [b.notP] at a;cases a),fun a=>absurd a b.nx.2⟩
 | var u hu=>
  obtain ⟨b,_,_⟩:=h.var hu
  have f:∀x,isP (E.at i) x=false:=fun x=>by unfold isP;rw [b];rfl
  exact ⟨f _,f _,fun a=>(by rw [f] at a;cases a),fun a=>by rw [b] at a;cases a⟩
theorem LY {E:RE} {i:Nat} {p:List UInt8} {l:List (List UInt8)} (b:¬p=[32]) (h:Sg E i (ji [] true (p::l))):(E.at i).lay=true:=by
 rw [gS b,Bool.true_or] at h
 have a:=th p
 unfold ip at h
 cases hs:eC p with
 | nil=>exact absurd hs a
 | cons t r=>
  rw [hs] at h
  exact h.1.2.2.2
section
variable {o:WO} {T:List OpR} {S:Tm->WR} {E:RE} {ρ:Int->Int}
theorem vh (n:Int):(s1 95++kj n).data.toList=pV n:=by
 show (s1 95++kj n).data.toList=95::fH n
 unfold s1 kj
 simp
theorem mY (a:Cx o T S E ρ) (s:ByteArray):(jB o s).data.toList=gA s.data.toList:=by
 unfold jB
 rw [if_pos a.q]
theorem qQ (l:List ByteArray):brk l true=s1 40::(l++[s1 41]):=by unfold brk;rw [if_pos rfl]
theorem qS (l:List ByteArray):brk l false=l:=by unfold brk;rw [if_neg (by simp)]
def HdL (l:List ByteArray):Prop:=∃p r,l=p::r/\Hd p.data.toList
theorem HdL.app {l k:List ByteArray} (h:HdL l):HdL (l++k):=by
 obtain ⟨p,r,rfl,h⟩:=h
 exact ⟨p,r++k,rfl,h⟩
theorem HdL.brk {l:List ByteArray} {b:Bool} (h:HdL l):HdL (brk l b):=by
 cases b
 ·rw [qS];exact h
 ·rw [qQ];exact ⟨_,_,rfl,.br 40 (.inl rfl)⟩
theorem rJ (f:Cx o T S E ρ) {t:Tm} (h:NOk t) (k:t.kind=3->HdL (S t).1) (m:Int) (b:Bool):HdL (bu o T S t m b):=by
 unfold bu
 by_cases a:t.kind=0
 ·rw [if_pos a]
  obtain ⟨g,i,_⟩:=h.var a
  have e:t.num=(t.num.toNat:Int):=by omega
  exact ⟨_,_,rfl,by rw [vh,e];exact .var _ (by omega)⟩
 rw [if_neg a]
 by_cases d:t.kind=1
 ·rw [if_pos d]
  exact ⟨_,_,rfl,by rw [um];exact Mv h.2⟩
 rw [if_neg d]
 by_cases c:t.kind=2
 ·rw [if_pos c]
  exact HdL.brk ⟨_,_,rfl,by rw [mY f];exact .nm _ (h.atom c).2.1⟩
 rw [if_neg c]
 have j:=h.kinds
 exact HdL.brk (k (by omega))
theorem zT (a:Cx o T S E ρ) {t:Tm} (h:NOk t) (k:t.kind=3->HdL (S t).1) (op:OpR):HdL (dE o T S t op):=by
 unfold dE
 by_cases c:t.kind=3
 ·rw [if_pos c];exact HdL.brk (k c)
 ·rw [if_neg c];exact rJ a h k _ _
def AL (T:List OpR) (E:RE) (l:List ByteArray):Prop:=∀i r,Sp E i (bl l++r)->rE T (hd l)=false->gE E i=false
theorem mR {i:Nat} {c:UInt8} (h:PuTk (E.at i) c) (a:c=40\/c=91\/c=123):gE E i=false:=by
 unfold gE
 rw [if_neg (by rw [h.1];decide),if_pos h.1,h.2]
 rcases a with rfl|rfl|rfl <;> decide
theorem DG {i:Nat} (h:(E.at i).r.kind=3\/(E.at i).r.kind=4):gE E i=false:=by
 have a:ge (E.at i)=false:=by
  unfold ge
  rcases h with h | h <;> rw [h] <;> rfl
 unfold gE
 rw [if_neg (by omega),if_neg (by omega),a]
 simp
theorem qX {i:Nat} {s:List UInt8} (h:NmTk (E.at i) s) (a:lJ E.P ⟨s.toArray⟩ 1=true\/(lJ E.P ⟨s.toArray⟩ 2=false/\lJ E.P ⟨s.toArray⟩ 3=false)\/opn (E.at (i+1))=true):gE E i=false:=by
 have b:¬(E.at i).r.kind=7/\¬(E.at i).r.kind=6:=by
  rcases h.1 with h | h
  ·rw [h];decide
  ·rw [h.1];decide
 unfold gE
 rw [if_neg b.1,if_neg b.2,h.nam,h.txt]
 rcases a with a | a | a
 ·rw [a];simp
 ·rw [a.1,a.2];simp
 ·rw [a];simp
theorem AL.brk {l:List ByteArray} {b:Bool} (h:AL T E l):AL T E (brk l b):=by
 cases b
 ·rw [qS];exact h
 ·rw [qQ]
  intro i r a _
  rw [bW,ak] at a
  exact mR (a.solo (.inl rfl)).1 (.inl rfl)
theorem AL.app {l k:List ByteArray} (b:HdL l) (h:AL T E l):AL T E (l++k):=by
 intro i r a c
 rw [fB,bj] at a
 obtain ⟨p,x,rfl,_⟩:=b
 exact h i _ a c
theorem oh {i:Nat} {s:List UInt8} {l:List (List UInt8)} (e:s.length<=100) (h:Sp E i (gA s::l)) :
  (∃a b,((a=91/\b=93)\/(a=123/\b=125))/\s=[a,b]/\PuTk (E.at i) a/\PuTk (E.at (i+1)) b/\Sg E (i+2) (ji [a,b] false l))\/(¬s=[91,93]/\¬s=[123,125]/\NmTk (E.at i) s/\Sg E (i+1) (ji (gA s) false l)):=by
 by_cases c:s=[91,93]
 ·subst c
  exact .inl ⟨91,93,.inl ⟨rfl,rfl⟩,rfl,h.two (.inl ⟨rfl,rfl⟩)⟩
 by_cases d:s=[123,125]
 ·subst d
  exact .inl ⟨123,125,.inr ⟨rfl,rfl⟩,rfl,h.two (.inr ⟨rfl,rfl⟩)⟩
 exact .inr ⟨c,d,h.name e c d⟩
theorem Lf (c:Cx o T S E ρ) {s:ByteArray} (g:s.data.toList.length<=100) (e:lI T s=false):AL T E [jB o s]:=by
 intro i r h _
 rw [bW,mY c,ak] at h
 rcases oh g h with ⟨a,b,f,_,d,_⟩ | ⟨_,_,d,_⟩
 ·exact mR d (by rcases f with h | h <;> simp [h])
 ·refine qX d (.inr (.inl ?_))
  rw [iI,c.ops]
  exact ⟨qD c.val e 2,qD c.val e 3⟩
theorem KP (u:Nat):np (kj (-(u:Int))) 1=true\/u=0:=by
 by_cases b:u=0
 ·exact .inr b
 ·left
  have e:(kj (-(u:Int))).data.toList=45::Lib.decDigits u:=by
   rw [um];unfold pI fH;rw [if_pos (by omega)];simp
  obtain ⟨d,r,a,g,h⟩:=qL u
  have f:(kj (-(u:Int))).size=r.length+2:=by
   rw [<-ByteArray.size_data,<-eK,e,a];rfl
  unfold np
  rw [e,a,f,decide_eq_true (by omega)]
  have c:iK (45::d::r) 1=(d.toNat:Int):=rfl
  rw [c,decide_eq_true (by omega),decide_eq_true (by omega)];rfl
theorem MW (c:Cx o T S E ρ) {n:Int} (h:-9223372036854775808<=n/\n<=9223372036854775807):AL T E [kj n]:=by
 intro i r b a
 rw [bW,um,ak] at b
 by_cases j:0<=n
 ·have e:n=(n.toNat:Int):=by omega
  rw [e] at b
  exact DG (.inr (b.nat (by omega)).1)
 ·have e:n=-((-n).toNat:Int):=by omega
  rw [e] at b
  obtain ⟨d,_⟩:=b.neg (by omega) (by omega)
  have hd:np (kj n) 1=true:=by
   rcases KP (-n).toNat with hd | hd
   ·rw [<-e] at hd;exact hd
   ·omega
  refine qX d ?_
  have f:iK (kj n).data.toList 0=45:=by
   rw [um];unfold pI fH;rw [if_pos (by omega)];rfl
  have g:0<(kj n).size:=by
   unfold np at hd
   simp only [aF,decide_eq_true_iff] at hd
   omega
  change rE T (kj n)=false at a
  unfold rE at a
  rw [decide_eq_true g,f,hd] at a
  simp only [beq_self_eq_true,dl,gx,Bool.or_eq_false_iff,Bool.not_eq_false'] at a
  rw [c.ops]
  rcases a with a | a
  ·exact .inr (.inl a)
  ·exact .inl a
theorem AE (g:Cx o T S E ρ) {t:Tm} (h:NOk t) (k:t.kind=3->AL T E (S t).1) (m:Int):AL T E (bu o T S t m true):=by
 unfold bu
 by_cases c:t.kind=0
 ·rw [if_pos c]
  obtain ⟨j,l,_⟩:=h.var c
  have e:t.num=(t.num.toNat:Int):=by omega
  intro i r a _
  rw [bW,vh,e,ak] at a
  exact DG (.inl (a.var (by omega)).1)
 rw [if_neg c]
 by_cases f:t.kind=1
 ·rw [if_pos f]
  exact MW g h.2
 rw [if_neg f]
 by_cases d:t.kind=2
 ·rw [if_pos d,dl]
  by_cases b:lI T t.name=true
  ·rw [b,qQ]
   intro i r a _
   rw [bW,ak] at a
   exact mR (a.solo (.inl rfl)).1 (.inl rfl)
  ·rw [dN] at b
   rw [b,qS]
   exact Lf g (h.atom d).2.1 b
 rw [if_neg d]
 have n:=h.kinds
 exact AL.brk (k (by omega))
theorem DH (a:Cx o T S E ρ) {t:Tm} (h:NOk t) (k:t.kind=3->AL T E (S t).1) (op:OpR):AL T E (dE o T S t op):=by
 unfold dE
 by_cases c:t.kind=3
 ·rw [if_pos c];exact AL.brk (k c)
 ·rw [if_neg c];exact AE a h k _
theorem qC (a:Cx o T S E ρ) (t:Tm):je o t=false:=by unfold je;rw [a.nu];rfl
theorem Cb (e:Cx o T S E ρ):∀t:Tm,Tm.All NOk t->t.kind=3->HdL (S t).1/\AL T E (S t).1:=Tm.ind fun t J p G=>by
 have I:=p.here
 obtain ⟨_,w,H,_⟩:=I.str G
 have D:∀j,j<t.args.length->NOk (t.arg j)/\((t.arg j).kind=3->HdL (S (t.arg j)).1/\AL T E (S (t.arg j)).1):=by
  intro j F
  rw [Tm.arg_get t j F]
  have v:=aR F
  exact ⟨(p.sub _ v).here,J _ v (p.sub _ v)⟩
 have x:∀(c:UInt8) (l:List ByteArray),c=40\/c=91\/c=123->HdL (s1 c::l)/\AL T E (s1 c::l):=by
  intro c l u
  refine ⟨⟨_,_,rfl,.br c u⟩,fun i r f _=>?_⟩
  rw [bW,ak] at f
  exact mR (f.solo (by rcases u with rfl|rfl|rfl <;> simp)).1 u
 have C:Hd (jB o t.name).data.toList:=by rw [mY e];exact .nm _ w
 rw [e.st t p G]
 unfold mw
 rw [qC e,if_neg (by simp)]
 by_cases y:(t.isNm [46]&&t.args.length==2)=true
 ·rw [if_pos y];exact x 91 _ (.inr (.inl rfl))
 rw [if_neg y]
 by_cases z:(!o.ig&&(t.isNm [123,125]&&t.args.length==1))=true
 ·rw [if_pos z];exact x 123 _ (.inr (.inr rfl))
 rw [if_neg z]
 by_cases A:(!o.ig&&(has T t.name 2&&t.args.length==2))=true
 ·rw [if_pos A]
  obtain ⟨d,g⟩:=D 0 H
  have m:=zT e d (fun k=>(g k).1) (cP T t.name 2)
  have q:=DH e d (fun k=>(g k).2) (cP T t.name 2)
  exact ⟨m.app.app,AL.app m.app (AL.app m q)⟩
 rw [if_neg A]
 by_cases n:(!o.ig&&(has T t.name 1&&t.args.length==1))=true
 ·rw [if_pos n]
  refine ⟨⟨_,_,rfl,C⟩,fun i r f _=>?_⟩
  rw [bW,mY e,ak] at f
  simp only [aF] at n
  rcases oh w f with ⟨a,b,s,_,d,_⟩ | ⟨_,_,d,_⟩
  ·exact mR d (by rcases s with h | h <;> simp [h])
  ·refine qX d (.inl ?_)
   rw [iI,e.ops];exact n.2.1
 rw [if_neg n]
 by_cases B:(!o.ig&&(has T t.name 3&&t.args.length==1))=true
 ·rw [if_pos B]
  obtain ⟨d,g⟩:=D 0 H
  have m:=zT e d (fun k=>(g k).1) (cP T t.name 3)
  have q:=DH e d (fun k=>(g k).2) (cP T t.name 3)
  exact ⟨m.app,AL.app m q⟩
 rw [if_neg B]
 refine ⟨⟨_,_,rfl,C⟩,fun i r f _=>?_⟩
 rw [bW,mY e,ak,bW] at f
 rcases oh w f with ⟨a,b,s,_,d,_⟩ | ⟨_,_,d,g⟩
 ·exact mR d (by rcases s with h | h <;> simp [h])
 ·exact qX d (.inr (.inr (xd g).1))
end
section
variable {o:WO} {T:List OpR} {S:Tm->WR} {E:RE} {ρ:Int->Int}
def FB (E:RE) (ρ:Int->Int) (t:Tm) (l:List ByteArray) (op:OpR):Prop :=
 ∀(i f:Nat) (most:Int) (r:List (List UInt8)),Sp E i (bl l++r)->i+tl (bl l)<E.T.length->tl (bl l)<=f->Nx E (i+tl (bl l))->op.prec<=most ->
  (bX op.typ=1\/bX op.typ=2->Stop E (i+tl (bl l)) (dB op))->Rch E f most i (fX ρ t) op.prec (i+tl (bl l))
def Nc (E:RE) (ρ:Int->Int) (t:Tm) (l:List ByteArray) (max:Int) (a:Bool):Prop :=
 ∀(i f:Nat) (r:List (List UInt8)),Sp E i (bl l++r)->i+tl (bl l)<E.T.length->tl (bl l)<=f->Nx E (i+tl (bl l))->Stop E (i+tl (bl l)) max->(a=false->gE E (i+tl (bl l))=true) ->
  ∃p,mv E (f+1) max i=.ok (fX ρ t,p,i+tl (bl l))
theorem lB:tl []=0:=rfl
theorem wQ (l:List ByteArray):tl (bl (s1 40::(l++[s1 41])))=tl (bl l)+2:=by
 rw [bW,fB,show (s1 40).data.toList=[40] from rfl,ja (.inl rfl),kQ,bW,show (s1 41).data.toList=[41] from rfl,ja (.inr (.inl rfl)),gC,lB]
 omega
theorem tA {t:Tm} {l:List ByteArray} (h:Nc E ρ t l 1200 false) {i f:Nat} {r:List (List UInt8)} {most:Int} (d:Sp E i (bl (s1 40::(l++[s1 41]))++r)) (k:i+tl (bl (s1 40::(l++[s1 41])))<E.T.length) (j:tl (bl (s1 40::(l++[s1 41])))<=f) :
  Rch E f most i (fX ρ t) 0 (i+tl (bl (s1 40::(l++[s1 41])))):=by
 rw [wQ] at k j |-
 rw [bW,fB,ak,bj] at d
 obtain ⟨e,b⟩:=d.solo (.inl rfl)
 obtain ⟨_,c⟩:=b.app
 rw [bW,ak] at c
 obtain ⟨a,_⟩:=c.solo (.inr (.inl rfl))
 obtain ⟨f,rfl⟩:∃g,f=g+1:=⟨f-1,by omega⟩
 obtain ⟨p,m⟩:=h (i+1) f _ b (by omega) (by omega) (a.nx (by decide)) (a.stop (by decide)) (fun _=>a.alone (by decide))
 have:=Kt (most:=most) e m a.isP
 rw [show i+1+tl (bl l)+1=i+(tl (bl l)+2) by omega] at this
 exact Rch.opd this (by omega)
theorem kX (j:Cx o T S E ρ) {t:Tm} (h:NOk t) (k:t.kind=2) {i f:Nat} {r:List (List UInt8)} {most:Int} (n:Sp E i (bl [jB o t.name]++r)) (d:Nx E (i+tl (bl [jB o t.name]))) (c:gE E (i+tl (bl [jB o t.name]))=true\/has T t.name 1=false) :
  Rch E f most i (fX ρ t) 0 (i+tl (bl [jB o t.name])):=by
 obtain ⟨_,m,_⟩:=h.atom k
 rw [bW,mY j,gC] at d c |-
 rw [bW,mY j,gC,ak] at n
 rw [yZ h k]
 rcases oh m n with ⟨a,b,l,e,g,q,_⟩ | ⟨u,v,g,_⟩
 ·rw [e,wP l,lB] at d c |-
  have:=xL (S:=mv E f) (most:=most) l g q d.1
  have p:(⟨#[a,b]⟩:ByteArray)=t.name:=by
   rw [<-iI t.name,e]
  rw [p] at this
  exact Rch.opd this (by omega)
 ·rw [oH m u v,lB] at d c |-
  have s:Bj E (E.at i) most (i+1)=false:=by
   unfold Bj
   rw [g.txt,iI,j.ops]
   rcases c with c | c
   ·rw [show i+1=i+(1+0) from rfl,c];simp
   ·rw [show lJ T t.name 1=false from c];rfl
  have:=Ic (S:=mv E f) (most:=most) g d.1 d.2 s
  rw [iI] at this
  exact Rch.opd this (by omega)
theorem GQ (g:Cx o T S E ρ) {t:Tm} (h:NOk t) (k:t.kind=0) {i f:Nat} {r:List (List UInt8)} {most:Int} (a:Sp E i (bl [s1 95++kj t.num]++r)) (d:i+tl (bl [s1 95++kj t.num])<E.T.length) :
  Rch E f most i (fX ρ t) 0 (i+tl (bl [s1 95++kj t.num])):=by
 obtain ⟨l,m,_⟩:=h.var k
 have e:t.num=(t.num.toNat:Int):=by omega
 rw [bW,vh,gC] at d |-
 rw [bW,vh,gC,ak] at a
 rw [e,Gg (by omega),lB] at d |-
 rw [e] at a
 obtain ⟨b,c,_⟩:=a.var (by omega)
 have j:=g.var i (by omega) _ b c
 have:=Kr (S:=mv E f) (most:=most) b
 rw [c,j,<-e,<-JZ h k] at this
 exact Rch.opd this (by omega)
theorem GS {t:Tm} (h:NOk t) (k:t.kind=1) {i f:Nat} {r:List (List UInt8)} {most:Int} (a:Sp E i (bl [kj t.num]++r)) :
  Rch E f most i (fX ρ t) 0 (i+tl (bl [kj t.num])):=by
 rw [bW,um,gC] at a |-
 rw [ak] at a
 rw [Kd h k]
 have m:=h.2
 by_cases l:0<=t.num
 ·have e:t.num=(t.num.toNat:Int):=by omega
  rw [e] at a |-
  obtain ⟨b,c,_⟩:=a.nat (by omega)
  rw [Gj (by omega),lB]
  have:=Kv (S:=mv E f) (most:=most) b (by omega)
  rw [c] at this
  exact Rch.opd this (by omega)
 ·have e:t.num=-((-t.num).toNat:Int):=by omega
  rw [e] at a |-
  obtain ⟨b,c,d,g,_⟩:=a.neg (by omega) (by omega)
  rw [Gi (by omega) (by omega),lB]
  have:=Ku (S:=mv E f) (most:=most) b c g
  have j:(if (E.at (i+1)).r.n=-9223372036854775808 then (E.at (i+1)).r.n else -(E.at (i+1)).r.n)=-((-t.num).toNat:Int):=by
   rw [d]
   unfold NI
   split <;> split <;> omega
  rw [j] at this
  exact Rch.opd this (by omega)
theorem Rch.fin {f:Nat} {max:Int} {i:Nat} {t:Tm} {p:Int} {m:Nat} (h:Rch E f max i t p m) (b:m<E.T.length) (a:Stop E m max):∃p,mv E (f+1) max i=.ok (t,p,m):=⟨p,h.done (by omega) a⟩
def OpFitQ (op:OpR):Prop:=op=op0\/(1<=op.prec/\op.prec<=1200)
theorem OpFitQ.le {op:OpR} (h:OpFitQ op):op.prec<=1200/\dB op<=op.prec/\0<=op.prec:=by
 rcases h with rfl | h
 ·decide
 ·have:=xc h;omega
theorem od {t:Tm} (h:NOk t) (max:Int) (a:Bool) :
  (t.kind=0/\bu o T S t max a=[s1 95++kj t.num])\/(t.kind=1/\bu o T S t max a=[kj t.num]) \/
  (t.kind=2/\((bu o T S t max a=[jB o t.name]/\(a=false\/lI T t.name=false))\/bu o T S t max a=s1 40::([jB o t.name]++[s1 41]))) \/
  (t.kind=3/\((bu o T S t max a=(S t).1/\(S t).2.prec<=max)\/bu o T S t max a=s1 40::((S t).1++[s1 41]))):=by
 unfold bu
 by_cases b:t.kind=0
 ·rw [if_pos b];exact .inl ⟨b,rfl⟩
 rw [if_neg b]
 by_cases c:t.kind=1
 ·rw [if_pos c];exact .inr (.inl ⟨c,rfl⟩)
 rw [if_neg c]
 by_cases d:t.kind=2
 ·rw [if_pos d]
  refine .inr (.inr (.inl ⟨d,?_⟩))
  cases hb:(a&&lI T t.name)
  ·rw [qS]
   exact .inl ⟨rfl,(gx.1 hb)⟩
  ·rw [qQ];exact .inr rfl
 rw [if_neg d]
 refine .inr (.inr (.inr ⟨by have:=h.kinds;omega,?_⟩))
 cases hb:decide (max<(S t).2.prec)
 ·rw [qS]
  rw [decide_eq_false_iff_not] at hb
  exact .inl ⟨rfl,by omega⟩
 ·rw [qQ];exact .inr rfl
theorem vH (n:Cx o T S E ρ) {t:Tm} (h:NOk t) (k:t.kind=3->FB E ρ t (S t).1 (S t).2/\OpFitQ (S t).2) {max s:Int} (x:max<=s) {u opd':Bool} (w:opd'=true->u=true):Nc E ρ t (bu o T S t max u) s opd':=by
 intro i f r d a j l b m
 rcases od (o:=o) (T:=T) (S:=S) h max u with ⟨c,e⟩ | ⟨c,e⟩ | ⟨c,⟨e,g⟩ | e⟩ | ⟨c,⟨e,g⟩ | e⟩ <;> rw [e] at d a j l b m |-
 ·exact (GQ n h c d a).fin a b
 ·exact (GS h c d).fin a b
 ·refine (kX n h c d l ?_).fin a b
  rcases g with g | g
  ·refine .inl (m ?_)
   cases opd'
   ·rfl
   ·rw [w rfl] at g;cases g
  ·exact .inr (qD n.val g 1)
 ·refine (tA (fun i f r d a j l b m=>?_) d a j).fin a b
  exact (kX n h c d l (.inl (m rfl))).fin a b
 ·obtain ⟨p,q⟩:=k c
  have v:=q.le
  exact (p i f s r d a j l (by omega) (fun _=>b.mono (by omega))).fin a b
 ·obtain ⟨p,q⟩:=k c
  have v:=q.le
  refine (tA (fun i f r d a j l b m=>?_) d a j).fin a b
  exact (p i f 1200 r d a j l (by omega) (fun _=>b.mono (by omega))).fin a b
theorem mE (a:Cx o T S E ρ) {t:Tm} (h:NOk t) (k:t.kind=3->FB E ρ t (S t).1 (S t).2/\OpFitQ (S t).2) (max:Int) (opd:Bool):Nc E ρ t (bu o T S t max opd) max opd:=vH a h k (Int.le_refl _) id
theorem BU {t:Tm} (h:NOk t) (op:OpR) :
  (t.kind=0/\dE o T S t op=[s1 95++kj t.num])\/(t.kind=1/\dE o T S t op=[kj t.num]) \/
  (t.kind=2/\((dE o T S t op=[jB o t.name]/\lI T t.name=false)\/dE o T S t op=s1 40::([jB o t.name]++[s1 41]))) \/
  (t.kind=3/\((dE o T S t op=(S t).1/\(S t).2.prec<=gi op/\¬(((op.typ=3\/op.typ=7)/\((S t).2.typ=2\/(S t).2.typ=4))/\(S t).2.prec=op.prec))\/dE o T S t op=s1 40::((S t).1++[s1 41]))):=by
 by_cases b:t.kind=3
 ·refine .inr (.inr (.inr ⟨b,?_⟩))
  unfold dE
  rw [if_pos b]
  cases a:(decide (gi op<(S t).2.prec)||((op.typ==3||op.typ==7)&&((S t).2.typ==2||(S t).2.typ==4))&&(S t).2.prec==op.prec)
  ·rw [qS]
   rw [Bool.or_eq_false_iff,decide_eq_false_iff_not] at a
   refine .inl ⟨rfl,by omega,fun f=>?_⟩
   have d:=a.2
   rw [<-dN] at d
   apply d
   simp only [aF,eU,beq_iff_eq]
   exact f
  ·rw [qQ];exact .inr rfl
 ·have e:dE o T S t op=bu o T S t (gi op) true:=by unfold dE;rw [if_neg b]
  rw [e]
  rcases od (o:=o) (T:=T) (S:=S) h (gi op) true with h | h | ⟨c,⟨h,a⟩ | h⟩ | h
  ·exact .inl h
  ·exact .inr (.inl h)
  ·refine .inr (.inr (.inl ⟨c,.inl ⟨h,?_⟩⟩))
   rcases a with a | a
   ·cases a
   ·exact a
  ·exact .inr (.inr (.inl ⟨c,.inr h⟩))
  ·exact absurd h.1 b
theorem GE {op:OpR} (h:1<=op.prec/\op.prec<=1200) (a:bX op.typ=1\/bX op.typ=2) (b:¬op.typ=2) (c:¬op.typ=4):dB op<op.prec:=by
 have d:op.typ=1\/op.typ=3\/op.typ=5:=by
  rcases a with a | a
  ·rcases KV a with a | a
   ·exact absurd a c
   ·exact .inr (.inr a)
  ·rcases DA a with a | a | a
   ·exact .inl a
   ·exact absurd a b
   ·exact .inr (.inl a)
 unfold dB
 rw [if_neg (by omega),if_pos d]
 omega
theorem AW {op:OpR} (h:1<=op.prec/\op.prec<=1200) (a:gi op=op.prec):op.typ=3\/op.typ=7:=by
 unfold gi at a
 rw [if_neg (by omega)] at a
 split at a
 ·omega
 ·split at a
  ·rename_i b;exact b
  ·omega
theorem Da (j:Cx o T S E ρ) {t:Tm} (h:NOk t) (k:t.kind=3->FB E ρ t (S t).1 (S t).2/\OpFitQ (S t).2) (op:OpR) (y:1<=op.prec/\op.prec<=1200) {i f:Nat} {most:Int} {r:List (List UInt8)}
  (a:Sp E i (bl (dE o T S t op)++r)) (b:i+tl (bl (dE o T S t op))<E.T.length) (d:tl (bl (dE o T S t op))<=f) (g:Nx E (i+tl (bl (dE o T S t op)))) (x:hQ E (i+tl (bl (dE o T S t op)))=(op,true)) (F:op.prec<=most) :
  ∃p,p<=gi op/\Rch E f most i (fX ρ t) p (i+tl (bl (dE o T S t op))):=by
 have G:=xc y
 rcases BU (o:=o) (T:=T) (S:=S) h op with ⟨c,e⟩ | ⟨c,e⟩ | ⟨c,⟨e,q⟩ | e⟩ | ⟨c,⟨e,q,v⟩ | e⟩ <;> rw [e] at a b d g x |-
 ·exact ⟨0,by omega,GQ j h c a b⟩
 ·exact ⟨0,by omega,GS h c a⟩
 ·exact ⟨0,by omega,kX j h c a g (.inr (qD j.val q 1))⟩
 ·refine ⟨0,by omega,tA (fun i f r a b d g l u=>?_) a b d⟩
  exact (kX j h c a g (.inl (u rfl))).fin b l
 ·obtain ⟨m,n⟩:=k c
  have C:=n.le
  refine ⟨_,q,m i f most r a b d g (by omega) (fun B=>?_)⟩
  intro _
  rw [x]
  show dB (S t).2<op.prec
  by_cases D:(S t).2.prec<op.prec
  ·omega
  ·have w:(S t).2.prec=op.prec:=by omega
   have s:=AW y (by omega)
   have:=GE (op:=(S t).2) (by omega) B (fun z=>v ⟨⟨s,.inl z⟩,w⟩) (fun A=>v ⟨⟨s,.inr A⟩,w⟩)
   omega
 ·obtain ⟨m,n⟩:=k c
  have C:=n.le
  refine ⟨0,by omega,tA (fun i f r a b d g l u=>?_) a b d⟩
  exact (m i f 1200 r a b d g (by omega) (fun _=>l.mono (by omega))).fin b l
theorem tv (d:Cx o T S E ρ):∀(l:List Tm),¬l=[]->(∀t∈l,Nc E ρ t (cR o T S t) 999 false)->∀(i f:Nat) (r:List (List UInt8)),
  Sp E i (bl (dh (cR o T S) l)++r)->i+tl (bl (dh (cR o T S) l))<E.T.length->tl (bl (dh (cR o T S) l))<=f->Nx E (i+tl (bl (dh (cR o T S) l)))->Stop E (i+tl (bl (dh (cR o T S) l))) 999->gE E (i+tl (bl (dh (cR o T S) l)))=true->isP (E.at (i+tl (bl (dh (cR o T S) l)))) [44]=false ->
  Ji E (mv E (f+1)) i (l.map (fX ρ)) (i+tl (bl (dh (cR o T S) l)))
 | [],h,_,_,_,_,_,_,_,_,_,_,_=>absurd rfl h
 | [t],_,hB,i,f,r,hs,hm,hf,a,hst,ha,hc=>by
  have e:dh (cR o T S) [t]=cR o T S t:=by unfold dh;simp
  rw [e] at hs hm hf a hst ha hc |-
  exact ⟨hB t (aG.2 rfl) i f r hs hm hf a hst (fun _=>ha),hc⟩
 | t::u::l,_,hB,i,f,r,hs,hm,hf,a,hst,ha,hc=>by
  have e:dh (cR o T S) (t::u::l)=cR o T S t++(s1 44::dh (cR o T S) (u::l)):=by unfold dh;simp
  have j:tl (bl (dh (cR o T S) (t::u::l)))=tl (bl (cR o T S t))+(1+tl (bl (dh (cR o T S) (u::l)))):=by
   rw [e,fB,kQ,bW,show (s1 44).data.toList=[44] from rfl,ja (by simp)]
  rw [j] at hm hf a hst ha hc |-
  rw [e,fB,bj] at hs
  obtain ⟨_,c⟩:=hs.app
  rw [bW,ak] at c
  obtain ⟨b,k⟩:=c.solo (by simp)
  have g:i+tl (bl (cR o T S t))+1+tl (bl (dh (cR o T S) (u::l)))=i+(tl (bl (cR o T S t))+(1+tl (bl (dh (cR o T S) (u::l))))):=by omega
  refine ⟨i+tl (bl (cR o T S t)),hB t (aV ..) i f _ hs (by omega) (by omega) (b.nx (by decide)) (CK b (.inl rfl)) (fun _=>b.alone (by decide)),b.isP,?_⟩
  have:=tv d (u::l) (by simp) (fun x a=>hB x (aW _ a)) (i+tl (bl (cR o T S t))+1) f r k
  rw [g] at this
  exact this hm (by omega) a hst ha hc
end
theorem qV {t:Tm} (h:t.args.length=2):t.args=[t.arg 0,t.arg 1]:=by
 obtain ⟨a,b,e⟩:∃a b,t.args=[a,b]:=by
  match t.args,h with
  | [a,b],_=>exact ⟨a,b,rfl⟩
 unfold Tm.arg
 rw [e];rfl
theorem qW {t:Tm} (h:t.args.length=1):t.args=[t.arg 0]:=by
 obtain ⟨a,e⟩:∃a,t.args=[a]:=List.length_eq_one_iff.1 h
 unfold Tm.arg
 rw [e];rfl
theorem Iz {l:List ByteArray} (h:HdL l):1<=tl (bl l):=by
 obtain ⟨p,r,rfl,h⟩:=h
 rw [bW]
 generalize p.data.toList=q at h
 cases h with
 | br c hc=>rw [ja (by rcases hc with rfl|rfl|rfl <;> simp)];omega
 | nm s hs=>
  by_cases a:s=[91,93]
  ·subst a;rw [wP (.inl ⟨rfl,rfl⟩)];omega
  by_cases b:s=[123,125]
  ·subst b;rw [wP (.inr ⟨rfl,rfl⟩)];omega
  rw [oH hs a b];omega
 | nat u hu=>rw [Gj hu];omega
 | neg u h0 hu=>rw [Gi h0 hu];omega
 | var u hu=>rw [Gg hu];omega
section
variable {o:WO} {T:List OpR} {S:Tm->WR} {E:RE} {ρ:Int->Int}
structure OpN (T:List OpR) (s:ByteArray) (c:Int):Prop where
 fit:1<=(cP T s c).prec/\(cP T s c).prec<=1200
 cls:bX (cP T s c).typ=c
 name:(cP T s c).name=s
 n1:¬s.data.toList=[91,93]
 n2:¬s.data.toList=[123,125]
 two:s.data.toList=[44]\/s.data.toList=[124]->c=2
 mem:cP T s c∈T
theorem mm {s:ByteArray} {c:Int} (h:has T s c=true):OpN T s c:=by
 obtain ⟨k,l,a,m⟩:=yd (Dp h)
 obtain ⟨b,d,f,g,i,j⟩:=zC m
 have e:(cP T s c).name.toList=s.data.toList:=by rw [l,gN]
 refine ⟨⟨b,d⟩,a,?_,fun x=>f (e.trans x),fun x=>g (e.trans x),fun x=>?_,k⟩
 ·rw [<-iI s];exact wy e
 ·rcases x with x | x
  ·have:=(i (e.trans x)).1
   rw [this] at a
   rw [<-a];decide
  ·rw [<-a];exact (j (e.trans x)).1
theorem Mo {s:ByteArray} (c:bB T=true) (h:has T s 3=true):has T s 2=false:=by
 cases h2:has T s 2
 ·rfl
 ·exfalso
  have a:=mm h
  have b:=mm h2
  exact sj c _ b.mem _ a.mem (by rw [a.name,b.name]) ⟨b.cls,a.cls⟩
theorem Mg (i:Cx o T S E ρ) {s:ByteArray} (k:s.data.toList.length<=100) (j:has T s 2=true) {m:Nat} {r:List (List UInt8)} (h:Sp E m ((jj o s).data.toList::r)) :
  hQ E m=(cP T s 2,true)/\Nx E m/\Sp E (m+1) r/\tl ((jj o s).data.toList::r)=1+tl r:=by
 have f:=mm j
 have g:(E.at m).txt=s->(ge (E.at m)=true\/isP (E.at m) [44]=true\/isP (E.at m) [124]=true)->hQ E m=(cP T s 2,true):=by
  intro n d
  unfold hQ
  simp only
  have l:(!ge (E.at m)&&(!isP (E.at m) [44] && !isP (E.at m) [124]))=false:=by
   rcases d with d | d | d <;> rw [d] <;> simp
  rw [l,if_neg (by simp),n,i.ops,if_pos (show lJ T s 2=true from j)]
  rfl
 unfold jj at h |-
 by_cases c:(s.toList==[44]||s.toList==[124])=true
 ·rw [if_pos c] at h |-
  rw [gN] at c
  simp only [eU,beq_iff_eq] at c
  have e:s.data.toList=[44]\/s.data.toList=[124]:=c
  rcases e with e | e
  ·rw [e] at h |-
   obtain ⟨a,b⟩:=h.solo (by simp)
   exact ⟨g (by unfold NextR.txt;rw [a.2,<-e,iI]) (.inr (.inl a.isP)),a.nx (by decide),b,ja (by simp) r⟩
  ·rw [e] at h |-
   obtain ⟨a,b⟩:=h.solo (by simp)
   exact ⟨g (by unfold NextR.txt;rw [a.2,<-e,iI]) (.inr (.inr a.isP)),a.nx (by decide),b,ja (by simp) r⟩
 ·rw [if_neg c,mY i] at h |-
  obtain ⟨a,b⟩:=h.name k f.n1 f.n2
  exact ⟨g (by rw [a.txt,iI]) (.inl a.nam),a.nx,⟨_,_,b⟩,oH k f.n1 f.n2⟩
theorem Ia (b:Cx o T S E ρ) {s:ByteArray} (e:s.data.toList.length<=100) (c:has T s 3=true) {m:Nat} {r:List (List UInt8)} (h:Sp E m ((jB o s).data.toList::r)) :
  hQ E m=(cP T s 3,true)/\Nx E m/\tl ((jB o s).data.toList::r)=1+tl r:=by
 have a:=mm c
 rw [mY b] at h |-
 obtain ⟨d,_⟩:=h.name e a.n1 a.n2
 refine ⟨?_,d.nx,oH e a.n1 a.n2⟩
 unfold hQ
 simp only
 rw [d.nam,d.txt,iI,b.ops,if_neg (by simp),if_neg (by rw [show lJ T s 2=false from Mo b.val c];simp),show lJ T s 3=true from c]
 rfl
theorem Hk {op:OpR} (h:bX op.typ=2):ph op=false:=by
 unfold ph
 rcases DA h with h | h | h <;> rw [h] <;> rfl
theorem Bl {op:OpR} (h:bX op.typ=3):ph op=true:=by
 unfold ph
 rcases Fp h with h | h <;> rw [h] <;> rfl
def Sm (S:Tm->WR) (E:RE) (ρ:Int->Int) (t:Tm):Prop:=∀u:Tm,Tm.All NOk u->u.nodes<t.nodes->NOk u/\(u.kind=3->FB E ρ u (S u).1 (S u).2/\OpFitQ (S u).2)
theorem tm {t:Tm} (h:Sm S E ρ t) (b:Tm.All NOk t) {j:Nat} (a:j<t.args.length):NOk (t.arg j)/\((t.arg j).kind=3->FB E ρ (t.arg j) (S (t.arg j)).1 (S (t.arg j)).2/\OpFitQ (S (t.arg j)).2):=by
 refine h _ ?_ (t.nodes_arg j a)
 rw [Tm.arg_get t j a]
 exact b.sub _ (aR a)
theorem EG (c:Cx o T S E ρ) {t:Tm} (a:Tm.All NOk t) (k:t.kind=3) (v:Sm S E ρ t) (e:has T t.name 2=true) (F:t.args.length=2) :
  FB E ρ t ((dE o T S (t.arg 0) (cP T t.name 2)++[jj o t.name])++bu o T S (t.arg 1) (dB (cP T t.name 2)) true) (cP T t.name 2):=by
 have b:=mm e
 have G:=(a.here.str k).2.1
 obtain ⟨N,L⟩:=tm v a (show 0<t.args.length by omega)
 obtain ⟨O,M⟩:=tm v a (show 1<t.args.length by omega)
 intro i f most r d j D u l s
 rw [fB,fB,bj,bj] at d
 obtain ⟨_,n⟩:=d.app
 rw [bW,gC,ak,an] at n
 obtain ⟨m,H,K,A⟩:=Mg c G e n
 have w:tl (bl ((dE o T S (t.arg 0) (cP T t.name 2)++[jj o t.name])++bu o T S (t.arg 1) (dB (cP T t.name 2)) true))=tl (bl (dE o T S (t.arg 0) (cP T t.name 2)))+(1+tl (bl (bu o T S (t.arg 1) (dB (cP T t.name 2)) true))):=by
  have y:tl ((jj o t.name).data.toList::[])=1:=by
   have B:=kQ [(jj o t.name).data.toList] (bl (bu o T S (t.arg 1) (dB (cP T t.name 2)) true)++r)
   rw [ak,an,A] at B
   omega
  rw [fB,fB,kQ,kQ,bW,gC,y]
  omega
 rw [w] at j D u s |-
 obtain ⟨f,rfl⟩:∃g,f=g+1:=⟨f-1,by omega⟩
 obtain ⟨p,I,C⟩:=Da (f:=f+1) c N L (cP T t.name 2) b.fit d (by omega) (by omega) H m l
 have z:i+tl (bl (dE o T S (t.arg 0) (cP T t.name 2)))+1+tl (bl (bu o T S (t.arg 1) (dB (cP T t.name 2)) true))=i+(tl (bl (dE o T S (t.arg 0) (cP T t.name 2)))+(1+tl (bl (bu o T S (t.arg 1) (dB (cP T t.name 2)) true)))):=by omega
 have h:=mE c O M (dB (cP T t.name 2)) true (i+tl (bl (dE o T S (t.arg 0) (cP T t.name 2)))+1) f r K
 rw [z] at h
 obtain ⟨q,J⟩:=h j (by omega) u (s (.inr b.cls)) (fun x=>by cases x)
 have:=C.infix (by omega) m (Hk b.cls) l I J (by omega)
 rw [mU a.here k,qV F,bE,bE,eG]
 rw [b.name] at this
 exact this
theorem GU (d:Cx o T S E ρ) {t:Tm} (a:Tm.All NOk t) (k:t.kind=3) (C:Sm S E ρ t) (e:has T t.name 3=true) (v:t.args.length=1) :
  FB E ρ t (dE o T S (t.arg 0) (cP T t.name 3)++[jB o t.name]) (cP T t.name 3):=by
 have b:=mm e
 have x:=(a.here.str k).2.1
 obtain ⟨F,D⟩:=tm C a (show 0<t.args.length by omega)
 intro i f most r c w u B g A
 rw [fB,bj] at c
 obtain ⟨_,j⟩:=c.app
 rw [bW,gC,ak,an] at j
 obtain ⟨h,y,n⟩:=Ia d x e j
 have l:tl (bl (dE o T S (t.arg 0) (cP T t.name 3)++[jB o t.name]))=tl (bl (dE o T S (t.arg 0) (cP T t.name 3)))+1:=by
  have m:tl ((jB o t.name).data.toList::[])=1:=by
   have q:=kQ [(jB o t.name).data.toList] r
   rw [ak,an,n] at q
   omega
  rw [fB,kQ,bW,gC,m]
 rw [l] at w u B A |-
 obtain ⟨p,z,s⟩:=Da (f:=f) d F D (cP T t.name 3) b.fit c (by omega) (by omega) y h g
 have:=s.postfix (by omega) h (Bl b.cls) g z
 rw [mU a.here k,qW v,bE,eG]
 rw [b.name] at this
 exact this
theorem ND {s:ByteArray} (h:MC s.data.toList=true):np s 0=true:=by
 cases hs:s.data.toList with
 | nil=>rw [hs] at h;cases h
 | cons d l=>
  rw [hs] at h
  have b:s.size=l.length+1:=by rw [<-ByteArray.size_data,<-eK,hs];rfl
  unfold np
  rw [hs,b,decide_eq_true (by omega)]
  have a:iK (d::l) 0=(d.toNat:Int):=rfl
  rw [a]
  simp only [MC,aF,decide_eq_true_iff] at h
  rw [decide_eq_true (by omega),decide_eq_true (by omega)];rfl
theorem Mq (l:List ByteArray):rE T (hd (s1 40::l))=false:=by
 show rE T (s1 40)=false
 unfold rE
 have:iK (s1 40).data.toList 0=40:=rfl
 rw [this];simp
theorem Kf (a:Cx o T S E ρ) {t:Tm} (p:Tm.All NOk t) (k:t.kind=3) (ih:Sm S E ρ t) (C:has T t.name 1=true) (hl:t.args.length=1) :
  FB E ρ t (jB o t.name::((if sx t.name (gD o T S (t.arg 0) (cP T t.name 1))=true then [s1 32] else [])++gD o T S (t.arg 0) (cP T t.name 1))) (cP T t.name 1):=by
 have b:=mm C
 have J:=(p.here.str k).2.1
 obtain ⟨v,K⟩:=tm ih p (show 0<t.args.length by omega)
 have D:Tm.All NOk (t.arg 0):=by
  rw [Tm.arg_get t 0 (by omega)];exact p.sub _ (aR _)
 have a6:=b.fit
 have a7:=xc b.fit
 have a2:=rJ a v (fun k=>(Cb a _ D k).1) (dB (cP T t.name 1)) true
 have a0:=AE (E:=E) a v (fun k=>(Cb a _ D k).2) (dB (cP T t.name 1))
 intro i f most r l j s u a4 n
 -- the argument's pieces
 have Z:∃P,gD o T S (t.arg 0) (cP T t.name 1)=P/\HdL P/\AL T E P/\rE T (hd P)=false/\Nc E ρ (t.arg 0) P (dB (cP T t.name 1)) true:=by
  refine ⟨_,rfl,?_⟩
  show HdL (brk (bu o T S (t.arg 0) (dB (cP T t.name 1)) true) (rE T (hd (bu o T S (t.arg 0) (dB (cP T t.name 1)) true))))/\_
  unfold gD
  simp only
  refine ⟨a2.brk,a0.brk,?_⟩
  cases hb:rE T (hd (bu o T S (t.arg 0) (dB (cP T t.name 1)) true))
  ·rw [qS]
   exact ⟨hb,mE a v K _ _⟩
  ·rw [qQ]
   refine ⟨Mq _,fun i f r l j s u n ha=>?_⟩
   exact (tA (vH a v K (by omega) (fun h=>by cases h)) l j s).fin j n
 obtain ⟨P,L,X,V,Y,W⟩:=Z
 rw [L] at l j s u n |-
 obtain ⟨p0,P1,w,y⟩:=id X
 have R:¬p0.data.toList=[32]:=by
  intro e
  rw [e] at y
  have U:HdL [s1 32]:=⟨_,_,rfl,y⟩
  have h5:=Iz U
  have:tl (bl [s1 32])=0:=by rw [bW,gC,show (s1 32).data.toList=[32] from rfl,Gh,lB]
  omega
 rw [bW,mY a,ak] at l
 obtain ⟨G,d⟩:=l.name J b.n1 b.n2
 have N:tl (bl (jB o t.name::((if sx t.name P=true then [s1 32] else [])++P)))=1+tl (bl P):=by
  rw [bW,mY a,oH J b.n1 b.n2,fB]
  split
  ·rw [bW,gC,show (s1 32).data.toList=[32] from rfl,ak,an,Gh]
  ·rw [gC,an]
 rw [N] at j s u n |-
 have hT:Sp E (i+1) (bl P++r)/\opn (E.at (i+1))=false/\¬(t.name.data.toList=[45]/\(E.at (i+1)).r.kind=4/\(E.at (i+1)).lay=false):=by
  by_cases c:sx t.name P=true
  ·rw [if_pos c,fB,bW,gC,show (s1 32).data.toList=[32] from rfl,ak,an,ak,ji,if_pos rfl] at d
   have I:(E.at (i+1)).lay=true:=by
    rw [w,bW,ak] at d
    exact LY R d
   refine ⟨⟨_,_,d⟩,?_,fun h=>?_⟩
   ·unfold opn;rw [I];simp
   ·rw [I] at h;cases h.2.2
  ·rw [if_neg c,an] at d
   have m:Sp E (i+1) (bl P++r):=⟨_,_,d⟩
   have H:=m
   rw [w,bW,ak] at H
   obtain ⟨_,_,O,Q⟩:=y.facts H
   rw [w] at c
   unfold sx at c
   simp only [eU,aF,beq_iff_eq,not_or,not_and] at c
   obtain ⟨z,A⟩:=c
   rw [gN] at z A
   refine ⟨m,?_,fun h=>?_⟩
   ·unfold opn
    cases hb:isP (E.at (i+1)) [40]
    ·rfl
    ·exact absurd (O hb) z
   ·exact A h.1 (ND (Q h.2.1))
 obtain ⟨m,a5,a3⟩:=hT
 have a1:=V (i+1) r m Y
 have hp:Bj E (E.at i) most (i+1)=true:=by
  unfold Bj
  rw [G.txt,iI,a.ops,show lJ T t.name 1=true from C,a1,decide_eq_true (by exact a4)]
  rfl
 obtain ⟨f,rfl⟩:∃g,f=g+1:=⟨f-1,by omega⟩
 have F:=W (i+1) f r m
 have M:i+1+tl (bl P)=i+(1+tl (bl P)):=by omega
 rw [M] at F
 obtain ⟨q,hq⟩:=F j (by omega) u (n (.inl b.cls)) (fun x=>by cases x)
 have B:(dt E.P ⟨t.name.data.toList.toArray⟩ 1).getD op0=cP T t.name 1:=by rw [iI,a.ops];rfl
 have:=Ks (most:=most) G a5 a3 hp (by rw [B];exact hq)
 rw [B,iI] at this
 rw [mU p.here k,qW hl,bE,eG]
 exact Rch.opd this (by omega)
end
section
variable {o:WO} {T:List OpR} {S:Tm->WR} {E:RE} {ρ:Int->Int}
theorem uz {t:Tm} (h:t.cons=true):t.kind=3/\t.name.toList=[46]/\t.args.length=2:=by
 unfold Tm.cons Tm.isNm at h
 simp only [aF,beq_iff_eq] at h
 exact ⟨h.1,h.2.1,h.2.2⟩
theorem qJ:∀(n:Nat) (t:Tm),t.nodes<=n->Tm.All NOk t->(∀x∈cK t,Tm.All NOk x/\x.nodes<t.nodes)/\Tm.All NOk (di t)/\(t.cons=true->(di t).nodes<t.nodes)/\(t.cons=false->di t=t)
 | 0,t,h,_=>absurd h (by have:=t.nodes_pos;omega)
 | n+1,t,h,hA=>by
  cases hc:t.cons
  ·rw [iH hc,jt hc]
   exact ⟨(fun x a=>by cases a),hA,(fun h=>by cases h),fun _=>rfl⟩
  ·have k:=Tm.cons_len hc
   have i:=t.nodes_arg 0 (by omega)
   have j:=t.nodes_arg 1 (by omega)
   have b:Tm.All NOk (t.arg 0):=by rw [Tm.arg_get t 0 (by omega)];exact hA.sub _ (aR _)
   have c:Tm.All NOk (t.arg 1):=by rw [Tm.arg_get t 1 (by omega)];exact hA.sub _ (aR _)
   obtain ⟨d,e,f,g⟩:=qJ n (t.arg 1) (by omega) c
   rw [iw hc,jL hc]
   refine ⟨fun x a=>?_,e,fun _=>?_,(fun h=>by cases h)⟩
   ·rcases bg.1 a with rfl | a
    ·exact ⟨b,i⟩
    ·have:=d x a
     exact ⟨this.1,by omega⟩
   ·cases h1:(t.arg 1).cons
    ·rw [g h1];exact j
    ·have:=f h1;omega
theorem Im:∀(n:Nat) (t:Tm),t.nodes<=n->Tm.All NOk t->sB ((cK t).map (fX ρ)) (fX ρ (di t))=fX ρ t
 | 0,t,h,_=>absurd h (by have:=t.nodes_pos;omega)
 | n+1,t,h,hA=>by
  cases hc:t.cons
  ·rw [iH hc,jt hc];rfl
  ·have c:=Tm.cons_len hc
   have e:=t.nodes_arg 1 (by omega)
   have a:Tm.All NOk (t.arg 1):=by rw [Tm.arg_get t 1 (by omega)];exact hA.sub _ (aR _)
   obtain ⟨b,d,_⟩:=uz hc
   rw [iw hc,jL hc,bE]
   show nC ⟨#[46]⟩ [fX ρ (t.arg 0),sB ((cK (t.arg 1)).map (fX ρ)) (fX ρ (di (t.arg 1)))]=_
   rw [Im n (t.arg 1) (by omega) a,mU hA.here b,qV c,wy d]
   rfl
theorem yW {P:Tm->List ByteArray}:∀l:List Tm,(∀t∈l,1<=tl (bl (P t)))->l.length<=tl (bl (dh P l))
 | [],_=>by simp
 | [t],h=>by
  have e:dh P [t]=P t:=by unfold dh;simp
  rw [e];exact h t (aG.2 rfl)
 | t::u::l,h=>by
  have e:dh P (t::u::l)=P t++(s1 44::dh P (u::l)):=by unfold dh;simp
  have:=yW (u::l) fun x a=>h x (aW _ a)
  have b:=h t (aV ..)
  rw [e,fB,kQ,bW,show (s1 44).data.toList=[44] from rfl,ja (by simp),bo]
  omega
theorem LZ {P:Tm->List ByteArray} {l:List Tm} (a:¬l=[]) (h:∀t∈l,HdL (P t)):HdL (dh P l):=by
 cases l with
 | nil=>exact absurd rfl a
 | cons t l=>unfold dh;exact (h t (aV ..)).app
theorem Cc {i:Nat} {l:List ByteArray} {r:List (List UInt8)} (h:HdL l) (a:Sp E i (bl l++r)):isP (E.at i) [93]=false/\isP (E.at i) [125]=false:=by
 obtain ⟨p,x,rfl,d⟩:=h
 rw [bW,ak] at a
 obtain ⟨b,c,_⟩:=d.facts a
 exact ⟨b,c⟩
theorem yl (a:Cx o T S E ρ) {u:Tm} (c:Tm.All NOk u) (m:Int) (b:Bool):HdL (bu o T S u m b):=rJ a c.here (fun k=>(Cb a u c k).1) m b
theorem sJ (g:Cx o T S E ρ) {t:Tm} (j:Sm S E ρ t) {l:List Tm} (s:¬l=[]) (e:∀x∈l,Tm.All NOk x/\x.nodes<t.nodes) {i f:Nat} {c:UInt8} {r:List (List UInt8)} (d:c=41\/c=93\/c=124)
  (h:Sp E i (bl (dh (cR o T S) l)++[c]::r)) (n:i+tl (bl (dh (cR o T S) l))<E.T.length) (q:tl (bl (dh (cR o T S) l))<=f) :
  rt E (mv E (f+1)) i=.ok (l.map (fX ρ),i+tl (bl (dh (cR o T S) l)))/\PuTk (E.at (i+tl (bl (dh (cR o T S) l)))) c/\Sp E (i+tl (bl (dh (cR o T S) l))+1) r:=by
 obtain ⟨_,k⟩:=h.app
 obtain ⟨a,m⟩:=k.solo (by rcases d with rfl|rfl|rfl <;> simp)
 have u:Stop E (i+tl (bl (dh (cR o T S) l))) 999:=by
  rcases d with rfl|rfl|rfl
  ·exact a.stop (by decide)
  ·exact a.stop (by decide)
  ·exact CK a (.inr rfl)
 have p:=tv g l s (fun x b=>mE g (j x (e x b).1 (e x b).2).1 (j x (e x b).1 (e x b).2).2 999 false) i f _ h n q (a.nx (by rcases d with rfl|rfl|rfl <;> decide)) u (a.alone (by rcases d with rfl|rfl|rfl <;> decide)) (a.notP (by rcases d with rfl|rfl|rfl <;> decide))
 refine ⟨JU p ?_,a,m⟩
 have:=yW (P:=cR o T S) l fun x b=>Iz (yl g (e x b).1 999 false)
 rw [List.length_map]
 omega
theorem GV (d:Cx o T S E ρ) {t:Tm} (w:Tm.All NOk t) (u:Sm S E ρ t) (y:t.cons=true) :
  FB E ρ t (s1 91::((dh (cR o T S) (cK t)++jd (cR o T S) (di t))++[s1 93])) op0:=by
 intro i f most r A h e b N C
 obtain ⟨m,F,M,_⟩:=qJ _ t (ag _) w
 have p:¬cK t=[]:=by rw [iw y];simp
 have z:=LZ (P:=cR o T S) p (fun x b=>yl d (m x b).1 999 false)
 rw [bW,show (s1 91).data.toList=[91] from rfl,ak] at A
 obtain ⟨D,a⟩:=A.solo (by simp)
 have v:=Im (ρ:=ρ) _ t (ag _) w
 by_cases c:((di t).kind==2&&(di t).isNm [91,93])=true
 ·have l:jd (cR o T S) (di t)=[]:=by unfold jd;rw [if_pos c]
  rw [l,List.append_nil] at a h e b C |-
  have n:tl (bl (s1 91::(dh (cR o T S) (cK t)++[s1 93])))=tl (bl (dh (cR o T S) (cK t)))+2:=by
   rw [bW,fB,show (s1 91).data.toList=[91] from rfl,ja (by simp),kQ,bW,show (s1 93).data.toList=[93] from rfl,ja (by simp),gC,lB];omega
  rw [n] at h e b |-
  rw [fB,bW,gC,bj,ak,an,show (s1 93).data.toList=[93] from rfl] at a
  obtain ⟨f,rfl⟩:∃g,f=g+1:=⟨f-1,by omega⟩
  obtain ⟨s,j,_⟩:=sJ (f:=f) d u p m (.inr (.inl rfl)) a (by omega) (by omega)
  have:=zy (most:=most) D (Cc z a).1 s (Gl (j.notP (by decide))) j.isP
  have H:(rD:Tm)=fX ρ (di t):=by
   simp only [aF,beq_iff_eq] at c
   rw [yZ F.here c.1]
   have:(di t).name=⟨#[91,93]⟩:=wy (by have:=c.2;unfold Tm.isNm at this;simpa using this)
   rw [this];rfl
  rw [H,v,show i+1+tl (bl (dh (cR o T S) (cK t)))+1=i+(tl (bl (dh (cR o T S) (cK t)))+2) by omega] at this
  exact Rch.opd this (by omega)
 ·have l:jd (cR o T S) (di t)=s1 124::cR o T S (di t):=by unfold jd;rw [if_neg c]
  rw [l] at a h e b C |-
  have n:tl (bl (s1 91::((dh (cR o T S) (cK t)++s1 124::cR o T S (di t))++[s1 93])))=tl (bl (dh (cR o T S) (cK t)))+(tl (bl (cR o T S (di t)))+3):=by
   rw [bW,fB,fB,show (s1 91).data.toList=[91] from rfl,ja (by simp),kQ,kQ,bW,bW,show (s1 93).data.toList=[93] from rfl,show (s1 124).data.toList=[124] from rfl,ja (by simp),ja (by simp),gC,lB];omega
  rw [n] at h e b |-
  rw [fB,fB,bW,bW,gC,bj,bj,ak,ak,an,show (s1 93).data.toList=[93] from rfl,show (s1 124).data.toList=[124] from rfl] at a
  obtain ⟨f,rfl⟩:∃g,f=g+1:=⟨f-1,by omega⟩
  obtain ⟨s,j,B⟩:=sJ (f:=f) d u p m (.inr (.inr rfl)) a (by omega) (by omega)
  obtain ⟨_,J⟩:=B.app
  obtain ⟨k,_⟩:=J.solo (by simp)
  obtain ⟨L,K⟩:=u _ F (M y)
  obtain ⟨q,I⟩:=mE d L K 999 false _ f _ B (show _<_ by show i+1+tl (bl (dh (cR o T S) (cK t)))+1+tl (bl (cR o T S (di t)))<_;omega) (show tl (bl (cR o T S (di t)))<=_ by omega) (k.nx (by decide)) (k.stop (by decide)) (fun _=>k.alone (by decide))
  have:=zy (most:=most) D (Cc z a).1 s (Gn j.isP I) k.isP
  rw [v] at this
  have G:i+1+tl (bl (dh (cR o T S) (cK t)))+1+tl (bl (bu o T S (di t) 999 false))+1=i+(tl (bl (dh (cR o T S) (cK t)))+(tl (bl (cR o T S (di t)))+3)):=by
   show i+1+tl (bl (dh (cR o T S) (cK t)))+1+tl (bl (cR o T S (di t)))+1=_
   omega
  rw [G] at this
  exact Rch.opd this (by omega)
theorem EH (d:Cx o T S E ρ) {t:Tm} (c:Tm.All NOk t) (k:t.kind=3) (w:Sm S E ρ t) (p:t.name.toList=[123,125]) (m:t.args.length=1) :
  FB E ρ t (s1 123::(bu o T S (t.arg 0) 1200 false++[s1 125])) op0:=by
 intro i f most r e n l v A B
 obtain ⟨y,x⟩:=tm w c (show 0<t.args.length by omega)
 have j:Tm.All NOk (t.arg 0):=by rw [Tm.arg_get t 0 (by omega)];exact c.sub _ (aR _)
 rw [bW,show (s1 123).data.toList=[123] from rfl,ak] at e
 obtain ⟨z,a⟩:=e.solo (by simp)
 have h:tl (bl (s1 123::(bu o T S (t.arg 0) 1200 false++[s1 125])))=tl (bl (bu o T S (t.arg 0) 1200 false))+2:=by
  rw [bW,fB,show (s1 123).data.toList=[123] from rfl,ja (by simp),kQ,bW,show (s1 125).data.toList=[125] from rfl,ja (by simp),gC,lB];omega
 rw [h] at n l v |-
 rw [fB,bW,gC,bj,ak,an,show (s1 125).data.toList=[125] from rfl] at a
 obtain ⟨_,u⟩:=a.app
 obtain ⟨b,_⟩:=u.solo (by simp)
 obtain ⟨f,rfl⟩:∃g,f=g+1:=⟨f-1,by omega⟩
 obtain ⟨q,s⟩:=mE d y x 1200 false _ f _ a (by omega) (by omega) (b.nx (by decide)) (b.stop (by decide)) (fun _=>b.alone (by decide))
 have:=ES (most:=most) z (Cc (yl d j 1200 false) a).2 s b.isP
 rw [show i+1+tl (bl (bu o T S (t.arg 0) 1200 false))+1=i+(tl (bl (bu o T S (t.arg 0) 1200 false))+2) by omega] at this
 rw [mU c.here k,qW m,bE,eG,wy p]
 exact Rch.opd this (by omega)
theorem GW (c:Cx o T S E ρ) {t:Tm} (h:Tm.All NOk t) (k:t.kind=3) (F:Sm S E ρ t) :
  FB E ρ t (jB o t.name::(s1 40::(dh (cR o T S) t.args++[s1 41]))) op0:=by
 intro i f most r D A w d N O
 obtain ⟨_,B,z,_⟩:=h.here.str k
 have C:¬t.args=[]:=fun e=>by rw [e] at z;simp at z
 have u:∀x∈t.args,Tm.All NOk x/\x.nodes<t.nodes:=by
  intro x d
  refine ⟨h.sub x d,?_⟩
  obtain ⟨j,y,rfl⟩:=cI d
  rw [<-Tm.arg_get t j y]
  exact t.nodes_arg j y
 rw [bW,mY c,ak,bW,show (s1 40).data.toList=[40] from rfl,ak,fB,bW,gC,bj,ak,an,show (s1 41).data.toList=[41] from rfl] at D
 have M:∀x,tl (bl (s1 40::(dh (cR o T S) t.args++[s1 41])))+x=tl (bl (dh (cR o T S) t.args))+2+x:=by
  intro x
  rw [wQ]
 rcases oh B D with ⟨a,b,v,e,K,L,m⟩ | ⟨I,J,H,m⟩
 ·have l:tl (bl (jB o t.name::(s1 40::(dh (cR o T S) t.args++[s1 41]))))=tl (bl (dh (cR o T S) t.args))+4:=by
   rw [bW,mY c,e,wP v,wQ];omega
  rw [l] at A w d |-
  obtain ⟨n,q⟩:=xd m
  obtain ⟨f,rfl⟩:∃g,f=g+1:=⟨f-1,by omega⟩
  obtain ⟨p,s,_⟩:=sJ (f:=f) c F C u (.inl rfl) q (by omega) (by omega)
  have:=xK (most:=most) v K L n p s.isP
  have G:(⟨#[a,b]⟩:ByteArray)=t.name:=by rw [<-iI t.name,e]
  rw [G,<-mU h.here k,show i+2+1+tl (bl (dh (cR o T S) t.args))+1=i+(tl (bl (dh (cR o T S) t.args))+4) by omega] at this
  exact Rch.opd this (by omega)
 ·have l:tl (bl (jB o t.name::(s1 40::(dh (cR o T S) t.args++[s1 41]))))=tl (bl (dh (cR o T S) t.args))+3:=by
   rw [bW,mY c,oH B I J,wQ];omega
  rw [l] at A w d |-
  obtain ⟨n,q⟩:=xd m
  obtain ⟨f,rfl⟩:∃g,f=g+1:=⟨f-1,by omega⟩
  obtain ⟨p,s,_⟩:=sJ (f:=f) c F C u (.inl rfl) q (by omega) (by omega)
  have:=Ib (most:=most) H n p s.isP
  rw [iI,<-mU h.here k,show i+1+1+tl (bl (dh (cR o T S) t.args))+1=i+(tl (bl (dh (cR o T S) t.args))+3) by omega] at this
  exact Rch.opd this (by omega)
theorem xw (a:Cx o T S E ρ):∀(n:Nat) (t:Tm),t.nodes<=n->Tm.All NOk t->t.kind=3->FB E ρ t (S t).1 (S t).2/\OpFitQ (S t).2
 | 0,t,h,_,_=>absurd h (by have:=t.nodes_pos;omega)
 | n+1,t,h,hA,k=>by
  have e:Sm S E ρ t:=fun u i l=>⟨i.here,fun j=>xw a n u (by omega) i j⟩
  rw [a.st t hA k]
  unfold mw
  rw [qC a,if_neg (by simp)]
  by_cases g:(t.isNm [46]&&t.args.length==2)=true
  ·rw [if_pos g]
   exact ⟨GV a hA e (by unfold Tm.cons;rw [k,g];rfl),.inl rfl⟩
  rw [if_neg g]
  by_cases f:(!o.ig&&(t.isNm [123,125]&&t.args.length==1))=true
  ·rw [if_pos f]
   simp only [aF,beq_iff_eq,Tm.isNm] at f
   exact ⟨EH a hA k e f.2.1 f.2.2,.inl rfl⟩
  rw [if_neg f]
  by_cases b:(!o.ig&&(has T t.name 2&&t.args.length==2))=true
  ·rw [if_pos b]
   simp only [aF,beq_iff_eq] at b
   exact ⟨EG a hA k e b.2.1 b.2.2,.inr (mm b.2.1).fit⟩
  rw [if_neg b]
  by_cases c:(!o.ig&&(has T t.name 1&&t.args.length==1))=true
  ·rw [if_pos c]
   simp only [aF,beq_iff_eq] at c
   exact ⟨Kf a hA k e c.2.1 c.2.2,.inr (mm c.2.1).fit⟩
  rw [if_neg c]
  by_cases d:(!o.ig&&(has T t.name 3&&t.args.length==1))=true
  ·rw [if_pos d]
   simp only [aF,beq_iff_eq] at d
   exact ⟨GU a hA k e d.2.1 d.2.2,.inr (mm d.2.1).fit⟩
  rw [if_neg d]
  exact ⟨GW a hA k e,.inl rfl⟩
theorem Ke (a:Cx o T S E ρ) {t:Tm} (b:Tm.All NOk t) (max:Int) (opd:Bool):Nc E ρ t (bu o T S t max opd) max opd :=
 mE a b.here (fun k=>xw a _ t (ag _) b k) max opd
end
section
variable {o:WO} {T:List OpR} {S:Tm->WR} {E:RE} {ρ:Int->Int}
theorem yH:∀{a b:List (List UInt8)},rV a->rV b->rV (a++b)
 | [],_,_,h=>h
 | p::a,b,h,k=>by
  rw [ak,rV]
  refine ⟨fun e=>?_,yH h.2 k⟩
  obtain ⟨q,r,c,d⟩:=h.1 e
  exact ⟨q,r++b,by rw [c];rfl,d⟩
structure PL (l:List ByteArray):Prop where
 pc:∀p∈bl l,p=[32]\/PcOk p
 sp:rV (bl l)
theorem PL.nil:PL []:=⟨(fun p a=>by cases a),trivial⟩
theorem PL.app {a b:List ByteArray} (h:PL a) (k:PL b):PL (a++b):=by
 refine ⟨fun p c=>?_,?_⟩
 ·rw [fB] at c
  rcases List.mem_append.1 c with c | c
  ·exact h.pc p c
  ·exact k.pc p c
 ·rw [fB];exact yH h.sp k.sp
theorem PL.cons {a:ByteArray} {b:List ByteArray} (h:PcOk a.data.toList) (k:PL b):PL (a::b):=by
 refine ⟨fun p c=>?_,?_⟩
 ·rw [bW] at c
  rcases bg.1 c with rfl | c
  ·exact .inr h
  ·exact k.pc p c
 ·rw [bW,rV]
  exact ⟨fun e=>absurd e h.sp,k.sp⟩
theorem PL.one {a:ByteArray} (h:PcOk a.data.toList):PL [a]:=.cons h .nil
theorem PL.solo {c:UInt8} {b:List ByteArray} (a:c=40\/c=41\/c=91\/c=93\/c=123\/c=125\/c=44\/c=124) (k:PL b):PL (s1 c::b):=.cons (mV a).1 k
theorem PL.brk {l:List ByteArray} {b:Bool} (h:PL l):PL (brk l b):=by
 cases b
 ·rw [qS];exact h
 ·rw [qQ];exact .solo (by simp) (h.app (.solo (by simp) .nil))
theorem tD (a:Cx o T S E ρ) {t:Tm} (h:NOk t) (k:t.kind=3->PL (S t).1) (m:Int) (b:Bool):PL (bu o T S t m b):=by
 rcases od (o:=o) (T:=T) (S:=S) h m b with ⟨c,e⟩ | ⟨c,e⟩ | ⟨c,⟨e,d⟩ | e⟩ | ⟨c,⟨e,d⟩ | e⟩ <;> rw [e]
 ·obtain ⟨f,g,_⟩:=h.var c
  have e:t.num=(t.num.toNat:Int):=by omega
  refine .one ?_
  rw [vh,e]
  exact (wT _ (by omega)).2.2.1
 ·refine .one ?_
  rw [um]
  have d:=h.2
  by_cases f:0<=t.num
  ·have e:t.num=(t.num.toNat:Int):=by omega
   rw [e];exact (tF _ (by omega)).1
  ·have e:t.num=-((-t.num).toNat:Int):=by omega
   rw [e];exact (xB _ (by omega) (by omega)).1
 ·exact .one (by rw [mY a];exact (oS _ (h.atom c).2.1).1)
 ·exact .solo (by simp) (.app (.one (by rw [mY a];exact (oS _ (h.atom c).2.1).1)) (.solo (by simp) .nil))
 ·exact k c
 ·exact .solo (by simp) ((k c).app (.solo (by simp) .nil))
theorem Kk (a:Cx o T S E ρ) {t:Tm} (h:NOk t) (k:t.kind=3->PL (S t).1) (op:OpR):PL (dE o T S t op):=by
 unfold dE
 by_cases c:t.kind=3
 ·rw [if_pos c];exact (k c).brk
 ·rw [if_neg c];exact tD a h k _ _
theorem Bp {P:Tm->List ByteArray}:∀l:List Tm,(∀t∈l,PL (P t))->PL (dh P l)
 | [],_=>.nil
 | [t],h=>by
  have e:dh P [t]=P t:=by unfold dh;simp
  rw [e];exact h t (aG.2 rfl)
 | t::u::l,h=>by
  have e:dh P (t::u::l)=P t++(s1 44::dh P (u::l)):=by unfold dh;simp
  rw [e]
  exact (h t (aV ..)).app (.solo (by simp) (Bp (u::l) fun x a=>h x (aW _ a)))
theorem Hr (d:Cx o T S E ρ):∀(n:Nat) (t:Tm),t.nodes<=n->Tm.All NOk t->t.kind=3->PL (S t).1
 | 0,t,h,_,_=>absurd h (by have:=t.nodes_pos;omega)
 | n+1,t,h,hA,k=>by
  have K:∀u:Tm,Tm.All NOk u->u.nodes<t.nodes->u.kind=3->PL (S u).1:=fun u w J U=>Hr d n u (by omega) w U
  have i:∀u:Tm,Tm.All NOk u->u.nodes<t.nodes->∀m b,PL (bu o T S u m b):=fun u w J m b=>tD d w.here (K u w J) m b
  obtain ⟨_,Q,a,_⟩:=hA.here.str k
  have g:∀j,j<t.args.length->Tm.All NOk (t.arg j):=by
   intro j q
   rw [Tm.arg_get t j q];exact hA.sub _ (aR q)
  have s:PcOk (jB o t.name).data.toList:=by rw [mY d];exact (oS _ Q).1
  have I:∀op,PL (dE o T S (t.arg 0) op):=fun op=>Kk d (g 0 a).here (K _ (g 0 a) (t.nodes_arg 0 a)) op
  have F:∀x∈t.args,Tm.All NOk x/\x.nodes<t.nodes:=by
   intro x c
   refine ⟨hA.sub x c,?_⟩
   obtain ⟨j,q,rfl⟩:=cI c
   rw [<-Tm.arg_get t j q]
   exact t.nodes_arg j q
  rw [d.st t hA k]
  unfold mw
  rw [qC d,if_neg (by simp)]
  by_cases y:(t.isNm [46]&&t.args.length==2)=true
  ·rw [if_pos y]
   have P:t.cons=true:=by unfold Tm.cons;rw [k,y];rfl
   obtain ⟨r,V,W,_⟩:=qJ _ t (ag _) hA
   refine .solo (by simp) (((Bp _ fun x c=>i x (r x c).1 (r x c).2 999 false).app ?_).app (.solo (by simp) .nil))
   unfold jd
   split
   ·exact .nil
   ·exact .solo (by simp) (i _ V (W P) 999 false)
  rw [if_neg y]
  by_cases B:(!o.ig&&(t.isNm [123,125]&&t.args.length==1))=true
  ·rw [if_pos B]
   exact .solo (by simp) ((i _ (g 0 a) (t.nodes_arg 0 a) 1200 false).app (.solo (by simp) .nil))
  rw [if_neg B]
  by_cases z:(!o.ig&&(has T t.name 2&&t.args.length==2))=true
  ·rw [if_pos z]
   simp only [aF,beq_iff_eq] at z
   have G:1<t.args.length:=by omega
   refine ((I _).app (.one ?_)).app (i _ (g 1 G) (t.nodes_arg 1 G) _ _)
   unfold jj
   split
   ·rename_i f
    rw [gN] at f
    simp only [eU,beq_iff_eq] at f
    rcases f with f | f
    ·rw [f];exact (mV (by simp)).1
    ·rw [f];exact (mV (by simp)).1
   ·exact s
  rw [if_neg z]
  by_cases C:(!o.ig&&(has T t.name 1&&t.args.length==1))=true
  ·rw [if_pos C]
   have R:=i _ (g 0 a) (t.nodes_arg 0 a) (dB (cP T t.name 1)) true
   have A:PL (gD o T S (t.arg 0) (cP T t.name 1)):=R.brk
   have O:HdL (gD o T S (t.arg 0) (cP T t.name 1)):=(yl d (g 0 a) _ _).brk
   refine .cons s ?_
   split
   ·refine ⟨fun p v=>?_,?_⟩
    ·rw [ak,an,bW] at v
     rcases bg.1 v with rfl | v
     ·exact .inl rfl
     ·exact A.pc p v
    ·obtain ⟨L,M,r,H⟩:=id O
     have N:¬L.data.toList=[32]:=by
      intro e
      rw [e] at H
      have X:=Iz (l:=[s1 32]) ⟨_,_,rfl,H⟩
      have:tl (bl [s1 32])=0:=by rw [bW,gC,show (s1 32).data.toList=[32] from rfl,Gh,lB]
      omega
     rw [ak,an,bW,rV]
     exact ⟨fun _=>⟨L.data.toList,bl M,by rw [r,bW],N⟩,A.sp⟩
   ·exact A
  rw [if_neg C]
  by_cases D:(!o.ig&&(has T t.name 3&&t.args.length==1))=true
  ·rw [if_pos D]
   exact (I _).app (.one s)
  rw [if_neg D]
  exact .cons s (.solo (by simp) ((Bp _ fun x c=>i x (F x c).1 (F x c).2 999 false).app (.solo (by simp) .nil)))
theorem Dc (a:Cx o T S E ρ) {t:Tm} (c:Tm.All NOk t) (m:Int) (b:Bool):PL (bu o T S t m b) :=
 tD a c.here (fun k=>Hr a _ t (ag _) c k) m b
end
end Hb
