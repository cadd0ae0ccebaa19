/- Parts of the proof. -/
import Derived.Test.YtbojljpldcijgaaGreatR01
import Derived.Test.YtbojljpldcijgaaGreatProg
import Derived.Lib.Bytealg
import Derived.Deep.QuietTactic
import Derived.BigQuiet
import Derived.LoopTactic
import Derived.Deep.DeepMust
set_option maxHeartbeats 12800000
set_option maxRecDepth 100000
open Go renaming Calls -> aU, World -> au
open Go.Ending renaming returned -> aD
open Go.IntKind renaming i64 -> ab
open Go.Lib renaming indexByte -> dX
open Go.Proofs.Tryz renaming prog -> am, underlying168 -> aZ
open Go.RowKit renaming Below -> aB
open Go.RowKit.Below renaming refl -> ap
open Go.Value renaming bool -> av, int -> aa, pointer -> ar, string -> ac
open Go.World renaming cell?_alloc_new -> aF, cell?_of_block -> bd
open Int renaming eq_ofNat_of_zero_le -> bU, toNat_natCast -> aI
open List renaming drop_drop -> cV, getD_eq_getElem?_getD -> bt, getElem?_append_left -> dT, getElem?_eq_getElem -> bi, length_append -> bC, length_drop -> aN, take_succ_eq_append_getElem -> bl
open Nat renaming add_zero -> bj, le_refl -> ae, zero_le -> bc
namespace Hb
structure LexR where
 kind:Int
 text:List UInt8
 n:Int
 at_:Int
 end_:Int
 err:Int
def cY (e:Int):LexR:=⟨0,[],0,0,0,e⟩
def dI (d:Int) (a:List UInt8) (b c:Int):LexR:=if 100<a.length then cY 2 else ⟨d,a,0,b,c,0⟩
def jU (c:Int):Int:=if cls c=3 then 3 else 1
def ir (c:Int):Int:=if c=33\/c=59 then 1 else 6
def oi (m:List UInt8) (p:Nat):LexR:=dI (jU (ak m p)) ((m.drop p).take (br cL (m.drop p))) p (p+br cL (m.drop p))
def iI (c:Int):Bool:=decide (c<0)||(c==37||cls c==1)
def km (m:List UInt8) (p:Nat):LexR :=
 if ak m p=46/\iI (ak m (p+1))=true then ⟨7,[46],0,p,p+1,0⟩
 else dI 1 ((m.drop p).take (br cJ (m.drop p))) p (p+br cJ (m.drop p))
def pl (m:List UInt8) (p:Nat):LexR:=dI (ir (ak m p)) ((m.drop p).take 1) p (p+1)
def bg (c:Int) (l:List UInt8):Nat:=l.foldl (fun a b=>a * c.toNat+(cG (b.toNat:Int) c).toNat) 0
def fM (a:Int) (b:List UInt8) (p e:Int):LexR :=
 if bg a b<=9223372036854775808 then ⟨4,[],if bg a b=9223372036854775808 then -9223372036854775808 else bg a b,p,e,0⟩ else cY 7
def bJ (a:Int) (c:Int):Bool:=fq c a
def lw (l:List UInt8):Int:=if ak l 1=120 then 16 else 8
def gV (l:List UInt8):Nat:=if ak l 1=120 then 2 else 1
def gU (l:List UInt8):Nat:=br (bJ (lw l)) (l.drop (gV l))
def kG (l:List UInt8):Nat:=bg (lw l) ((l.drop (gV l)).take (gU l))
def cD (l:List UInt8) (q:Int):Option (Int×Nat) :=
 if ak l 0<0\/ak l 0=10 then none
 else if ak l 0=q then (if ak l 1=q then some (q,2) else none)
 else if ak l 0≠92 then some (ak l 0,1)
 else if iD (ak l 1)=true then some (mX (ak l 1),2)
 else if 0<gU l/\kG l<=255/\ak l (gV l+gU l)=92 then some (kG l,gV l+gU l+1)
 else none
def cS (m:List UInt8) (p:Nat):Int:=if ak m p=48 then (if ak m (p+1)=120 then 16 else if ak m (p+1)=111 then 8 else if ak m (p+1)=98 then 2 else 0) else 0
def ew (m l:List UInt8) (p:Nat):LexR :=
 if ak m p=48/\ak m (p+1)=39 then
  match cD (l.drop (p+2)) 39 with
  | none=>cY 7
  | some (c,k)=>⟨4,[],c,p,p+2+k,0⟩
 else if 0<cS m p/\0<br (bJ (cS m p)) (m.drop (p+2)) then
  fM (cS m p) ((m.drop (p+2)).take (br (bJ (cS m p)) (m.drop (p+2)))) p (p+2+br (bJ (cS m p)) (m.drop (p+2)))
 else fM 10 ((m.drop p).take (br (bJ 10) (m.drop p))) p (p+br (bJ 10) (m.drop p))
def kc:Nat->List UInt8->Int->Option (List UInt8×Nat)
 | 0,_,_=>none
 | f+1,l,q=>
  if ak l 0=q/\¬ak l 1=q then some ([],0)
  else if ak l 0=92/\ak l 1=10 then (kc f (l.drop 2) q).map fun x=>(x.1,x.2+2)
  else match cD l q with
   | none=>none
   | some (c,k)=>(kc f (l.drop k) q).map fun x=>(c.toNat.toUInt8::x.1,x.2+k)
def jj (l:List UInt8) (q:Int):Option (List UInt8×Nat):=kc (l.length+1) l q
def lO (p:Nat):Option (List UInt8×Nat)->LexR
 | none=>cY 7
 | some x=>⟨5,x.1,0,p,p+1+x.2+1,0⟩
def ts (p:Nat):Option (List UInt8×Nat)->LexR
 | none=>cY 7
 | some x=>dI 2 x.1 p (p+1+x.2+1)
def gR (m l:List UInt8) (p:Nat):LexR :=
 if ak m p=34 then lO p (jj (l.drop (p+1)) 34)
 else if ak m p=39 then ts p (jj (l.drop (p+1)) 39)
 else cY 7
def dg (m l:List UInt8) (p:Nat):LexR :=
 if ak m p=47/\ak m (p+1)=42 then cY 7
 else if cls (ak m p)=2\/cls (ak m p)=3 then oi m p
 else if cls (ak m p)=4 then ew m l p
 else if cls (ak m p)=5 then km m p
 else if cls (ak m p)=6 then pl m p
 else if cls (ak m p)=7 then gR m l p
 else cY 7
structure NextR where
 r:LexR
 lay:Bool
 where_:Int
def bD (m l:List UInt8) (a:Nat):NextR :=
 let p:=a+cd (m.drop a)
 if p=l.length then ⟨cY 14,false,p⟩
 else if (dg m l p).err=0 then ⟨dg m l p,decide (a<p),0⟩
 else ⟨cY (dg m l p).err,false,p⟩
end Hb
namespace Hb
open Go Go.RowKit
def Cu:NextR:=⟨cY 0,false,0⟩
def lJ (T:List NextR) (i:Nat):NextR:=T.getD (min i (T.length-1)) Cu
def NextR.txt (t:NextR):ByteArray:=⟨t.r.text.toArray⟩
def dp (t:NextR) (s:List UInt8):Bool:=t.r.kind==6&&t.r.text==s
def fa (t:NextR):Bool:=t.r.kind==1||t.r.kind==2
def qW (t:NextR):Bool:=dp t [40] && !t.lay
structure VS where
 c:Nat
 m:List (List UInt8×Nat)
 o:List Nat
def VS.look (v:VS) (x:List UInt8):Option Nat:=(v.m.find? fun p=>p.1==x).map (·.2)
def VS.num (v:VS) (x:List UInt8):Nat:=if x=[95] then v.c else (v.look x).getD v.c
def VS.old (v:VS) (x:List UInt8):Bool:=decide (¬x=[95])&&(v.look x).isSome
def VS.step (v:VS) (x:List UInt8):VS:=⟨if v.old x=true then v.c else v.c+1,if v.old x=true\/x=[95] then v.m else v.m++[(x,v.c)],v.o++[v.num x]⟩
def vs0:VS:=⟨0,[],[]⟩
def mB (t:NextR):Bool:=t.r.kind==3
def ry (T:List NextR):VS:=(T.filter mB).foldl (fun v t=>v.step t.r.text) vs0
def bv (T:List NextR) (n:Nat):VS:=ry (T.take n)
structure RE where
 T:List NextR
 P:List OpR
 q:Int
def ju (s:ByteArray) (l:List Tm):Tm:=.mk 3 0 s l
def qj (s:ByteArray):Tm:=.mk 2 0 s []
def pQ (n:Int):Tm:=.mk 1 n ⟨#[]⟩ []
def AT (n:Int):Tm:=.mk 0 n ⟨#[]⟩ []
def la (l:List Tm) (a:Tm):Tm:=l.foldr (fun x t=>ju ⟨#[46]⟩ [x,t]) a
def kn:Tm:=qj ⟨#[91,93]⟩
def xy (q:Int) (c:UInt8):Tm:=if q=1 then pQ c.toNat else qj ⟨#[c]⟩
def tY (q:Int) (s:List UInt8):Tm:=if q=3 then qj ⟨s.toArray⟩ else la (s.map (xy q)) kn
abbrev RR (α:Type):=Except Nat α
abbrev PT:=Int->Nat->RR (Tm×Int×Nat)
def RE.at (E:RE) (n:Nat):NextR:=lJ E.T n
def qp (E:RE) (S:PT):Nat->Nat->RR (List Tm×Nat)
 | 0,n=>.error n
 | k+1,n=>match S 999 n with
  | .error e=>.error e
  | .ok (t,_,m)=>if dp (E.at m) [44]=true then (match qp E S k (m+1) with
    | .error e=>.error e
    | .ok (l,i)=>.ok (t::l,i))
   else .ok ([t],m)
def kN (E:RE) (S:PT) (n:Nat):RR (List Tm×Nat):=qp E S E.T.length n
def gy {α:Type} (E:RE) (s:List UInt8) (n:Nat) (a:α):RR (α×Nat):=if dp (E.at n) s=true then .ok (a,n+1) else .error n
def ky (E:RE) (S:PT) (s:ByteArray) (n:Nat):RR (Option Tm×Nat) :=
 if qW (E.at n)=true then (match kN E S (n+1) with
  | .error e=>.error e
  | .ok (l,m)=>gy E [41] m (some (ju s l)))
 else .ok (none,n)
def lv (P:List OpR) (s:ByteArray) (c:Int):Bool:=(dK P s c).isSome
def jo (E:RE) (n:Nat):Bool :=
 if (E.at n).r.kind=7 then true
 else if (E.at n).r.kind=6 then decide (¬(E.at n).r.text=[40])&&(decide (¬(E.at n).r.text=[91])&&decide (¬(E.at n).r.text=[123]))
 else if (!fa (E.at n)||qW (E.at (n+1)))=true then false
 else !lv E.P (E.at n).txt 1&&(lv E.P (E.at n).txt 2||lv E.P (E.at n).txt 3)
def kF (E:RE) (t:NextR) (n:Nat):Bool:=t.r.kind==1&&(t.r.text==[45]&&((E.at n).r.kind==4 && !(E.at n).lay))
def Cb (E:RE) (t:NextR) (a:Int) (n:Nat):Bool:=lv E.P t.txt 1&&(decide (((dK E.P t.txt 1).getD jL).prec<=a) && !jo E n)
def tr (E:RE) (S:PT) (t:NextR) (a:Int) (n:Nat):RR (Tm×Int×Nat) :=
 match ky E S t.txt n with
 | .error e=>.error e
 | .ok (some u,m)=>.ok (u,0,m)
 | .ok (none,_)=>
  if kF E t n=true then .ok (pQ (if (E.at n).r.n=-9223372036854775808 then (E.at n).r.n else -(E.at n).r.n),0,n+1)
  else if Cb E t a n=true then (match S (ig ((dK E.P t.txt 1).getD jL)) n with
   | .error e=>.error e
   | .ok (u,_,m)=>.ok (ju t.txt [u],((dK E.P t.txt 1).getD jL).prec,m))
  else .ok (qj t.txt,0,n)
def jE (E:RE) (S:PT) (s:ByteArray) (n:Nat):RR (Tm×Nat) :=
 match ky E S s n with
 | .error e=>.error e
 | .ok (some u,m)=>.ok (u,m)
 | .ok (none,m)=>.ok (qj s,m)
def sJ (E:RE) (S:PT) (n:Nat):RR (Tm×Nat) :=
 if dp (E.at n) [124]=true then (match S 999 (n+1) with
  | .error e=>.error e
  | .ok (t,_,m)=>.ok (t,m))
 else .ok (kn,n)
def qZ (E:RE) (S:PT) (n:Nat):RR (Tm×Nat) :=
 match kN E S n with
 | .error e=>.error e
 | .ok (l,m)=>(match sJ E S m with
  | .error e=>.error e
  | .ok (t,i)=>gy E [93] i (la l t))
def zZ (E:RE) (S:PT) (s:List UInt8) (F:Tm->Tm) (n:Nat):RR (Tm×Nat) :=
 match S 1200 n with
 | .error e=>.error e
 | .ok (t,_,m)=>gy E s m (F t)
def lB (E:RE) (S:PT) (s:List UInt8) (n:Nat):RR (Tm×Nat) :=
 if s=[40] then zZ E S [41] id n
 else if s=[91]/\dp (E.at n) [93]=true then jE E S ⟨#[91,93]⟩ (n+1)
 else if s=[123]/\dp (E.at n) [125]=true then jE E S ⟨#[123,125]⟩ (n+1)
 else if s=[91] then qZ E S n
 else zZ E S [125] (fun t=>ju ⟨#[123,125]⟩ [t]) n
def kW (t:NextR):Bool:=dp t [40]||(dp t [91]||dp t [123])
def kQ (E:RE) (S:PT) (a:Int) (n:Nat):RR (Tm×Int×Nat) :=
 let t:=E.at n
 if t.r.kind=4/\0<=t.r.n then .ok (pQ t.r.n,0,n+1)
 else if t.r.kind=3 then .ok (AT ((bv E.T n).num t.r.text),0,n+1)
 else if t.r.kind=5 then .ok (tY E.q t.r.text,0,n+1)
 else if kW t=true then (match lB E S t.r.text (n+1) with
  | .error e=>.error e
  | .ok (u,m)=>.ok (u,0,m))
 else if fa t=true then tr E S t a (n+1)
 else .error n
def gS (E:RE) (n:Nat):OpR×Bool :=
 let t:=E.at n
 if (!fa t&&(!dp t [44] && !dp t [124]))=true then (jL,false)
 else if lv E.P t.txt 2=true then ((dK E.P t.txt 2).getD jL,true)
 else ((dK E.P t.txt 3).getD jL,lv E.P t.txt 3)
def vX (o:OpR×Bool) (a b:Int):Bool:=!o.2||(decide (a<o.1.prec)||decide (kL o.1<b))
def qS (o:OpR):Bool:=o.typ==6||o.typ==7
def iw (E:RE) (S:PT) (a:Int):Nat->Tm->Int->Nat->RR (Tm×Int×Nat)
 | 0,_,_,n=>.error n
 | k+1,t,prec,n=>
  if vX (gS E n) a prec=true then .ok (t,prec,n)
  else if qS (gS E n).1=true then iw E S a k (ju (gS E n).1.name [t]) (gS E n).1.prec (n+1)
  else match S (ig (gS E n).1) (n+1) with
   | .error e=>.error e
   | .ok (u,_,m)=>iw E S a k (ju (gS E n).1.name [t,u]) (gS E n).1.prec m
def xN (E:RE) (S:PT) (a:Int) (n:Nat):RR (Tm×Int×Nat) :=
 match kQ E S a n with
 | .error e=>.error e
 | .ok (t,p,m)=>iw E S a E.T.length t p m
def uf (E:RE):Nat->PT
 | 0=>fun _ n=>.error n
 | f+1=>xN E (uf E f)
def kA (E:RE):RR (Tm×Nat) :=
 match uf E E.T.length 1200 0 with
 | .error e=>.error e
 | .ok (t,_,m)=>if (E.at m).r.kind=7 then .ok (t,m) else .error m
theorem RE.at_get (E:RE) {n:Nat} (h:n<E.T.length):E.at n=E.T[n]:=by
 unfold RE.at lJ
 rw [show min n (E.T.length-1)=n by omega,bt,bi h];rfl
theorem gB (T:List NextR):bv T 0=vs0:=by unfold bv;simp [ry]
theorem qF {T:List NextR} {n:Nat} (h:n<T.length):bv T (n+1)=if mB T[n]=true then (bv T n).step T[n].r.text else bv T n:=by
 unfold bv ry
 rw [bl h,List.filter_append,List.foldl_append]
 cases hv:mB T[n] <;> simp [hv]
theorem fU {E:RE} {n:Nat} (h:n<E.T.length) (a:mB (E.at n)=false):bv E.T (n+1)=bv E.T n:=by
 rw [qF h,<-E.at_get h,a];rfl
theorem vu {E:RE} {n:Nat} (h:n<E.T.length) (a:mB (E.at n)=true):bv E.T (n+1)=(bv E.T n).step (E.at n).r.text:=by
 rw [qF h,<-E.at_get h,a];rfl
theorem dP {t:NextR} {s:List UInt8} (h:dp t s=true):mB t=false:=by
 unfold dp at h;unfold mB;simp at h |-;omega
theorem ss {t:NextR} (h:fa t=true):mB t=false:=by
 unfold fa at h;unfold mB;simp at h |-;omega
theorem kd {t:NextR} {k:Int} (h:t.r.kind=k) (a:k≠3):mB t=false:=by
 unfold mB;simp;omega
structure VS.Ok (v:VS):Prop where
 co:v.c<=v.o.length
 mo:v.m.length<=v.o.length
 lt:∀p∈v.m,p.2<v.c
theorem rz:vs0.Ok:=⟨Nat.le_refl _,ae _,fun p a=>by cases a⟩
theorem VS.look_lt {v:VS} (h:v.Ok) {x:List UInt8} {k:Nat} (a:v.look x=some k):k<v.c:=by
 unfold VS.look at a
 obtain ⟨p,b,e⟩:=Option.map_eq_some_iff.1 a
 have:=h.lt p (List.mem_of_find?_eq_some b)
 omega
theorem VS.step_ok {v:VS} (h:v.Ok) (x:List UInt8):(v.step x).Ok:=by
 have d:=h.co
 have f:=h.mo
 unfold VS.step
 refine ⟨?_,?_,?_⟩
 ·simp only [bC,List.length_singleton];split <;> omega
 ·simp only [bC,List.length_singleton];split <;> (try simp only [bC,List.length_singleton]) <;> omega
 ·intro p a
  simp only at a |-
  split at a
  ·have:=h.lt p a
   split <;> omega
  ·rename_i b
   have c:¬v.old x=true:=fun e=>b (.inl e)
   rw [if_neg c]
   rcases List.mem_append.1 a with a | a
   ·have:=h.lt p a;omega
   ·rw [List.mem_singleton] at a;subst a;exact Nat.lt_succ_self _
theorem VS.step_len (v:VS) (x:List UInt8):(v.step x).o.length=v.o.length+1:=by simp [VS.step]
theorem VS.num_le {v:VS} (h:v.Ok) (x:List UInt8):v.num x<=v.c:=by
 unfold VS.num
 split
 ·exact ae _
 ·cases hk:v.look x with
  | none=>exact ae _
  | some k=>have:=VS.look_lt h hk;simp;omega
theorem zA (T:List NextR):(ry T).Ok:=by
 unfold ry
 suffices ∀(l:List NextR) (v:VS),v.Ok->(l.foldl (fun v t=>v.step t.r.text) v).Ok from this _ _ rz
 intro l
 induction l with
 | nil=>intro v h;exact h
 | cons t l ih=>intro v h;exact ih _ (VS.step_ok h _)
theorem xG (T:List NextR):(ry T).o.length<=T.length:=by
 unfold ry
 have:∀(l:List NextR) (v:VS),(l.foldl (fun v t=>v.step t.r.text) v).o.length=v.o.length+l.length:=by
  intro l
  induction l with
  | nil=>intro v;rfl
  | cons t l ih=>intro v;rw [List.foldl_cons,ih,VS.step_len,List.length_cons];omega
 rw [this]
 have:=List.length_filter_le mB T
 simp [vs0];omega
theorem VS.look_old {v:VS} {x:List UInt8} (h:v.old x=true):¬x=[95]/\∃k,v.look x=some k:=by
 unfold VS.old at h
 simp at h
 exact ⟨h.1,Option.isSome_iff_exists.1 h.2⟩
theorem VS.look_snoc (v:VS) (x:List UInt8) (k:Nat) (c:Nat) (o:List Nat) (a:v.look x=none) (y:List UInt8):VS.look ⟨c,v.m++[(x,k)],o⟩ y=if y=x then some k else v.look y:=by
 unfold VS.look at *
 simp only
 rw [List.find?_append]
 by_cases e:y=x
 ·subst e
  rw [Option.map_eq_none_iff] at a
  rw [a,if_pos rfl]
  simp
 ·rw [if_neg e]
  have:((x,k).1==y)=false:=by simp;exact fun h=>e h.symm
  cases (v.m.find? fun p=>p.1==y) <;> simp [this]
end Hb
namespace Hb
def oN (c:Int):Int:=if 48<=c/\c<=57 then c-48 else if 97<=c/\c<=122 then c-97+10 else if 65<=c/\c<=90 then c-65+10 else 36
theorem ze (c:Int):0<=oN c:=by unfold oN;grind
theorem zf (c:Int):oN c<=36:=by unfold oN;grind
theorem vZ (c a:Int) (b:2<=a) (d:a<=36):zy c a=if oN c<a then some (oN c) else none:=by
 unfold zy oN;grind
theorem mr (c a:Int) (b:2<=a) (d:a<=36):fq c a=decide (oN c<a):=by
 unfold fq;rw [vZ c a b d];grind
theorem tJ (c a:Int) (b:2<=a) (d:a<=36) (h:oN c<a):cG c a=oN c:=by
 unfold cG;rw [vZ c a b d,if_pos h];rfl
theorem uQ (a:Int) (l:List UInt8) (b:UInt8):bg a (l++[b])=bg a l * a.toNat+(cG (b.toNat:Int) a).toNat:=by
 unfold bg;rw [List.foldl_append];rfl
theorem pI (a:Int) (l:List UInt8) (k:Nat) (h:k<l.length):bg a (l.take (k+1))=bg a (l.take k) * a.toNat+(cG (jn l k) a).toNat:=by
 rw [bl h,uQ,ja _ _ h]
theorem kS (c:Int) (h:1<=c):∀(l:List UInt8) (a:Nat),a<=l.foldl (fun a b=>a * c.toNat+(cG (b.toNat:Int) c).toNat) a
 | [],a=>ae _
 | b::l,a=>by
  have:=kS c h l (a * c.toNat+(cG (b.toNat:Int) c).toNat)
  have d:1<=c.toNat:=by omega
  have e:a<=a * c.toNat:=Nat.le_mul_of_pos_right a d
  rw [List.foldl_cons];omega
theorem lp (c:Int) (h:1<=c) (l:List UInt8) (k:Nat):bg c (l.take k)<=bg c l:=by
 have e:bg c l=(l.drop k).foldl (fun a b=>a * c.toNat+(cG (b.toNat:Int) c).toNat) (bg c (l.take k)):=by
  unfold bg
  rw [<-List.foldl_append,List.take_append_drop]
 rw [e];exact kS c h _ _
theorem zL (n a b:Int) (e:0<b) (f:a<=0):n<a.tdiv b↔n * b<a:=by
 obtain ⟨m,rfl⟩:∃m,a=-m:=⟨-a,by omega⟩
 rw [Int.neg_tdiv,Int.tdiv_eq_ediv_of_nonneg (by omega)]
 constructor
 ·intro h
  have c:m / b < -n:=by omega
  have d:=(Int.ediv_lt_iff_lt_mul e).1 c
  rw [Int.neg_mul] at d;omega
 ·intro h
  have c:m < -n * b:=by rw [Int.neg_mul];omega
  have d:=(Int.ediv_lt_iff_lt_mul e).2 c
  omega
theorem uI (a d b:Int) (c:0<b) (e:0<=d) (f:d<=36):-a<(-9223372036854775808+d).tdiv b↔9223372036854775808<a * b+d:=by
 rw [zL _ _ _ c (by omega),Int.neg_mul];omega
theorem jO (q:Int->Bool):∀(l:List UInt8) (j:Nat),j<br q l->q (ak l j)=true/\j<l.length
 | [],j,h=>by simp [br] at h
 | b::l,j,h=>by
  rw [br] at h
  split at h
  ·rename_i a
   match j with
   | 0=>rw [mK];exact ⟨a,by simp⟩
   | j+1=>
    have:=jO q l j (by omega)
    rw [pz];exact ⟨this.1,by simp;exact this.2⟩
  ·omega
theorem mf (q:Int->Bool) (h:q (-1)=false):∀(l:List UInt8),q (ak l (br q l))=false
 | []=>by rw [ga _ _ (by simp)];exact h
 | b::l=>by
  rw [br]
  split
  ·rw [pz];exact mf q h l
  ·rename_i a
   rw [mK];simpa using a
theorem nX (a:Int):bJ a (-1)=false:=by
 unfold bJ fq zy
 split
 ·rfl
 ·rename_i h
  rw [if_neg]
  ·rfl
  ·simp;omega
theorem lm (base:Int) (b:2<=base) (c:base<=36) (l:List UInt8) (j:Nat) (e:j<br (bJ base) l):(bg base (l.take (j+1)):Int)=bg base (l.take j) * base+cG (ak l j) base/\0<=cG (ak l j) base/\cG (ak l j) base<=36:=by
 obtain ⟨a,d⟩:=jO _ _ _ e
 rw [eB _ _ d] at a |-
 unfold bJ at a
 rw [mr _ _ b c] at a
 have hd:oN (jn l j)<base:=by simpa using a
 have:=ze (jn l j)
 have:=zf (jn l j)
 rw [pI _ _ _ d,tJ _ _ b c hd]
 refine ⟨?_,by omega,by omega⟩
 push_cast
 rw [Int.toNat_of_nonneg (by omega),Int.toNat_of_nonneg (by omega)]
theorem iB (l:List UInt8) (q:Int) (h:ak l 0=92) (b:¬ak l 0=q) (c:iD (ak l 1)=false) (d:¬(0<gU l/\kG l<=255/\ak l (gV l+gU l)=92)):cD l q=none:=by
 unfold cD;rw [if_neg (by omega),if_neg b,if_neg (fun a=>a h),c,if_neg (by simp),if_neg d]
theorem nZ (l:List UInt8) (q:Int) (h:ak l 0=92) (b:¬ak l 0=q) (c:iD (ak l 1)=false) (d:0<gU l/\kG l<=255/\ak l (gV l+gU l)=92):cD l q=some ((kG l:Int),gV l+gU l+1):=by
 unfold cD;rw [if_neg (by omega),if_neg b,if_neg (fun a=>a h),c,if_neg (by simp),if_pos d]
theorem AV (c:Int) (h:iD c=true):0<=mX c/\mX c<=255/\0<=c/\c<=255:=by
 unfold iD mX xC at *
 grind (splits:=30)
theorem eU (l:List UInt8) (q c:Int) (k:Nat) (g:0<=q/\q<=255) (h:cD l q=some (c,k)):1<=k/\k<=l.length/\0<=c/\c<=255:=by
 unfold cD at h
 have i:=bX l 0
 have j:=bX l 1
 by_cases d:ak l 0<0\/ak l 0=10
 ·rw [if_pos d] at h;cases h
 rw [if_neg d] at h
 by_cases e:ak l 0=q
 ·rw [if_pos e] at h
  by_cases a:ak l 1=q
  ·rw [if_pos a] at h;injection h with h;injection h with e1 e2;subst e1;subst e2;omega
  ·rw [if_neg a] at h;cases h
 rw [if_neg e] at h
 by_cases a:ak l 0≠92
 ·rw [if_pos a] at h;injection h with h;injection h with e1 e2;subst e1;subst e2
  have:=dS l 0
  omega
 rw [if_neg a] at h
 by_cases b:iD (ak l 1)=true
 ·rw [if_pos b] at h;injection h with h;injection h with e1 e2;subst e1;subst e2
  have:=AV _ b
  omega
 rw [if_neg b] at h
 by_cases f:0<gU l/\kG l<=255/\ak l (gV l+gU l)=92
 ·rw [if_pos f] at h;injection h with h;injection h with e1 e2;subst e1;subst e2
  have m:=bX l (gV l+gU l)
  omega
 ·rw [if_neg f] at h;cases h
theorem lu (q:Int) (d:0<=q/\q<=255):∀(f g:Nat) (l:List UInt8),l.length<f->l.length<g->kc f l q=kc g l q
 | 0,_,_,h,_=>absurd h (by omega)
 | _+1,0,_,_,h=>absurd h (by omega)
 | f+1,g+1,l,h1,h2=>by
  unfold kc
  have e:=bX l 0
  by_cases a:ak l 0=q/\¬ak l 1=q
  ·rw [if_pos a,if_pos a]
  rw [if_neg a,if_neg a]
  by_cases b:ak l 0=92/\ak l 1=10
  ·have i:=bX l 1
   rw [if_pos b,if_pos b,lu q d f g (l.drop 2) (by simp;omega) (by simp;omega)]
  rw [if_neg b,if_neg b]
  cases hs:cD l q with
  | none=>rfl
  | some ck=>
   obtain ⟨c,k⟩:=ck
   have:=eU l q c k d hs
   simp only []
   rw [lu q d f g (l.drop k) (by simp;omega) (by simp;omega)]
theorem oY (l:List UInt8) (q:Int) (d:0<=q/\q<=255):jj l q =
  if ak l 0=q/\¬ak l 1=q then some ([],0)
  else if ak l 0=92/\ak l 1=10 then (jj (l.drop 2) q).map fun x=>(x.1,x.2+2)
  else match cD l q with
   | none=>none
   | some (c,k)=>(jj (l.drop k) q).map fun x=>(c.toNat.toUInt8::x.1,x.2+k):=by
 have e:=bX l 0
 unfold jj
 rw [kc]
 by_cases a:ak l 0=q/\¬ak l 1=q
 ·rw [if_pos a,if_pos a]
 rw [if_neg a,if_neg a]
 by_cases b:ak l 0=92/\ak l 1=10
 ·have f:=bX l 1
  rw [if_pos b,if_pos b,lu q d l.length ((l.drop 2).length+1) (l.drop 2) (by simp;omega) (by omega)]
 rw [if_neg b,if_neg b]
 cases hs:cD l q with
 | none=>rfl
 | some ck=>
  obtain ⟨c,k⟩:=ck
  have:=eU l q c k d hs
  simp only []
  rw [lu q d l.length ((l.drop k).length+1) (l.drop k) (by simp;omega) (by omega)]
def fA (l:List UInt8) (q:Int) (a:List UInt8) (j:Nat):Option (List UInt8×Nat):=(jj (l.drop j) q).map fun x=>(a++x.1,j+x.2)
theorem mQ (l:List UInt8) (q:Int) (d:0<=q/\q<=255) (a:List UInt8) (j:Nat) (b:ak l j=q) (c:¬ak l (j+1)=q):fA l q a j=some (a,j):=by
 unfold fA;rw [oY _ _ d,bQ,bQ,bj,if_pos ⟨b,c⟩];simp
theorem lX (l:List UInt8) (q:Int) (e:0<=q/\q<=255) (a:List UInt8) (j:Nat) (b:¬(ak l j=q/\¬ak l (j+1)=q)) (c:ak l j=92) (d:ak l (j+1)=10):fA l q a j=fA l q a (j+2):=by
 unfold fA;rw [oY _ _ e,bQ,bQ,bj,if_neg b,if_pos ⟨c,d⟩,cV,Option.map_map]
 congr 1;funext x;simp;omega
theorem ix (l:List UInt8) (q:Int) (e:0<=q/\q<=255) (a:List UInt8) (j:Nat) (b:¬(ak l j=q/\¬ak l (j+1)=q)) (c:¬(ak l j=92/\ak l (j+1)=10)) (d:cD (l.drop j) q=none):fA l q a j=none:=by
 unfold fA;rw [oY _ _ e,bQ,bQ,bj,if_neg b,if_neg c,d];rfl
theorem gN (l:List UInt8) (q:Int) (f:0<=q/\q<=255) (a:List UInt8) (j k:Nat) (c:Int) (b:¬(ak l j=q/\¬ak l (j+1)=q)) (d:¬(ak l j=92/\ak l (j+1)=10)) (e:cD (l.drop j) q=some (c,k)):fA l q a j=fA l q (a++[c.toNat.toUInt8]) (j+k):=by
 unfold fA;rw [oY _ _ f,bQ,bQ,bj,if_neg b,if_neg d,e]
 simp only []
 rw [cV,Option.map_map]
 congr 1;funext x;simp;omega
theorem lW (q:Int) (a:0<=q/\q<=255):∀(f:Nat) (l:List UInt8) (t:List UInt8) (k:Nat),kc f l q=some (t,k)->k+1<=l.length
 | 0,_,_,_,h=>by cases h
 | f+1,l,t,k,h=>by
  unfold kc at h
  have m:=bX l 0
  by_cases e:ak l 0=q/\¬ak l 1=q
  ·rw [if_pos e] at h;injection h with h;injection h with e1 e2;subst e2;omega
  rw [if_neg e] at h
  by_cases g:ak l 0=92/\ak l 1=10
  ·have n:=bX l 1
   rw [if_pos g] at h
   cases hi:kc f (l.drop 2) q with
   | none=>rw [hi] at h;cases h
   | some x=>
    obtain ⟨d,b⟩:=x
    have:=lW q a f (l.drop 2) d b hi
    rw [hi] at h;injection h with h;injection h with e1 e2;subst e2
    rw [aN] at this;simp only [];omega
  rw [if_neg g] at h
  cases hs:cD l q with
  | none=>rw [hs] at h;cases h
  | some ck=>
   obtain ⟨c,j⟩:=ck
   have i:=eU l q c j a hs
   rw [hs] at h
   simp only [] at h
   cases hi:kc f (l.drop j) q with
   | none=>rw [hi] at h;cases h
   | some x=>
    obtain ⟨d,b⟩:=x
    have:=lW q a f (l.drop j) d b hi
    rw [hi] at h;injection h with h;injection h with e1 e2;subst e2
    rw [aN] at this;simp only [];omega
theorem mq (b:Int) (t:List UInt8) (a e:Int) (h:(dI b t a e).err=0):(dI b t a e).at_=a/\(dI b t a e).end_=e/\(dI b t a e).kind=b/\(dI b t a e).text=t:=by
 unfold dI at *
 by_cases c:100<t.length
 ·rw [if_pos c] at h;exact absurd h (by decide)
 ·rw [if_neg c];exact ⟨rfl,rfl,rfl,rfl⟩
theorem vT (b:Int) (t:List UInt8) (a e:Int) (h:(fM b t a e).err=0):(fM b t a e).at_=a/\(fM b t a e).end_=e:=by
 unfold fM at *
 by_cases c:bg b t<=9223372036854775808
 ·rw [if_pos c];exact ⟨rfl,rfl⟩
 ·rw [if_neg c] at h;exact absurd h (by decide)
theorem xx (c:Int) (h:cls c=2\/cls c=3):cL c=true:=by unfold cL;rcases h with h | h <;> rw [h] <;> rfl
theorem xw (c:Int) (h:cls c=4):bJ 10 c=true:=by
 have a:48<=c/\c<=57:=by unfold cls at h;grind (splits:=30)
 unfold bJ;rw [mr _ _ (by decide) (by decide)];unfold oN;rw [if_pos a];simp;omega
theorem zG (m l:List UInt8) (v:m.length=l.length) (p:Nat) (w:p<l.length) (h:(dg m l p).err=0):(dg m l p).at_=p/\∃e:Nat,(dg m l p).end_=e/\p<e/\e<=l.length:=by
 unfold dg at *
 have hd:0<(m.drop p).length:=by simp;omega
 have o:ak (m.drop p) 0=ak m p:=by rw [bQ,bj]
 by_cases a0:ak m p=47/\ak m (p+1)=42
 ·rw [if_pos a0] at h;exact absurd h (by decide)
 rw [if_neg a0] at *
 by_cases i:cls (ak m p)=2\/cls (ak m p)=3
 ·rw [if_pos i] at *
  have s:=jX cL (m.drop p) hd (by rw [o];exact xx _ i)
  have f:=bS cL (m.drop p)
  rw [aN] at f
  obtain ⟨a,b,_⟩:=mq _ _ _ _ h
  exact ⟨a,p+br cL (m.drop p),by unfold oi;rw [b];simp,by omega,by omega⟩
 rw [if_neg i] at *
 by_cases j:cls (ak m p)=4
 ·rw [if_pos j] at *
  unfold ew at *
  by_cases d:ak m p=48/\ak m (p+1)=39
  ·rw [if_pos d] at *
   cases hq:cD (l.drop (p+2)) 39 with
   | none=>rw [hq] at h;exact absurd h (by show ¬(7:Int)=0;decide)
   | some ck=>
    obtain ⟨c,k⟩:=ck
    have u:=eU _ _ _ _ (by decide) hq
    rw [aN] at u
    exact ⟨rfl,p+2+k,by simp,by omega,by omega⟩
  rw [if_neg d] at *
  by_cases g:0<cS m p/\0<br (bJ (cS m p)) (m.drop (p+2))
  ·rw [if_pos g] at *
   have f:=bS (bJ (cS m p)) (m.drop (p+2))
   rw [aN] at f
   obtain ⟨a,b⟩:=vT _ _ _ _ h
   exact ⟨a,p+2+br (bJ (cS m p)) (m.drop (p+2)),by rw [b];simp,by omega,by omega⟩
  ·rw [if_neg g] at *
   have s:=jX (bJ 10) (m.drop p) hd (by rw [o];exact xw _ j)
   have f:=bS (bJ 10) (m.drop p)
   rw [aN] at f
   obtain ⟨a,b⟩:=vT _ _ _ _ h
   exact ⟨a,p+br (bJ 10) (m.drop p),by rw [b];simp,by omega,by omega⟩
 rw [if_neg j] at *
 by_cases n:cls (ak m p)=5
 ·rw [if_pos n] at *
  unfold km at *
  by_cases d:ak m p=46/\iI (ak m (p+1))=true
  ·rw [if_pos d];exact ⟨rfl,p+1,by simp,by omega,by omega⟩
  ·rw [if_neg d] at *
   have s:=jX cJ (m.drop p) hd (by rw [o];unfold cJ;rw [n];rfl)
   have f:=bS cJ (m.drop p)
   rw [aN] at f
   obtain ⟨a,b,_⟩:=mq _ _ _ _ h
   exact ⟨a,p+br cJ (m.drop p),by rw [b];simp,by omega,by omega⟩
 rw [if_neg n] at *
 by_cases q:cls (ak m p)=6
 ·rw [if_pos q] at *
  obtain ⟨a,b,_⟩:=mq _ _ _ _ h
  exact ⟨a,p+1,by unfold pl;rw [b];simp,by omega,by omega⟩
 rw [if_neg q] at *
 by_cases r:cls (ak m p)=7
 ·rw [if_pos r] at *
  unfold gR at *
  by_cases d:ak m p=34
  ·rw [if_pos d] at *
   cases hi:jj (l.drop (p+1)) 34 with
   | none=>rw [hi] at h;exact absurd h (by show ¬(7:Int)=0;decide)
   | some x=>
    obtain ⟨t,k⟩:=x
    have:=lW 34 (by decide) _ _ _ _ hi
    rw [aN] at this
    exact ⟨rfl,p+1+k+1,by simp [lO],by omega,by omega⟩
  rw [if_neg d] at *
  by_cases g:ak m p=39
  ·rw [if_pos g] at *
   cases hi:jj (l.drop (p+1)) 39 with
   | none=>rw [hi] at h;exact absurd h (by show ¬(7:Int)=0;decide)
   | some x=>
    obtain ⟨t,k⟩:=x
    have:=lW 39 (by decide) _ _ _ _ hi
    rw [aN] at this
    rw [hi] at h
    obtain ⟨a,b,_⟩:=mq _ _ _ _ h
    exact ⟨a,p+1+k+1,by unfold ts;rw [b];simp,by omega,by omega⟩
  ·rw [if_neg g] at h;exact absurd h (by decide)
 ·rw [if_neg r] at h;exact absurd h (by decide)
theorem ku (b:Int) (t:List UInt8) (a e:Int):¬(dI b t a e).err=14:=by
 unfold dI;split
 ·show ¬(2:Int)=14;decide
 ·show ¬(0:Int)=14;decide
theorem rh (b:Int) (t:List UInt8) (a e:Int):¬(fM b t a e).err=14:=by
 unfold fM;split
 ·show ¬(0:Int)=14;decide
 ·show ¬(7:Int)=14;decide
theorem wK (m l:List UInt8) (p:Nat):¬(dg m l p).err=14:=by
 unfold dg
 split
 ·show ¬(7:Int)=14;decide
 split
 ·exact ku _ _ _ _
 split
 ·unfold ew
  split
  ·cases cD (l.drop (p+2)) 39 with
   | none=>show ¬(7:Int)=14;decide
   | some ck=>show ¬(0:Int)=14;decide
  split
  ·exact rh _ _ _ _
  ·exact rh _ _ _ _
 split
 ·unfold km
  split
  ·show ¬(0:Int)=14;decide
  ·exact ku _ _ _ _
 split
 ·exact ku _ _ _ _
 split
 ·unfold gR
  split
  ·cases jj (l.drop (p+1)) 34 with
   | none=>show ¬(7:Int)=14;decide
   | some x=>show ¬(0:Int)=14;decide
  split
  ·cases jj (l.drop (p+1)) 39 with
   | none=>show ¬(7:Int)=14;decide
   | some x=>exact ku _ _ _ _
  ·show ¬(7:Int)=14;decide
 ·show ¬(7:Int)=14;decide
theorem np (m l:List UInt8) (j:m.length=l.length) (a:Nat) (n:a<=l.length) (h:(bD m l a).r.err=0) :
  ∃p e:Nat,(bD m l a).r.at_=p/\a<=p/\(bD m l a).r.end_=e/\p<e/\e<=l.length/\(bD m l a).lay=decide (a<p)/\(bD m l a).where_=0:=by
 unfold bD at *
 have k:=fQ (m.drop a)
 rw [aN] at k
 by_cases c:a+cd (m.drop a)=l.length
 ·simp only [if_pos c] at h;exact absurd h (by decide)
 simp only [if_neg c] at *
 by_cases b:(dg m l (a+cd (m.drop a))).err=0
 ·simp only [if_pos b] at *
  obtain ⟨d,e,f,g,i⟩:=zG m l j (a+cd (m.drop a)) (by omega) h
  exact ⟨_,e,d,by omega,f,g,i,rfl,by first | trivial | rfl⟩
 ·simp only [if_neg b] at h
  exact absurd h b
structure AllR where
 l:List NextR
 where_:Int
 err:Int
def kZ:Nat->List UInt8->List UInt8->Nat->List NextR->AllR
 | 0,_,_,_,_=>⟨[],0,99⟩
 | f+1,m,l,a,acc=>
  if (bD m l a).r.err=14/\acc≠[] then ⟨[],(bD m l a).where_,7⟩
  else if ¬(bD m l a).r.err=0 then ⟨[],(bD m l a).where_,(bD m l a).r.err⟩
  else if (bD m l a).r.kind=7 then ⟨acc++[bD m l a],0,0⟩
  else kZ f m l (bD m l a).r.end_.toNat (acc++[bD m l a])
def lL (m l:List UInt8) (a:Nat):AllR:=kZ (l.length+1) m l a []
theorem jT (f:Nat) (m l:List UInt8) (a:Nat) (b:List NextR):kZ (f+1) m l a b =
  if (bD m l a).r.err=14/\b≠[] then ⟨[],(bD m l a).where_,7⟩
  else if ¬(bD m l a).r.err=0 then ⟨[],(bD m l a).where_,(bD m l a).r.err⟩
  else if (bD m l a).r.kind=7 then ⟨b++[bD m l a],0,0⟩
  else kZ f m l (bD m l a).r.end_.toNat (b++[bD m l a]):=rfl
theorem uO (m l:List UInt8) (f:m.length=l.length) (a:Nat) (e:a<=l.length) (h:¬(bD m l a).r.err=0) :
  ∃p:Nat,(bD m l a).where_=p/\a<=p/\p<=l.length/\((bD m l a).r.err=14->p=l.length)/\(¬(bD m l a).r.err=14->p<l.length)/\bD m l a=⟨cY (bD m l a).r.err,false,p⟩:=by
 unfold bD at *
 have d:=fQ (m.drop a)
 rw [aN] at d
 by_cases b:a+cd (m.drop a)=l.length
 ·simp only [if_pos b] at *
  exact ⟨_,rfl,by omega,by omega,fun _=>b,fun h=>absurd rfl h,rfl⟩
 simp only [if_neg b] at *
 by_cases c:(dg m l (a+cd (m.drop a))).err=0
 ·simp only [if_pos c] at h;exact absurd c h
 ·simp only [if_neg c] at *
  refine ⟨_,rfl,by omega,by omega,fun h=>?_,fun _=>by omega,rfl⟩
  exact absurd h (wK _ _ _)
def nE (a0:Nat) (L:List NextR):Nat->Nat
 | 0=>a0
 | k+1=>match L[k]? with | some r=>r.r.end_.toNat | none=>0
theorem ro (a0:Nat) (L:List NextR) (r:NextR) (k:Nat) (h:k<=L.length):nE a0 (L++[r]) k=nE a0 L k:=by
 cases k with
 | zero=>rfl
 | succ k=>simp only [nE];rw [dT (by omega)]
theorem vh (a0:Nat) (L:List NextR) (r:NextR):nE a0 (L++[r]) (L.length+1)=r.r.end_.toNat:=by
 simp [nE]
def Chain (m l:List UInt8) (a0:Nat) (L:List NextR) (a:Prop):Prop :=
 ∀i r,L[i]? = some r->bD m l (nE a0 L i)=r/\r.r.err=0/\(r.r.kind=7↔(i+1=L.length/\a))/\nE a0 L i<=l.length
theorem Chain.snoc {m l:List UInt8} {a0:Nat} {L:List NextR} (h:Chain m l a0 L False) (a:Nat) (k:a=nE a0 L L.length) (q:a<=l.length) (n:(bD m l a).r.err=0) (p:Prop) (o:(bD m l a).r.kind=7↔p) :
  Chain m l a0 (L++[bD m l a]) p:=by
 intro i r b
 rcases Nat.lt_trichotomy i L.length with c | c | c
 ·rw [dT c] at b
  obtain ⟨e,f,g,j⟩:=h i r b
  rw [ro _ _ _ _ (by omega)]
  refine ⟨e,f,⟨fun d=>?_,fun d=>?_⟩,j⟩
  ·exact absurd (g.1 d).2 id
  ·have:=d.1;simp at this;omega
 ·subst c
  simp at b
  subst b
  rw [ro _ _ _ _ (by omega),<-k]
  refine ⟨rfl,n,?_,q⟩
  rw [o];simp
 ·rw [List.getElem?_eq_none (by simp;omega)] at b;cases b
theorem qh (m l:List UInt8) (i:m.length=l.length) (a0:Nat):∀(f:Nat) (a:Nat) (b:List NextR),Chain m l a0 b False->a=nE a0 b b.length->a<=l.length ->
  ((kZ f m l a b).err=0->(kZ f m l a b).where_=0/\(kZ f m l a b).l≠[]/\Chain m l a0 (kZ f m l a b).l True)/\(¬(kZ f m l a b).err=0->(kZ f m l a b).l=[])
 | 0,a,b,_,_,_=>⟨fun h=>absurd h (by show ¬(99:Int)=0;decide),fun _=>rfl⟩
 | f+1,a,b,hc,ha,hl=>by
  rw [jT]
  by_cases g:(bD m l a).r.err=14/\b≠[]
  ·rw [if_pos g];exact ⟨fun h=>absurd h (by show ¬(7:Int)=0;decide),fun _=>rfl⟩
  rw [if_neg g]
  by_cases c:(bD m l a).r.err=0
  ·rw [if_neg (by simpa using c)]
   obtain ⟨p,e,_,n,j,o,k,_,_⟩:=np m l i a hl c
   by_cases d:(bD m l a).r.kind=7
   ·rw [if_pos d]
    exact ⟨fun _=>⟨rfl,by simp,hc.snoc a ha hl c True (by simp [d])⟩,fun h=>absurd rfl h⟩
   ·rw [if_neg d]
    refine qh m l i a0 f _ _ (hc.snoc a ha hl c False (by simp [d])) ?_ ?_
    ·rw [bC];exact (vh _ _ _).symm
    ·rw [j];simpa using k
  ·rw [if_pos (by simpa using c)]
   exact ⟨fun h=>absurd h c,fun _=>rfl⟩
theorem qg (m l:List UInt8) (c:m.length=l.length) (a:Nat) (b:a<=l.length) :
  ((lL m l a).err=0->(lL m l a).where_=0/\(lL m l a).l≠[]/\Chain m l a (lL m l a).l True)/\(¬(lL m l a).err=0->(lL m l a).l=[]) :=
 qh m l c a _ a [] (fun i r h=>by simp at h) rfl b
end Hb
namespace Hb
open Go Go.RowKit
structure Fits (B:Nat) (r:LexR):Prop where
 txt:r.text.length<=B+100
 num:-9223372036854775808<=r.n/\r.n<=9223372036854775807
 nam:r.kind=1\/r.kind=2\/r.kind=3->r.text.length<=100
theorem vK {k:Int} (c:Int) (e:k=c) (a:c≠1/\c≠2/\c≠3) {P:Prop}:k=1\/k=2\/k=3->P:=fun h=>absurd h (by omega)
theorem nW (q:Int) (a:0<=q/\q<=255):∀(f:Nat) (l:List UInt8) (t:List UInt8) (k:Nat),kc f l q=some (t,k)->t.length<=k
 | 0,_,_,_,h=>by cases h
 | f+1,l,t,k,h=>by
  unfold kc at h
  by_cases e:ak l 0=q/\¬ak l 1=q
  ·rw [if_pos e] at h;injection h with h;injection h with e1 e2;subst e1;exact bc _
  rw [if_neg e] at h
  by_cases g:ak l 0=92/\ak l 1=10
  ·rw [if_pos g] at h
   cases hi:kc f (l.drop 2) q with
   | none=>rw [hi] at h;cases h
   | some x=>
    obtain ⟨d,b⟩:=x
    have:=nW q a f (l.drop 2) d b hi
    rw [hi] at h;injection h with h;injection h with e1 e2;subst e1 e2
    simp only;omega
  rw [if_neg g] at h
  cases hs:cD l q with
  | none=>rw [hs] at h;cases h
  | some ck=>
   obtain ⟨c,j⟩:=ck
   have i:=eU l q c j a hs
   rw [hs] at h
   simp only [] at h
   cases hi:kc f (l.drop j) q with
   | none=>rw [hi] at h;cases h
   | some x=>
    obtain ⟨d,b⟩:=x
    have:=nW q a f (l.drop j) d b hi
    rw [hi] at h;injection h with h;injection h with e1 e2;subst e1 e2
    simp only [List.length_cons];omega
theorem lr (B:Nat) (c:Int) (t:List UInt8) (a e:Int) (h:(dI c t a e).err=0):Fits B (dI c t a e):=by
 unfold dI at *
 by_cases b:100<t.length
 ·rw [if_pos b] at h;exact absurd h (by decide)
 ·rw [if_neg b];exact ⟨by simp only;omega,⟨by simp,by simp⟩,fun _=>by simp only;omega⟩
theorem tB (B:Nat) (b:Int) (t:List UInt8) (a e:Int) (h:(fM b t a e).err=0):Fits B (fM b t a e):=by
 unfold fM at *
 by_cases c:bg b t<=9223372036854775808
 ·rw [if_pos c]
  refine ⟨by simp,?_,vK 4 rfl (by decide)⟩
  simp only
  split <;> omega
 ·rw [if_neg c] at h;exact absurd h (by decide)
theorem xS (m l:List UInt8) (p:Nat) (h:(dg m l p).err=0):Fits l.length (dg m l p):=by
 unfold dg at *
 by_cases a0:ak m p=47/\ak m (p+1)=42
 ·rw [if_pos a0] at h;exact absurd h (by decide)
 rw [if_neg a0] at *
 by_cases d:cls (ak m p)=2\/cls (ak m p)=3
 ·rw [if_pos d] at *;exact lr _ _ _ _ _ h
 rw [if_neg d] at *
 by_cases e:cls (ak m p)=4
 ·rw [if_pos e] at *
  unfold ew at *
  by_cases a:ak m p=48/\ak m (p+1)=39
  ·rw [if_pos a] at *
   cases hq:cD (l.drop (p+2)) 39 with
   | none=>rw [hq] at h;exact absurd h (by show ¬(7:Int)=0;decide)
   | some ck=>
    obtain ⟨c,k⟩:=ck
    have o:=eU _ _ _ _ (by decide) hq
    exact ⟨by simp,by simp only;omega,vK 4 rfl (by decide)⟩
  rw [if_neg a] at *
  by_cases b:0<cS m p/\0<br (bJ (cS m p)) (m.drop (p+2))
  ·rw [if_pos b] at *;exact tB _ _ _ _ _ h
  ·rw [if_neg b] at *;exact tB _ _ _ _ _ h
 rw [if_neg e] at *
 by_cases f:cls (ak m p)=5
 ·rw [if_pos f] at *
  unfold km at *
  by_cases a:ak m p=46/\iI (ak m (p+1))=true
  ·rw [if_pos a];exact ⟨by simp,⟨by simp,by simp⟩,vK 7 rfl (by decide)⟩
  ·rw [if_neg a] at *;exact lr _ _ _ _ _ h
 rw [if_neg f] at *
 by_cases g:cls (ak m p)=6
 ·rw [if_pos g] at *;exact lr _ _ _ _ _ h
 rw [if_neg g] at *
 by_cases i:cls (ak m p)=7
 ·rw [if_pos i] at *
  unfold gR at *
  by_cases a:ak m p=34
  ·rw [if_pos a] at *
   cases hi:jj (l.drop (p+1)) 34 with
   | none=>rw [hi] at h;exact absurd h (by show ¬(7:Int)=0;decide)
   | some x=>
    obtain ⟨t,k⟩:=x
    have j:=lW 34 (by decide) _ _ _ _ hi
    have n:=nW 34 (by decide) _ _ _ _ hi
    rw [aN] at j
    exact ⟨by simp only [lO];omega,⟨by simp [lO],by simp [lO]⟩,vK 5 rfl (by decide)⟩
  rw [if_neg a] at *
  by_cases b:ak m p=39
  ·rw [if_pos b] at *
   cases hi:jj (l.drop (p+1)) 39 with
   | none=>rw [hi] at h;exact absurd h (by show ¬(7:Int)=0;decide)
   | some x=>rw [hi] at h;exact lr _ _ _ _ _ h
  ·rw [if_neg b] at h;exact absurd h (by decide)
 ·rw [if_neg i] at h;exact absurd h (by decide)
theorem xm (m l:List UInt8) (a:Nat) (h:(bD m l a).r.err=0):Fits l.length (bD m l a).r:=by
 unfold bD at *
 by_cases c:a+cd (m.drop a)=l.length
 ·simp only [if_pos c] at h;exact absurd h (by decide)
 simp only [if_neg c] at *
 by_cases b:(dg m l (a+cd (m.drop a))).err=0
 ·simp only [if_pos b] at *;exact xS _ _ _ b
 ·simp only [if_neg b] at h;exact absurd h b
theorem tW (m l:List UInt8):∀(f:Nat) (a:Nat) (b:List NextR),(kZ f m l a b).l.length<=b.length+f
 | 0,_,_=>bc _
 | f+1,a,b=>by
  rw [jT]
  iterate 2
   split
   ·exact bc _
  split
  ·simp
  ·have:=tW m l f (bD m l a).r.end_.toNat (b++[bD m l a])
   simp at this;omega
structure ToksOk (B:Nat) (T:List NextR):Prop where
 len:T.length<=B+1
 pos:0<T.length
 last:∀i (h:i<T.length),T[i].r.kind=7↔i+1=T.length
 fits:∀t∈T,Fits B t.r
theorem rx (m l:List UInt8) (g:m.length=l.length) (a:Nat) (f:a<=l.length) (h:(lL m l a).err=0):ToksOk l.length (lL m l a).l:=by
 obtain ⟨_,j,d⟩:=(qg m l g a f).1 h
 refine ⟨by have:=tW m l (l.length+1) a [];simp at this;exact this,List.length_pos_iff.2 j,fun i b=>?_,fun t k=>?_⟩
 ·have:=(d i _ (bi b)).2.2.1
  simpa using this
 ·obtain ⟨i,b⟩:=List.mem_iff_getElem?.1 k
  obtain ⟨c,e,_⟩:=d i t b
  rw [<-c]
  exact xm _ _ _ (by rw [c];exact e)
end Hb
namespace Go.Proofs.YtbojljpldcijgaaGreat
open Go.RowKit Hb
theorem mc (c:Int) (w:au) :
  aU am 84 #[aa ab c] w fun e w'=>e=aD (av (iM c))/\w=w':=by
 by_cases a:0<=c
 ·go_enter Tryz.func84,Tryz.ntmps84
  go_wp2
  go_ret
  exact ⟨by simp [iM,a],rfl⟩
 ·go_enter Tryz.func84,Tryz.ntmps84
  go_wp2
  go_ret
  exact ⟨by simp [iM];omega,rfl⟩
theorem ye (c:Int) (w:au) :
  aU am 102 #[aa ab c] w fun e w'=>e=aD (av (iM c))/\w=w':=by
 by_cases a:0<=c
 ·go_enter Tryz.func102,Tryz.ntmps102
  go_wp2
  go_ret
  exact ⟨by simp [iM,a],rfl⟩
 ·go_enter Tryz.func102,Tryz.ntmps102
  go_wp2
  go_ret
  exact ⟨by simp [iM];omega,rfl⟩
theorem qN (s:ByteArray) (c:Int) (w:au) (l:s.size<=maxLen) :
  aU am 183 #[ac s,aa ab c] w fun e w'=>e=aD (av (gG s.data.toList c))/\w=w':=by
 unfold maxLen at l
 go_enter Tryz.func183,Tryz.ntmps183
 go_wp2
 go_loop [5] (fun i=>∃k:Nat,k<=s.size/\i=aa ab k/\gG (s.data.toList.take k) c=false) (fun i=>s.size-(intOf i).toNat)
 case atStart=>exact ⟨0,bc _,rfl,rfl⟩
 case round=>
  obtain ⟨k,q,rfl,h⟩:=hrel
  have f:=zq h
  clear h
  by_cases b:k<s.size
  ·have n:=lC s k b
   have o:=kj s.data.toList k
   have p:=lD s.data.toList k
   have j:=zq (qe s.data.toList k c (by simpa using b))
   by_cases a:jn s.data.toList k=c
   ·have d:=zq (vr s.data.toList k c (by simpa using b) a)
    have g:(jn s.data.toList k==c)=true:=by simp [a]
    have m:=zq a
    clear a
    go_wp2
    go_ret
    exact ⟨by rw [d.out];rfl,rfl⟩
   ·have g:(jn s.data.toList k==c)=false:=by simp [a]
    clear a
    go_wp2
    go_round
    case rel=>exact ⟨k+1,by omega,by go_num,by rw [j.out,f.out,g];rfl⟩
    case measure=>simp [intOf];omega
  ·have d:=zq (ru s.data.toList k c (by simpa using b) f.out)
   go_wp2
   go_ret
   exact ⟨by rw [d.out];rfl,rfl⟩
theorem dv (c:Int) (w:au) :
  aU am 149 #[aa ab c] w fun e w'=>e=aD (aa ab (cls c))/\w=w':=by
 go_enter Tryz.func149,Tryz.ntmps149
 go_wp2_with (first | (go_at_call 102;refine (ye _ _).mono ?_;rintro e w' ⟨rfl,rfl⟩) | (go_at_call 183;refine (qN _ _ _ (by decide)).mono ?_;rintro e w' ⟨rfl,rfl⟩))
 all_goals (go_ret;exact ⟨dl (by grind [cls,iM]),rfl⟩)
theorem me (s:ByteArray) (c:Int) (w:au):(callFunc 195 #[ac s,aa .u8 c]).run am w=.ok (.value (aa ab (dX s.data.toList c.toNat.toUInt8))) w:=by
 rw [run_callFunc_extern Tryz.func195 (by kernel_rfl) (by kernel_rfl) (by kernel_rfl) (e:=Extern.BytealgIndexByte.indexByte) (by kernel_rfl),Lib.run_indexByteString]
 rfl
theorem pK (s:ByteArray) (c:Int) (w:au) :
  aU am 173 #[ac s,aa .u8 c] w fun e w'=>e=aD (aa ab (dX s.data.toList c.toNat.toUInt8))/\w=w':=by
 have a:=me s c
 go_enter Tryz.func173,Tryz.ntmps173
 go_wp2
 go_ret
 exact ⟨rfl,rfl⟩
theorem ks (s:ByteArray) (c:Int) (w:au) :
  aU am 137 #[ac s,aa .u8 c] w fun e w'=>e=aD (aa ab (dX s.data.toList c.toNat.toUInt8))/\w=w':=by
 go_enter Tryz.func137,Tryz.ntmps137
 go_wp2_with (go_at_call 173;refine (pK _ _ _).mono ?_;rintro e w' ⟨rfl,rfl⟩)
 go_ret
 exact ⟨rfl,rfl⟩
theorem lH (c:Int) (f:0<=c) (g:c<=255):∀l:List UInt8,decide (0<=dX l c.toNat.toUInt8)=gG l c
 | []=>rfl
 | b::l=>by
  have e:=lH c f g l
  have j:=Lib.indexByte_ge l c.toNat.toUInt8
  have i:(b==c.toNat.toUInt8)=((b.toNat:Int)==c):=by
   rw [Bool.eq_iff_iff,beq_iff_eq,beq_iff_eq]
   constructor
   ·rintro rfl;simp;omega
   ·intro h;subst h;simp
  unfold dX gG
  rw [List.any_cons,i]
  unfold gG at e
  rw [<-e]
  by_cases a:((b.toNat:Int)==c)=true
  ·simp [a]
  ·simp only [a]
   by_cases d:dX l c.toNat.toUInt8=-1
   ·simp [d]
   ·have:(dX l c.toNat.toUInt8 == -1)=false:=by simp [d]
    simp only [this,Bool.false_eq_true,if_false,Bool.false_or]
    rw [decide_eq_decide];omega
theorem qC (k c:Int) (s:ByteArray) (b o:Nat) (w:au) (f:b<w.heap.size) (g:w.cell? ⟨b,o,none⟩=some (aa ab c)) (a:0<=c) (d:c<=255) :
  aU am 136 #[.agg #[aa ab k,ac s],ar (some ⟨b,o,none⟩)] w fun e w'=>e=aD (av (gG s.data.toList c))/\aB w.heap.size w w':=by
 have H:=zq (lH c a d s.data.toList)
 go_enter Tryz.func136,Tryz.ntmps136
 go_wp2_with (go_at_call 137;refine (ks _ _ _).mono ?_;rintro e w' ⟨rfl,rfl⟩)
 go_ret
 exact ⟨bY H.out,(ap _ _).alloc (ae _) _⟩
def mG (j:Nat):ByteArray:=⟨(rowOf.getD j []).toArray⟩
theorem ur (c:Int) (k:Nat) (g:k<7) (h:k<=jc c):(gG (mG k).data.toList c=true->jc c=k)/\(gG (mG k).data.toList c=false->k+1<=jc c):=by
 have i:k<rowOf.length:=g
 have e:(mG k).data.toList=rowOf[k]:=by
  unfold mG;rw [bt,bi i];simp
 rw [e]
 constructor
 ·intro a
  have f:¬k<jc c:=fun b=>by
   have:=List.not_of_lt_findIdx (p:=fun l=>gG l c) b
   simp [a] at this
  omega
 ·intro a
  have f:jc c≠k:=fun j=>by
   have b:rowOf.findIdx (fun l=>gG l c)<rowOf.length:=by show jc c<_;omega
   have:=List.findIdx_getElem (w:=b)
   have d:rowOf[rowOf.findIdx (fun l=>gG l c)]=rowOf[k]:=by congr 1
   rw [d] at this
   simp [a] at this
  omega
def mH (c:Int):Int:=if jc c=7 then -1 else jc c
theorem oQ (c:Int) (g b:Nat) (w:au) (A:b<w.heap.size) (s:w.cell? ⟨b,0,none⟩=some (aa ab c)) (x:0<=c) (y:c<=255)
  (q:g<w.heap.size) (f:∀j:Nat,j<7->w.cell? ⟨g,j * 2,none⟩=some (aa ab (j+1))/\w.cell? ⟨g,j * 2+1,none⟩=some (ac (mG j))) :
  aU am 135 #[.slice (some ⟨g,0,none⟩) 7 7,.func (.func 136) #[] #[ar (some ⟨b,0,none⟩)]] w fun e w'=>e=aD (aa ab (mH c))/\aB w.heap.size w w':=by
 have u:=zq f
 clear f
 have F:=sT c
 go_enter Tryz.func135,Tryz.ntmps135
 go_wp2
 go_loopw [8] (fun i wr=>∃k:Nat,k<=7/\i=aa ab k/\k<=jc c/\aB w.heap.size w wr) (fun i _=>7-(intOf i).toNat)
 case atStart=>exact ⟨0,bc _,rfl,bc _,ap _ _⟩
 case round=>
  obtain ⟨k,f,rfl,C,a⟩:=hrel
  by_cases r:k<7
  ·obtain ⟨m,n⟩:=u.out k r
   have D:=(a.cell (p:=⟨g,k * 2,none⟩) q).trans m
   have E:=(a.cell (p:=⟨g,k * 2+1,none⟩) q).trans n
   have v:=(a.cell (p:=⟨b,0,none⟩) A).trans s
   have t:=a.size
   have B:b<wr.heap.size:=by omega
   clear m n s
   have l:=zq (ur c k r C)
   cases hm:gG (mG k).data.toList c
   all_goals
    have d:=zq hm
    clear hm
    go_wp2_with (go_at_call 136;refine (qC _ _ _ _ _ _ B v x y).mono ?_;rintro e w' ⟨rfl,o⟩;rw [d.out])
   ·have h:=l.out.2 d.out
    go_roundw
    case rel=>exact ⟨k+1,by omega,by go_num,h,a.trans (o.mono t)⟩
    case measure=>simp [intOf];omega
   ·have h:=l.out.1 d.out
    go_ret
    exact ⟨dl (by unfold mH;rw [h,if_neg (by omega)]),a.trans (o.mono t)⟩
  ·have z:=zq (show jc c=7 by omega)
   go_wp2
   go_ret
   exact ⟨dl (by unfold mH;rw [z.out,if_pos rfl]),a⟩
abbrev yb:Array Value:=#[aa ab 1,ac { data:=#[9,10,11,12,13,32] },aa ab 2,ac { data:=#[97,98,99,100,101,102,103,104,105,106,107,108,109,110,111,112,113,114,115,116,117,118,119,120,121,122] },aa ab 3,ac { data:=#[65,66,67,68,69,70,71,72,73,74,75,76,77,78,79,80,81,82,83,84,85,86,87,88,89,90,95] },aa ab 4,ac { data:=#[48,49,50,51,52,53,54,55,56,57] },aa ab 5,ac { data:=#[35,36,38,42,43,45,46,47,58,60,61,62,63,64,94,126,92] },aa ab 6,ac { data:=#[33,40,41,44,59,91,93,123,125,37,124] },aa ab 7,ac { data:=#[39,34,96] }]
theorem zT (w:au) (t:TypeId) (g j:Nat) (a:g=w.heap.size) (b:j<7):(w.alloc (.cells yb t)).cell? ⟨g,j * 2,none⟩=some (aa ab (j+1))/\(w.alloc (.cells yb t)).cell? ⟨g,j * 2+1,none⟩=some (ac (mG j)):=by
 subst a
 rw [aF,aF]
 match j,b with
 | 0,_=>exact ⟨rfl,rfl⟩
 | 1,_=>exact ⟨rfl,rfl⟩
 | 2,_=>exact ⟨rfl,rfl⟩
 | 3,_=>exact ⟨rfl,rfl⟩
 | 4,_=>exact ⟨rfl,rfl⟩
 | 5,_=>exact ⟨rfl,rfl⟩
 | 6,_=>exact ⟨rfl,rfl⟩
theorem Ax (c:Int) (a:0<=c) (b:c<=255):cls c=(jc c:Int)+1:=by
 obtain ⟨n,rfl⟩:=bU a
 exact wX n (by omega)
theorem dz (c:Int) (w:au) :
  aU am 93 #[aa ab c] w fun e w'=>e=aD (aa ab (cls c))/\aB w.heap.size w w':=by
 cases hc:iM c
 ·have b:=zq (Ay c (by rw [<-iG];simp [hc]))
  go_enter Tryz.func93,Tryz.ntmps93
  go_wp2_with (go_at_call 84;refine (mc _ _).mono ?_;rintro e w' ⟨rfl,rfl⟩)
  go_ret
  exact ⟨dl b.out.symm,(ap _ _).alloc (ae _) _⟩
 ·obtain ⟨b,i⟩:=(iG c).1 hc
  have h:=zq (Ax c b i)
  go_enter Tryz.func93,Tryz.ntmps93
  go_wp2_with (first | (go_at_call 84;refine (mc _ _).mono ?_;rintro e w' ⟨rfl,rfl⟩) | fail)
  have g:=fun t=>zT (w.alloc (.cells #[aa ab c] 3)) t (w.heap.size+1)
  refine (oQ c (w.heap.size+1) w.heap.size _ ?_ ?_ b i ?_ ?_).mono ?_
  ·simp;omega
  ·simp [go_sem]
  ·simp
  ·exact fun j l=>g _ j (by simp) l
  rintro e o ⟨rfl,f⟩
  by_cases a:jc c=7
  ·have d:=zq (show mH c=-1 by unfold mH;rw [if_pos a])
   have k:=zq a
   clear a
   rw [d.out]
   go_wp2
   go_ret
   exact ⟨dl (by rw [h.out,k.out];rfl),(((ap _ _).alloc (ae _) _).alloc (by simp) _).trans (f.mono (by simp;omega))⟩
  ·have d:=zq (show mH c=jc c by unfold mH;rw [if_neg a])
   have m:jc c<7:=by have:=sT c;omega
   rw [d.out]
   have n:=(f.cell (p:=⟨w.heap.size+1,jc c * 2,none⟩) (by simp)).trans (g _ (jc c) (by simp) m).1
   clear g a
   go_wp2
   go_ret
   exact ⟨dl h.out.symm,(((ap _ _).alloc (ae _) _).alloc (by simp) _).trans (f.mono (by simp;omega))⟩
theorem qO (c:Int) (w:au) :
  aU am 184 #[aa ab c] w fun e w'=>e=aD (av (cL c))/\w=w':=by
 go_enter Tryz.func184,Tryz.ntmps184
 go_wp2_with (go_at_call 149;refine (dv _ _).mono ?_;rintro e w' ⟨rfl,rfl⟩)
 all_goals (go_ret;exact ⟨bY (by grind [cL]),rfl⟩)
theorem bG (c a:Int) (w:au) :
  aU am 186 #[aa ab c,aa ab a] w fun e w'=>e=aD (.tuple #[aa ab (cG c a),av (fq c a)])/\w=w':=by
 go_enter Tryz.func186,Tryz.ntmps186
 go_wp2
 all_goals (go_ret2;exact ⟨mI (by grind [cG,zy]) (by grind [fq,zy]),rfl⟩)
theorem eN (c a:Int) (w:au) :
  aU am 170 #[aa ab c,aa ab a] w fun e w'=>e=aD (.tuple #[aa ab (cG c a),av (fq c a)])/\w=w':=by
 go_enter Tryz.func170,Tryz.ntmps170
 go_wp2
 all_goals (go_ret2;exact ⟨mI (by grind [cG,zy]) (by grind [fq,zy]),rfl⟩)
end Go.Proofs.YtbojljpldcijgaaGreat
namespace Go.Proofs.YtbojljpldcijgaaGreat
open Go.RowKit Hb
structure Lex (w:au) (b:Nat) (s:ByteArray) (tab:Int->Int) (at_:Int):Prop where
 lt:b<w.heap.size
 c0:w.cell? ⟨b,0,none⟩=some (ac s)
 ct:∀c:Nat,c<256->w.cell? ⟨b,1+c,none⟩=some (aa ab (tab c))
 ca:w.cell? ⟨b,257,none⟩=some (aa ab at_)
 fr:∀o,w.frozen? ⟨b,o,none⟩=false
 sz:s.size<=16384
 tb:ex tab
theorem Lex.same {w w':au} {b:Nat} {s:ByteArray} {e:Int->Int} {d:Int} (h:Lex w b s e d) (g:w.heap.size<=w'.heap.size) (a:w'.heap[b]? = w.heap[b]?):Lex w' b s e d where
 lt:=Nat.lt_of_lt_of_le h.lt g
 c0:=(bd (w:=w) a).trans h.c0
 ct:=fun c f=>(bd (w:=w) a).trans (h.ct c f)
 ca:=(bd (w:=w) a).trans h.ca
 fr:=fun o=>(World.frozen?_of_block (w:=w) a).trans (h.fr o)
 sz:=h.sz
 tb:=h.tb
theorem Lex.below {w w':au} {b:Nat} {s:ByteArray} {c:Int->Int} {at_:Int} (h:Lex w b s c at_) {B:Nat} (a:aB B w w') (d:b<B):Lex w' b s c at_:=h.same a.size (a.block b d)
theorem Lex.drewN {w:au} {b:Nat} {s:ByteArray} {a:Int->Int} {at_:Int} (h:Lex w b s a at_) (n:Nat):Lex (w.drewN n) b s a at_:=h.same (ae _) rfl
theorem Lex.tabc {w:au} {b:Nat} {s:ByteArray} {a:Int->Int} {f:Int} (h:Lex w b s a f) (k:Nat) (c:k<s.size):w.cell? ⟨b,1+s[k].toNat,none⟩=some (aa ab (ak (ba a s.data.toList) k)):=by
 have d:k<s.data.toList.length:=by simpa using c
 have e:(a (jn s.data.toList k))=ak (ba a s.data.toList) k:=by
  rw [zg a h.tb _ _ d,eB _ _ (by rw [bL];exact d)]
 rw [h.ct s[k].toNat s[k].toNat_lt,lC s k c,e]
theorem bE (b:Nat) (s:ByteArray) (a:Int->Int) (d i:Int) (w:au) (h:Lex w b s a d) (f:0<=i) :
  aU am 92 #[ar (some ⟨b,0,none⟩),aa ab i] w fun e w'=>e=aD (aa ab (ak (ba a s.data.toList) i.toNat))/\aB w.heap.size w w':=by
 obtain ⟨k,rfl⟩:=bU f
 have o:=h.sz
 have j:=h.c0
 by_cases g:k<s.size
 ·have l:=h.tabc k g
  have m:=kj s.data.toList k
  have n:(s[k].toNat:Int)<256:=by have:=s[k].toNat_lt;omega
  go_enter Tryz.func92,Tryz.ntmps92
  go_wp2
  go_quiet (fail)
  go_wp2
  go_ret
  exact ⟨dl rfl,dF (ap _ _) _⟩
 ·have c:=zq (ga (ba a s.data.toList) k (by rw [bL];simp;omega))
  go_enter Tryz.func92,Tryz.ntmps92
  go_wp2
  go_ret
  exact ⟨dl c.out.symm,ap _ _⟩
theorem bV (b:Nat) (s:ByteArray) (g:Int->Int) (d i:Int) (w:au) (h:Lex w b s g d) (f:0<=i) :
  aU am 134 #[ar (some ⟨b,0,none⟩),aa ab i] w fun e w'=>e=aD (aa ab (ak s.data.toList i.toNat))/\w=w':=by
 obtain ⟨k,rfl⟩:=bU f
 have o:=h.sz
 have j:=h.c0
 by_cases c:k<s.size
 ·have l:=lC s k c
  have a:=zq (eB s.data.toList k (by simpa using c))
  have m:=kj s.data.toList k
  have n:=lD s.data.toList k
  go_enter Tryz.func134,Tryz.ntmps134
  go_wp2
  go_ret
  exact ⟨dl a.out.symm,rfl⟩
 ·have a:=zq (ga s.data.toList k (by simp;omega))
  go_enter Tryz.func134,Tryz.ntmps134
  go_wp2
  go_ret
  exact ⟨dl a.out.symm,rfl⟩
theorem rc (c:Int) (w:au) :
  aU am 126 #[aa ab c] w fun e w'=>e=aD (av (eh c))/\aB w.heap.size w w':=by
 go_enter Tryz.func126,Tryz.ntmps126
 go_wp2
 go_ret
 exact ⟨bY (by unfold eh;simp [bne]),ap _ _⟩
theorem rd (c:Int) (w:au) :
  aU am 133 #[aa ab c] w fun e w'=>e=aD (av (cJ c))/\aB w.heap.size w w':=by
 go_enter Tryz.func133,Tryz.ntmps133
 go_wp2_with (go_at_call 93;refine (dz _ _).mono ?_;rintro e w' ⟨rfl,a⟩)
 go_ret
 exact ⟨bY rfl,a⟩
theorem rg (c:Int) (w:au) :
  aU am 127 #[aa ab c] w fun e w'=>e=aD (av (cL c))/\aB w.heap.size w w':=by
 go_enter Tryz.func127,Tryz.ntmps127
 go_wp2_with (go_at_call 93;refine (dz _ _).mono ?_;rintro e w' ⟨rfl,a⟩)
 all_goals (go_ret;exact ⟨bY (by grind [cL]),a⟩)
theorem re (c a:Int) (g:Nat) (w:au) (b:w.cell? ⟨g,0,none⟩=some (aa ab a)) :
  aU am 171 #[aa ab c,ar (some ⟨g,0,none⟩)] w fun e w'=>e=aD (av (fq c a))/\aB w.heap.size w w':=by
 go_enter Tryz.func171,Tryz.ntmps171
 go_wp2_with (go_at_call 170;refine (eN _ _ _).mono ?_;rintro e w' ⟨rfl,rfl⟩)
 go_ret
 exact ⟨bY rfl,ap _ _⟩
theorem wU (b:Nat) (s:ByteArray) (a:Int->Int) (t i:Int) (w:au) (h:Lex w b s a t) (u:0<=i) :
  aU am 125 #[ar (some ⟨b,0,none⟩),aa ab i,.func (.func 126) #[] #[]] w fun e w'=>e=aD (aa ab (i+br (eh) ((ba a s.data.toList).drop i.toNat)))/\aB w.heap.size w w':=by
 obtain ⟨n,rfl⟩:=bU u
 have C:=h.sz
 have r:=zq h
 have x:=h.lt
 clear h
 rw [aI]
 go_enter Tryz.func125,Tryz.ntmps125
 go_wp2
 go_loopw [1] (fun i wr=>∃k:Nat,i=aa ab k/\aB w.heap.size w wr/\Hid (k+br (eh) ((ba a s.data.toList).drop k)=n+br (eh) ((ba a s.data.toList).drop n))) (fun i _=>s.size-(intOf i).toNat)
 case atStart=>exact ⟨n,rfl,ap _ _,rfl⟩
 case round=>
  obtain ⟨k,rfl,d,g⟩:=hrel
  have L:=r.out.below d x
  have A:=L.c0
  have B:=d.size
  by_cases v:k<s.size
  ·have m:k<(ba a s.data.toList).length:=by rw [bL];simpa using v
   have o:=zq (eB (ba a s.data.toList) k m)
   cases hq:(eh) (ak (ba a s.data.toList) k)
   ·have c:=zq (lf (eh) (ba a s.data.toList) k m (by rw [<-o.out];exact hq))
    have j:=zq hq
    clear hq
    go_wp2_with (first | (go_at_call 92;refine (bE _ _ _ _ _ _ L (by omega)).mono ?_;rintro e y ⟨rfl,f⟩;rw [aI]) | (go_at_call 126;refine (rc _ _).mono ?_;rintro e z ⟨rfl,l⟩;rw [show eh (ak (ba a s.data.toList) k)=false from j.out]))
    go_ret
    exact ⟨dl (by have p:=g.out;have q:=c.out;omega),d.trans ((f.mono (by omega)).trans (l.mono (by have:=f.size;omega)))⟩
   ·have c:=zq (kK (eh) (ba a s.data.toList) k m (by rw [<-o.out];exact hq))
    have j:=zq hq
    clear hq
    go_wp2_with (first | (go_at_call 92;refine (bE _ _ _ _ _ _ L (by omega)).mono ?_;rintro e y ⟨rfl,f⟩;rw [aI]) | (go_at_call 126;refine (rc _ _).mono ?_;rintro e z ⟨rfl,l⟩;rw [show eh (ak (ba a s.data.toList) k)=true from j.out]))
    go_roundw
    case rel=>exact ⟨k+1,by go_num,d.trans ((f.mono (by omega)).trans (l.mono (by have:=f.size;omega))),by have p:=g.out;have q:=c.out;show _=_;omega⟩
    case measure=>simp [intOf];omega
  ·have c:=zq (jY (eh) (ba a s.data.toList) k (by rw [bL];simp;omega))
   go_wp2
   go_ret
   exact ⟨dl (by have p:=g.out;have q:=c.out;omega),d⟩
theorem vD (b:Nat) (s:ByteArray) (a:Int->Int) (t i:Int) (w:au) (h:Lex w b s a t) (u:0<=i) :
  aU am 125 #[ar (some ⟨b,0,none⟩),aa ab i,.func (.func 133) #[] #[]] w fun e w'=>e=aD (aa ab (i+br (cJ) ((ba a s.data.toList).drop i.toNat)))/\aB w.heap.size w w':=by
 obtain ⟨n,rfl⟩:=bU u
 have C:=h.sz
 have r:=zq h
 have x:=h.lt
 clear h
 rw [aI]
 go_enter Tryz.func125,Tryz.ntmps125
 go_wp2
 go_loopw [1] (fun i wr=>∃k:Nat,i=aa ab k/\aB w.heap.size w wr/\Hid (k+br (cJ) ((ba a s.data.toList).drop k)=n+br (cJ) ((ba a s.data.toList).drop n))) (fun i _=>s.size-(intOf i).toNat)
 case atStart=>exact ⟨n,rfl,ap _ _,rfl⟩
 case round=>
  obtain ⟨k,rfl,d,g⟩:=hrel
  have L:=r.out.below d x
  have A:=L.c0
  have B:=d.size
  by_cases v:k<s.size
  ·have m:k<(ba a s.data.toList).length:=by rw [bL];simpa using v
   have o:=zq (eB (ba a s.data.toList) k m)
   cases hq:(cJ) (ak (ba a s.data.toList) k)
   ·have c:=zq (lf (cJ) (ba a s.data.toList) k m (by rw [<-o.out];exact hq))
    have j:=zq hq
    clear hq
    go_wp2_with (first | (go_at_call 92;refine (bE _ _ _ _ _ _ L (by omega)).mono ?_;rintro e y ⟨rfl,f⟩;rw [aI]) | (go_at_call 133;refine (rd _ _).mono ?_;rintro e z ⟨rfl,l⟩;rw [show cJ (ak (ba a s.data.toList) k)=false from j.out]))
    go_ret
    exact ⟨dl (by have p:=g.out;have q:=c.out;omega),d.trans ((f.mono (by omega)).trans (l.mono (by have:=f.size;omega)))⟩
   ·have c:=zq (kK (cJ) (ba a s.data.toList) k m (by rw [<-o.out];exact hq))
    have j:=zq hq
    clear hq
    go_wp2_with (first | (go_at_call 92;refine (bE _ _ _ _ _ _ L (by omega)).mono ?_;rintro e y ⟨rfl,f⟩;rw [aI]) | (go_at_call 133;refine (rd _ _).mono ?_;rintro e z ⟨rfl,l⟩;rw [show cJ (ak (ba a s.data.toList) k)=true from j.out]))
    go_roundw
    case rel=>exact ⟨k+1,by go_num,d.trans ((f.mono (by omega)).trans (l.mono (by have:=f.size;omega))),by have p:=g.out;have q:=c.out;show _=_;omega⟩
    case measure=>simp [intOf];omega
  ·have c:=zq (jY (cJ) (ba a s.data.toList) k (by rw [bL];simp;omega))
   go_wp2
   go_ret
   exact ⟨dl (by have p:=g.out;have q:=c.out;omega),d⟩
theorem wV (b:Nat) (s:ByteArray) (a:Int->Int) (t i:Int) (w:au) (h:Lex w b s a t) (u:0<=i) :
  aU am 125 #[ar (some ⟨b,0,none⟩),aa ab i,.func (.func 127) #[] #[]] w fun e w'=>e=aD (aa ab (i+br (cL) ((ba a s.data.toList).drop i.toNat)))/\aB w.heap.size w w':=by
 obtain ⟨n,rfl⟩:=bU u
 have C:=h.sz
 have r:=zq h
 have x:=h.lt
 clear h
 rw [aI]
 go_enter Tryz.func125,Tryz.ntmps125
 go_wp2
 go_loopw [1] (fun i wr=>∃k:Nat,i=aa ab k/\aB w.heap.size w wr/\Hid (k+br (cL) ((ba a s.data.toList).drop k)=n+br (cL) ((ba a s.data.toList).drop n))) (fun i _=>s.size-(intOf i).toNat)
 case atStart=>exact ⟨n,rfl,ap _ _,rfl⟩
 case round=>
  obtain ⟨k,rfl,d,g⟩:=hrel
  have L:=r.out.below d x
  have A:=L.c0
  have B:=d.size
  by_cases v:k<s.size
  ·have m:k<(ba a s.data.toList).length:=by rw [bL];simpa using v
   have o:=zq (eB (ba a s.data.toList) k m)
   cases hq:(cL) (ak (ba a s.data.toList) k)
   ·have c:=zq (lf (cL) (ba a s.data.toList) k m (by rw [<-o.out];exact hq))
    have j:=zq hq
    clear hq
    go_wp2_with (first | (go_at_call 92;refine (bE _ _ _ _ _ _ L (by omega)).mono ?_;rintro e y ⟨rfl,f⟩;rw [aI]) | (go_at_call 127;refine (rg _ _).mono ?_;rintro e z ⟨rfl,l⟩;rw [show cL (ak (ba a s.data.toList) k)=false from j.out]))
    go_ret
    exact ⟨dl (by have p:=g.out;have q:=c.out;omega),d.trans ((f.mono (by omega)).trans (l.mono (by have:=f.size;omega)))⟩
   ·have c:=zq (kK (cL) (ba a s.data.toList) k m (by rw [<-o.out];exact hq))
    have j:=zq hq
    clear hq
    go_wp2_with (first | (go_at_call 92;refine (bE _ _ _ _ _ _ L (by omega)).mono ?_;rintro e y ⟨rfl,f⟩;rw [aI]) | (go_at_call 127;refine (rg _ _).mono ?_;rintro e z ⟨rfl,l⟩;rw [show cL (ak (ba a s.data.toList) k)=true from j.out]))
    go_roundw
    case rel=>exact ⟨k+1,by go_num,d.trans ((f.mono (by omega)).trans (l.mono (by have:=f.size;omega))),by have p:=g.out;have q:=c.out;show _=_;omega⟩
    case measure=>simp [intOf];omega
  ·have c:=zq (jY (cL) (ba a s.data.toList) k (by rw [bL];simp;omega))
   go_wp2
   go_ret
   exact ⟨dl (by have p:=g.out;have q:=c.out;omega),d⟩
theorem zQ (b:Nat) (s:ByteArray) (d:Int->Int) (C i:Int) (a:Int) (g:Nat) (w:au) (h:Lex w b s d C) (D:0<=i) (E:g<w.heap.size) (x:w.cell? ⟨g,0,none⟩=some (aa ab a)) :
  aU am 125 #[ar (some ⟨b,0,none⟩),aa ab i,.func (.func 171) #[] #[ar (some ⟨g,0,none⟩)]] w fun e w'=>e=aD (aa ab (i+br (fun c=>fq c a) ((ba d s.data.toList).drop i.toNat)))/\aB w.heap.size w w':=by
 obtain ⟨r,rfl⟩:=bU D
 have M:=h.sz
 have B:=zq h
 have G:=h.lt
 clear h
 rw [aI]
 have A:=zq x
 clear x
 go_enter Tryz.func125,Tryz.ntmps125
 go_wp2
 go_loopw [1] (fun i wr=>∃k:Nat,i=aa ab k/\aB w.heap.size w wr/\Hid (k+br (fun c=>fq c a) ((ba d s.data.toList).drop k)=r+br (fun c=>fq c a) ((ba d s.data.toList).drop r))) (fun i _=>s.size-(intOf i).toNat)
 case atStart=>exact ⟨r,rfl,ap _ _,rfl⟩
 case round=>
  obtain ⟨k,rfl,j,m⟩:=hrel
  have L:=B.out.below j G
  have J:=L.c0
  have K:=j.size
  have y:=(j.cell (p:=⟨g,0,none⟩) E).trans A.out
  have z:g<wr.heap.size:=by omega
  by_cases F:k<s.size
  ·have q:k<(ba d s.data.toList).length:=by rw [bL];simpa using F
   have t:=zq (eB (ba d s.data.toList) k q)
   cases hq:(fun c=>fq c a) (ak (ba d s.data.toList) k)
   ·have l:=zq (lf (fun c=>fq c a) (ba d s.data.toList) k q (by rw [<-t.out];exact hq))
    have n:=zq hq
    clear hq
    go_wp2_with (first | (go_at_call 92;refine (bE _ _ _ _ _ _ L (by omega)).mono ?_;rintro e H ⟨rfl,f⟩;rw [aI]) | (go_at_call 171;go_must (refine (re _ a g _ ((f.cell (p:=⟨g,0,none⟩) z).trans y)).mono ?_);rintro e I ⟨rfl,o⟩;rw [show fq (ak (ba d s.data.toList) k) a=false from n.out]))
    go_ret
    exact ⟨dl (by have u:=m.out;have v:=l.out;omega),j.trans ((f.mono (by omega)).trans (o.mono (by have:=f.size;omega)))⟩
   ·have l:=zq (kK (fun c=>fq c a) (ba d s.data.toList) k q (by rw [<-t.out];exact hq))
    have n:=zq hq
    clear hq
    go_wp2_with (first | (go_at_call 92;refine (bE _ _ _ _ _ _ L (by omega)).mono ?_;rintro e H ⟨rfl,f⟩;rw [aI]) | (go_at_call 171;go_must (refine (re _ a g _ ((f.cell (p:=⟨g,0,none⟩) z).trans y)).mono ?_);rintro e I ⟨rfl,o⟩;rw [show fq (ak (ba d s.data.toList) k) a=true from n.out]))
    go_roundw
    case rel=>exact ⟨k+1,by go_num,j.trans ((f.mono (by omega)).trans (o.mono (by have:=f.size;omega))),by have u:=m.out;have v:=l.out;show _=_;omega⟩
    case measure=>simp [intOf];omega
  ·have l:=zq (jY (fun c=>fq c a) (ba d s.data.toList) k (by rw [bL];simp;omega))
   go_wp2
   go_ret
   exact ⟨dl (by have u:=m.out;have v:=l.out;omega),j⟩
theorem kg:(Tryz.prog.info? 5).map (fun i=>(i.zero,i.size,i.bytes))=some (some (aa .u8 0),1,1):=by kernel_rfl
theorem wL (l:List UInt8) (k:Nat) (h:k<l.length):l.take (k+1)=l.take k++[(jn l k).toNat.toUInt8]:=by
 rw [bl h,<-ja _ _ h];simp
theorem iT (l:List UInt8) (i k:Nat) (h:i+k<l.length):(l.drop i).take (k+1)=(l.drop i).take k++[(jn l (i+k)).toNat.toUInt8]:=by
 rw [wL _ _ (by simp;omega),tS]
theorem iF (b:Nat) (s:ByteArray) (c:Int->Int) (r i j:Int) (w:au) (h:Lex w b s c r) (t:0<=i) (D:i<=j) (E:j<=s.size) :
  aU am 129 #[ar (some ⟨b,0,none⟩),aa ab i,aa ab j] w fun e w'=>e=aD (ac ⟨(((ba c s.data.toList).drop i.toNat).take (j-i).toNat).toArray⟩)/\aB w.heap.size w w':=by
 obtain ⟨a,rfl⟩:=bU t
 obtain ⟨n,A⟩:=bU (show 0<=j-a by omega)
 obtain rfl:j=a+n:=by omega
 have I:=h.sz
 have o:=zq h
 have z:=h.lt
 clear h A
 rw [aI,show ((a:Int)+n-a).toNat=n by omega]
 go_enter Tryz.func129,Tryz.ntmps129
 go_wp2
 go_loopw [7,8] (fun v i wr=>∃k:Nat,k<=n/\i=aa ab (a+k:Nat)/\aB w.heap.size w wr/\wr.ownsRow w.heap.size 5 1 v k (Hb.byteCells (((ba c s.data.toList).drop a).take k))) (fun _ i _=>a+n-(intOf i).toNat)
 case atStart=>exact ⟨0,bc _,rfl,ap _ _,⟨by simp [Hb.byteCells],.inl ⟨rfl,rfl⟩⟩⟩
 case round=>
  obtain ⟨k,g,rfl,f,m⟩:=hrel
  have L:=o.out.below f z
  have C:=L.c0
  have H:=f.size
  by_cases G:k<n
  ·have l:a+k<(ba c s.data.toList).length:=by rw [bL];simp;omega
   have p:=zq (eB (ba c s.data.toList) (a+k) l)
   have q:=zq (iT (ba c s.data.toList) a k l)
   have x:=kj (ba c s.data.toList) (a+k)
   have y:=lD (ba c s.data.toList) (a+k)
   go_wp2_with (first | (go_at_call 92;refine (bE _ _ _ _ _ _ L (by omega)).mono ?_;rintro e K ⟨rfl,d⟩;rw [show ((a:Int)+k).toNat=a+k by omega,p.out]) | (at_builtin;go_must (refine dx rfl _ _ 168 5 rfl aZ kg w.heap.size _ _ _ rfl _ (m.kept (row:=none) ⟨d.os,d.tape,d.output,d.size,fun k g _=>d.block k g⟩ (by simp [Value.ownBlock];split <;> simp)) _ x y rfl rfl (by omega) (by have:=d.size;omega) ?_;intro J M B u)))
   go_roundw
   case rel=>exact ⟨k+1,by omega,by go_num,f.trans ((d.mono (by omega)).trans u),by rw [q.out];exact B⟩
   case measure=>simp [intOf];omega
  ·obtain rfl:k=n:=by omega
   have F:=iZ (P:=am) wr 168 9 5 aZ Tryz.underlying5 Tryz.underlying9 _ _ k _ m
   go_wp2
   go_ret
   exact ⟨zU rfl,f⟩
end Go.Proofs.YtbojljpldcijgaaGreat
