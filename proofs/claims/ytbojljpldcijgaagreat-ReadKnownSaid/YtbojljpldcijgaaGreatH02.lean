/- Parts of the proof. -/
import Derived.Test.YtbojljpldcijgaaGreatH01
import Derived.Test.YtbojljpldcijgaaGreatProg
import Derived.Lib.Bytealg
import Derived.Deep.QuietTactic
import Derived.BigQuiet
import Derived.LoopTactic
import Derived.Deep.DeepMust
namespace Hb
structure LexR where
 kind:Int
 text:List UInt8
 n:Int
 at_:Int
 end_:Int
 err:Int
def errR (e:Int):LexR:=⟨0,[],0,0,0,e⟩
def namedR (kind:Int) (text:List UInt8) (at_ end_:Int):LexR:=if 100<text.length then errR 2 else ⟨kind,text,0,at_,end_,0⟩
def wordKind (c:Int):Int:=if cls c=3 then 3 else 1
def soloKind (c:Int):Int:=if c=33∨c=59 then 1 else 6
def wordR (m:List UInt8) (p:Nat):LexR:=namedR (wordKind (rawAt m p)) ((m.drop p).take (span alnum (m.drop p))) p (p+span alnum (m.drop p))
def endNext (c:Int):Bool:=decide (c<0)||(c==37||cls c==1)
def symR (m:List UInt8) (p:Nat):LexR :=
 if rawAt m p=46∧endNext (rawAt m (p+1))=true then ⟨7,[46],0,p,p+1,0⟩
 else namedR 1 ((m.drop p).take (span isSym (m.drop p))) p (p+span isSym (m.drop p))
def soloR (m:List UInt8) (p:Nat):LexR:=namedR (soloKind (rawAt m p)) ((m.drop p).take 1) p (p+1)
def natOf (base:Int) (l:List UInt8):Nat:=l.foldl (fun a b=>a * base.toNat+(digV (b.toNat:Int) base).toNat) 0
def intR (base:Int) (text:List UInt8) (p e:Int):LexR :=
 if natOf base text≤9223372036854775808 then ⟨4,[],if natOf base text=9223372036854775808 then -9223372036854775808 else natOf base text,p,e,0⟩ else errR 7
def isDig (base:Int) (c:Int):Bool:=digOk c base
def escBase (l:List UInt8):Int:=if rawAt l 1=120 then 16 else 8
def escFrom (l:List UInt8):Nat:=if rawAt l 1=120 then 2 else 1
def escLen (l:List UInt8):Nat:=span (isDig (escBase l)) (l.drop (escFrom l))
def escNum (l:List UInt8):Nat:=natOf (escBase l) ((l.drop (escFrom l)).take (escLen l))
def quotedS (l:List UInt8) (q:Int):Option (Int×Nat) :=
 if rawAt l 0<0∨rawAt l 0=10 then none
 else if rawAt l 0=q then (if rawAt l 1=q then some (q,2) else none)
 else if rawAt l 0≠92 then some (rawAt l 0,1)
 else if uneOk (rawAt l 1)=true then some (uneV (rawAt l 1),2)
 else if 0<escLen l∧escNum l≤255∧rawAt l (escFrom l+escLen l)=92 then some (escNum l,escFrom l+escLen l+1)
 else none
def numBase (m:List UInt8) (p:Nat):Int:=if rawAt m p=48 then (if rawAt m (p+1)=120 then 16 else if rawAt m (p+1)=111 then 8 else if rawAt m (p+1)=98 then 2 else 0) else 0
def numR (m l:List UInt8) (p:Nat):LexR :=
 if rawAt m p=48∧rawAt m (p+1)=39 then
  match quotedS (l.drop (p+2)) 39 with
  | none=>errR 7
  | some (c,k)=>⟨4,[],c,p,p+2+k,0⟩
 else if 0<numBase m p∧0<span (isDig (numBase m p)) (m.drop (p+2)) then
  intR (numBase m p) ((m.drop (p+2)).take (span (isDig (numBase m p)) (m.drop (p+2)))) p (p+2+span (isDig (numBase m p)) (m.drop (p+2)))
 else intR 10 ((m.drop p).take (span (isDig 10) (m.drop p))) p (p+span (isDig 10) (m.drop p))
def itemF:Nat→List UInt8→Int→Option (List UInt8×Nat)
 | 0,_,_=>none
 | f+1,l,q=>
  if rawAt l 0=q∧¬rawAt l 1=q then some ([],0)
  else if rawAt l 0=92∧rawAt l 1=10 then (itemF f (l.drop 2) q).map fun x=>(x.1,x.2+2)
  else match quotedS l q with
   | none=>none
   | some (c,k)=>(itemF f (l.drop k) q).map fun x=>(c.toNat.toUInt8::x.1,x.2+k)
def item (l:List UInt8) (q:Int):Option (List UInt8×Nat):=itemF (l.length+1) l q
def strRes (p:Nat):Option (List UInt8×Nat)→LexR
 | none=>errR 7
 | some x=>⟨5,x.1,0,p,p+1+x.2+1,0⟩
def nmRes (p:Nat):Option (List UInt8×Nat)→LexR
 | none=>errR 7
 | some x=>namedR 2 x.1 p (p+1+x.2+1)
def quoteR (m l:List UInt8) (p:Nat):LexR :=
 if rawAt m p=34 then strRes p (item (l.drop (p+1)) 34)
 else if rawAt m p=39 then nmRes p (item (l.drop (p+1)) 39)
 else errR 7
def tokR (m l:List UInt8) (p:Nat):LexR :=
 if rawAt m p=47∧rawAt m (p+1)=42 then errR 7
 else if cls (rawAt m p)=2∨cls (rawAt m p)=3 then wordR m p
 else if cls (rawAt m p)=4 then numR m l p
 else if cls (rawAt m p)=5 then symR m p
 else if cls (rawAt m p)=6 then soloR m p
 else if cls (rawAt m p)=7 then quoteR m l p
 else errR 7
structure NextR where
 r:LexR
 lay:Bool
 where_:Int
def nextR (m l:List UInt8) (a:Nat):NextR :=
 let p:=a+skipN (m.drop a)
 if p=l.length then ⟨errR 14,false,p⟩
 else if (tokR m l p).err=0 then ⟨tokR m l p,decide (a<p),0⟩
 else ⟨errR (tokR m l p).err,false,p⟩
end Hb
namespace Hb
open Go Go.RowKit
def tok0:NextR:=⟨errR 0,false,0⟩
def tokA (T:List NextR) (i:Nat):NextR:=T.getD (min i (T.length-1)) tok0
def NextR.txt (t:NextR):ByteArray:=⟨t.r.text.toArray⟩
def isP (t:NextR) (s:List UInt8):Bool:=t.r.kind==6&&t.r.text==s
def isNam (t:NextR):Bool:=t.r.kind==1||t.r.kind==2
def opn (t:NextR):Bool:=isP t [40] && !t.lay
structure VS where
 c:Nat
 m:List (List UInt8×Nat)
 o:List Nat
def VS.look (v:VS) (x:List UInt8):Option Nat:=(v.m.find? fun p=>p.1==x).map (·.2)
def VS.num (v:VS) (x:List UInt8):Nat:=if x=[95] then v.c else (v.look x).getD v.c
def VS.old (v:VS) (x:List UInt8):Bool:=decide (¬x=[95])&&(v.look x).isSome
def VS.step (v:VS) (x:List UInt8):VS:=⟨if v.old x=true then v.c else v.c+1,if v.old x=true∨x=[95] then v.m else v.m++[(x,v.c)],v.o++[v.num x]⟩
def vs0:VS:=⟨0,[],[]⟩
def isV (t:NextR):Bool:=t.r.kind==3
def vsOf (T:List NextR):VS:=(T.filter isV).foldl (fun v t=>v.step t.r.text) vs0
def vsAt (T:List NextR) (n:Nat):VS:=vsOf (T.take n)
structure RE where
 T:List NextR
 P:List OpR
 q:Int
def stT (s:ByteArray) (l:List Tm):Tm:=.mk 3 0 s l
def atT (s:ByteArray):Tm:=.mk 2 0 s []
def inT (n:Int):Tm:=.mk 1 n ⟨#[]⟩ []
def vaT (n:Int):Tm:=.mk 0 n ⟨#[]⟩ []
def lsT (l:List Tm) (tail:Tm):Tm:=l.foldr (fun x t=>stT ⟨#[46]⟩ [x,t]) tail
def nilT:Tm:=atT ⟨#[91,93]⟩
def chT (q:Int) (c:UInt8):Tm:=if q=1 then inT c.toNat else atT ⟨#[c]⟩
def sgT (q:Int) (s:List UInt8):Tm:=if q=3 then atT ⟨s.toArray⟩ else lsT (s.map (chT q)) nilT
abbrev RR (α:Type):=Except Nat α
abbrev PT:=Int→Nat→RR (Tm×Int×Nat)
def RE.at (E:RE) (n:Nat):NextR:=tokA E.T n
def rowG (E:RE) (S:PT):Nat→Nat→RR (List Tm×Nat)
 | 0,n=>.error n
 | k+1,n=>match S 999 n with
  | .error e=>.error e
  | .ok (t,_,m)=>if isP (E.at m) [44]=true then (match rowG E S k (m+1) with
    | .error e=>.error e
    | .ok (l,i)=>.ok (t::l,i))
   else .ok ([t],m)
def rowX (E:RE) (S:PT) (n:Nat):RR (List Tm×Nat):=rowG E S E.T.length n
def needG {α:Type} (E:RE) (s:List UInt8) (n:Nat) (a:α):RR (α×Nat):=if isP (E.at n) s=true then .ok (a,n+1) else .error n
def compG (E:RE) (S:PT) (s:ByteArray) (n:Nat):RR (Option Tm×Nat) :=
 if opn (E.at n)=true then (match rowX E S (n+1) with
  | .error e=>.error e
  | .ok (l,m)=>needG E [41] m (some (stT s l)))
 else .ok (none,n)
def hasO (P:List OpR) (s:ByteArray) (c:Int):Bool:=(findR P s c).isSome
def aloneG (E:RE) (n:Nat):Bool :=
 if (E.at n).r.kind=7 then true
 else if (E.at n).r.kind=6 then decide (¬(E.at n).r.text=[40])&&(decide (¬(E.at n).r.text=[91])&&decide (¬(E.at n).r.text=[123]))
 else if (!isNam (E.at n)||opn (E.at (n+1)))=true then false
 else !hasO E.P (E.at n).txt 1&&(hasO E.P (E.at n).txt 2||hasO E.P (E.at n).txt 3)
def minusG (E:RE) (t:NextR) (n:Nat):Bool:=t.r.kind==1&&(t.r.text==[45]&&((E.at n).r.kind==4 && !(E.at n).lay))
def preG (E:RE) (t:NextR) (most:Int) (n:Nat):Bool:=hasO E.P t.txt 1&&(decide (((findR E.P t.txt 1).getD op0).prec≤most) && !aloneG E n)
def nmdG (E:RE) (S:PT) (t:NextR) (most:Int) (n:Nat):RR (Tm×Int×Nat) :=
 match compG E S t.txt n with
 | .error e=>.error e
 | .ok (some u,m)=>.ok (u,0,m)
 | .ok (none,_)=>
  if minusG E t n=true then .ok (inT (if (E.at n).r.n=-9223372036854775808 then (E.at n).r.n else -(E.at n).r.n),0,n+1)
  else if preG E t most n=true then (match S (sideR ((findR E.P t.txt 1).getD op0)) n with
   | .error e=>.error e
   | .ok (u,_,m)=>.ok (stT t.txt [u],((findR E.P t.txt 1).getD op0).prec,m))
  else .ok (atT t.txt,0,n)
def emptyG (E:RE) (S:PT) (s:ByteArray) (n:Nat):RR (Tm×Nat) :=
 match compG E S s n with
 | .error e=>.error e
 | .ok (some u,m)=>.ok (u,m)
 | .ok (none,m)=>.ok (atT s,m)
def tailG (E:RE) (S:PT) (n:Nat):RR (Tm×Nat) :=
 if isP (E.at n) [124]=true then (match S 999 (n+1) with
  | .error e=>.error e
  | .ok (t,_,m)=>.ok (t,m))
 else .ok (nilT,n)
def listG (E:RE) (S:PT) (n:Nat):RR (Tm×Nat) :=
 match rowX E S n with
 | .error e=>.error e
 | .ok (l,m)=>(match tailG E S m with
  | .error e=>.error e
  | .ok (t,i)=>needG E [93] i (lsT l t))
def parG (E:RE) (S:PT) (s:List UInt8) (F:Tm→Tm) (n:Nat):RR (Tm×Nat) :=
 match S 1200 n with
 | .error e=>.error e
 | .ok (t,_,m)=>needG E s m (F t)
def brkG (E:RE) (S:PT) (s:List UInt8) (n:Nat):RR (Tm×Nat) :=
 if s=[40] then parG E S [41] id n
 else if s=[91]∧isP (E.at n) [93]=true then emptyG E S ⟨#[91,93]⟩ (n+1)
 else if s=[123]∧isP (E.at n) [125]=true then emptyG E S ⟨#[123,125]⟩ (n+1)
 else if s=[91] then listG E S n
 else parG E S [125] (fun t=>stT ⟨#[123,125]⟩ [t]) n
def isBrk (t:NextR):Bool:=isP t [40]||(isP t [91]||isP t [123])
def opdG (E:RE) (S:PT) (most:Int) (n:Nat):RR (Tm×Int×Nat) :=
 let t:=E.at n
 if t.r.kind=4∧0≤t.r.n then .ok (inT t.r.n,0,n+1)
 else if t.r.kind=3 then .ok (vaT ((vsAt E.T n).num t.r.text),0,n+1)
 else if t.r.kind=5 then .ok (sgT E.q t.r.text,0,n+1)
 else if isBrk t=true then (match brkG E S t.r.text (n+1) with
  | .error e=>.error e
  | .ok (u,m)=>.ok (u,0,m))
 else if isNam t=true then nmdG E S t most (n+1)
 else .error n
def oprG (E:RE) (n:Nat):OpR×Bool :=
 let t:=E.at n
 if (!isNam t&&(!isP t [44] && !isP t [124]))=true then (op0,false)
 else if hasO E.P t.txt 2=true then ((findR E.P t.txt 2).getD op0,true)
 else ((findR E.P t.txt 3).getD op0,hasO E.P t.txt 3)
def endsG (o:OpR×Bool) (most prec:Int):Bool:=!o.2||(decide (most<o.1.prec)||decide (sideL o.1<prec))
def postG (o:OpR):Bool:=o.typ==6||o.typ==7
def loopG (E:RE) (S:PT) (most:Int):Nat→Tm→Int→Nat→RR (Tm×Int×Nat)
 | 0,_,_,n=>.error n
 | k+1,t,prec,n=>
  if endsG (oprG E n) most prec=true then .ok (t,prec,n)
  else if postG (oprG E n).1=true then loopG E S most k (stT (oprG E n).1.name [t]) (oprG E n).1.prec (n+1)
  else match S (sideR (oprG E n).1) (n+1) with
   | .error e=>.error e
   | .ok (u,_,m)=>loopG E S most k (stT (oprG E n).1.name [t,u]) (oprG E n).1.prec m
def trmG (E:RE) (S:PT) (most:Int) (n:Nat):RR (Tm×Int×Nat) :=
 match opdG E S most n with
 | .error e=>.error e
 | .ok (t,p,m)=>loopG E S most E.T.length t p m
def trmF (E:RE):Nat→PT
 | 0=>fun _ n=>.error n
 | f+1=>trmG E (trmF E f)
def wholeG (E:RE):RR (Tm×Nat) :=
 match trmF E E.T.length 1200 0 with
 | .error e=>.error e
 | .ok (t,_,m)=>if (E.at m).r.kind=7 then .ok (t,m) else .error m
theorem RE.at_get (E:RE) {n:Nat} (h:n<E.T.length):E.at n=E.T[n]:=by
 unfold RE.at tokA
 rw [show min n (E.T.length-1)=n by omega,List.getD_eq_getElem?_getD,List.getElem?_eq_getElem h];rfl
theorem vsAt_zero (T:List NextR):vsAt T 0=vs0:=by unfold vsAt;simp [vsOf]
theorem vsAt_succ {T:List NextR} {n:Nat} (h:n<T.length):vsAt T (n+1)=if isV T[n]=true then (vsAt T n).step T[n].r.text else vsAt T n:=by
 unfold vsAt vsOf
 rw [List.take_succ_eq_append_getElem h,List.filter_append,List.foldl_append]
 cases hv:isV T[n] <;> simp [hv]
theorem vs_skip {E:RE} {n:Nat} (h:n<E.T.length) (hk:isV (E.at n)=false):vsAt E.T (n+1)=vsAt E.T n:=by
 rw [vsAt_succ h,←E.at_get h,hk];rfl
theorem vs_take {E:RE} {n:Nat} (h:n<E.T.length) (hk:isV (E.at n)=true):vsAt E.T (n+1)=(vsAt E.T n).step (E.at n).r.text:=by
 rw [vsAt_succ h,←E.at_get h,hk];rfl
theorem isV_punct {t:NextR} {s:List UInt8} (h:isP t s=true):isV t=false:=by
 unfold isP at h;unfold isV;simp at h ⊢;omega
theorem isV_nam {t:NextR} (h:isNam t=true):isV t=false:=by
 unfold isNam at h;unfold isV;simp at h ⊢;omega
theorem isV_kind {t:NextR} {k:Int} (h:t.r.kind=k) (hk:k≠3):isV t=false:=by
 unfold isV;simp;omega
structure VS.Ok (v:VS):Prop where
 co:v.c≤v.o.length
 mo:v.m.length≤v.o.length
 lt:∀p∈v.m,p.2<v.c
theorem vs0_ok:vs0.Ok:=⟨Nat.le_refl _,Nat.le_refl _,fun p hp=>by cases hp⟩
theorem VS.look_lt {v:VS} (h:v.Ok) {x:List UInt8} {k:Nat} (hk:v.look x=some k):k<v.c:=by
 unfold VS.look at hk
 obtain ⟨p,hp,e⟩:=Option.map_eq_some_iff.1 hk
 have:=h.lt p (List.mem_of_find?_eq_some hp)
 omega
theorem VS.step_ok {v:VS} (h:v.Ok) (x:List UInt8):(v.step x).Ok:=by
 have h1:=h.co
 have h2:=h.mo
 unfold VS.step
 refine ⟨?_,?_,?_⟩
 ·simp only [List.length_append,List.length_singleton];split <;> omega
 ·simp only [List.length_append,List.length_singleton];split <;> (try simp only [List.length_append,List.length_singleton]) <;> omega
 ·intro p hp
  simp only at hp ⊢
  split at hp
  ·have:=h.lt p hp
   split <;> omega
  ·rename_i hn
   have ho:¬v.old x=true:=fun e=>hn (.inl e)
   rw [if_neg ho]
   rcases List.mem_append.1 hp with hp | hp
   ·have:=h.lt p hp;omega
   ·rw [List.mem_singleton] at hp;subst hp;exact Nat.lt_succ_self _
theorem VS.step_len (v:VS) (x:List UInt8):(v.step x).o.length=v.o.length+1:=by simp [VS.step]
theorem VS.num_le {v:VS} (h:v.Ok) (x:List UInt8):v.num x≤v.c:=by
 unfold VS.num
 split
 ·exact Nat.le_refl _
 ·cases hk:v.look x with
  | none=>exact Nat.le_refl _
  | some k=>have:=VS.look_lt h hk;simp;omega
theorem vsOf_ok (T:List NextR):(vsOf T).Ok:=by
 unfold vsOf
 suffices ∀(l:List NextR) (v:VS),v.Ok→(l.foldl (fun v t=>v.step t.r.text) v).Ok from this _ _ vs0_ok
 intro l
 induction l with
 | nil=>intro v h;exact h
 | cons t l ih=>intro v h;exact ih _ (VS.step_ok h _)
theorem vsOf_len (T:List NextR):(vsOf T).o.length≤T.length:=by
 unfold vsOf
 have:∀(l:List NextR) (v:VS),(l.foldl (fun v t=>v.step t.r.text) v).o.length=v.o.length+l.length:=by
  intro l
  induction l with
  | nil=>intro v;rfl
  | cons t l ih=>intro v;rw [List.foldl_cons,ih,VS.step_len,List.length_cons];omega
 rw [this]
 have:=List.length_filter_le isV T
 simp [vs0];omega
theorem VS.look_old {v:VS} {x:List UInt8} (h:v.old x=true):¬x=[95]∧∃k,v.look x=some k:=by
 unfold VS.old at h
 simp at h
 exact ⟨h.1,Option.isSome_iff_exists.1 h.2⟩
theorem VS.look_snoc (v:VS) (x:List UInt8) (k:Nat) (c:Nat) (o:List Nat) (hn:v.look x=none) (y:List UInt8):VS.look ⟨c,v.m++[(x,k)],o⟩ y=if y=x then some k else v.look y:=by
 unfold VS.look at *
 simp only
 rw [List.find?_append]
 by_cases e:y=x
 ·subst e
  rw [Option.map_eq_none_iff] at hn
  rw [hn,if_pos rfl]
  simp
 ·rw [if_neg e]
  have:((x,k).1==y)=false:=by simp;exact fun h=>e h.symm
  cases (v.m.find? fun p=>p.1==y) <;> simp [this]
end Hb
namespace Hb
def dgt (c:Int):Int:=if 48≤c∧c≤57 then c-48 else if 97≤c∧c≤122 then c-97+10 else if 65≤c∧c≤90 then c-65+10 else 36
theorem dgt_lo (c:Int):0≤dgt c:=by unfold dgt;grind
theorem dgt_hi (c:Int):dgt c≤36:=by unfold dgt;grind
theorem dig_dgt (c base:Int) (h1:2≤base) (h2:base≤36):dig c base=if dgt c<base then some (dgt c) else none:=by
 unfold dig dgt;grind
theorem digOk_dgt (c base:Int) (h1:2≤base) (h2:base≤36):digOk c base=decide (dgt c<base):=by
 unfold digOk;rw [dig_dgt c base h1 h2];grind
theorem digV_dgt (c base:Int) (h1:2≤base) (h2:base≤36) (h:dgt c<base):digV c base=dgt c:=by
 unfold digV;rw [dig_dgt c base h1 h2,if_pos h];rfl
theorem natOf_snoc (base:Int) (l:List UInt8) (b:UInt8):natOf base (l++[b])=natOf base l * base.toNat+(digV (b.toNat:Int) base).toNat:=by
 unfold natOf;rw [List.foldl_append];rfl
theorem natOf_take (base:Int) (l:List UInt8) (k:Nat) (h:k<l.length):natOf base (l.take (k+1))=natOf base (l.take k) * base.toNat+(digV (bAt l k) base).toNat:=by
 rw [List.take_succ_eq_append_getElem h,natOf_snoc,bAt_get _ _ h]
theorem natOf_foldl_mono (base:Int) (h:1≤base):∀(l:List UInt8) (a:Nat),a≤l.foldl (fun a b=>a * base.toNat+(digV (b.toNat:Int) base).toNat) a
 | [],a=>Nat.le_refl _
 | b::l,a=>by
  have:=natOf_foldl_mono base h l (a * base.toNat+(digV (b.toNat:Int) base).toNat)
  have h1:1≤base.toNat:=by omega
  have h2:a≤a * base.toNat:=Nat.le_mul_of_pos_right a h1
  rw [List.foldl_cons];omega
theorem natOf_mono (base:Int) (h:1≤base) (l:List UInt8) (k:Nat):natOf base (l.take k)≤natOf base l:=by
 have e:natOf base l=(l.drop k).foldl (fun a b=>a * base.toNat+(digV (b.toNat:Int) base).toNat) (natOf base (l.take k)):=by
  unfold natOf
  rw [←List.foldl_append,List.take_append_drop]
 rw [e];exact natOf_foldl_mono base h _ _
theorem tdiv_lt (n a b:Int) (hb:0<b) (ha:a≤0):n<a.tdiv b↔n * b<a:=by
 obtain ⟨m,rfl⟩:∃m,a=-m:=⟨-a,by omega⟩
 rw [Int.neg_tdiv,Int.tdiv_eq_ediv_of_nonneg (by omega)]
 constructor
 ·intro h
  have h1:m / b < -n:=by omega
  have h2:=(Int.ediv_lt_iff_lt_mul hb).1 h1
  rw [Int.neg_mul] at h2;omega
 ·intro h
  have h1:m < -n * b:=by rw [Int.neg_mul];omega
  have h2:=(Int.ediv_lt_iff_lt_mul hb).2 h1
  omega
theorem parse_step (a d b:Int) (hb:0<b) (hd0:0≤d) (hd1:d≤36):-a<(-9223372036854775808+d).tdiv b↔9223372036854775808<a * b+d:=by
 rw [tdiv_lt _ _ _ hb (by omega),Int.neg_mul];omega
theorem span_rest (q:Int→Bool):∀(l:List UInt8) (j:Nat),j<span q l→q (rawAt l j)=true∧j<l.length
 | [],j,h=>by simp [span] at h
 | b::l,j,h=>by
  rw [span] at h
  split at h
  ·rename_i hb
   match j with
   | 0=>rw [rawAt_cons];exact ⟨hb,by simp⟩
   | j+1=>
    have:=span_rest q l j (by omega)
    rw [rawAt_succ];exact ⟨this.1,by simp;exact this.2⟩
  ·omega
theorem span_stop (q:Int→Bool) (h:q (-1)=false):∀(l:List UInt8),q (rawAt l (span q l))=false
 | []=>by rw [rawAt_out _ _ (by simp)];exact h
 | b::l=>by
  rw [span]
  split
  ·rw [rawAt_succ];exact span_stop q h l
  ·rename_i hb
   rw [rawAt_cons];simpa using hb
theorem isDig_end (base:Int):isDig base (-1)=false:=by
 unfold isDig digOk dig
 split
 ·rfl
 ·rename_i h
  rw [if_neg]
  ·rfl
  ·simp;omega
theorem natOf_step (base:Int) (h0:2≤base) (h1:base≤36) (l:List UInt8) (j:Nat) (hj:j<span (isDig base) l):(natOf base (l.take (j+1)):Int)=natOf base (l.take j) * base+digV (rawAt l j) base∧0≤digV (rawAt l j) base∧digV (rawAt l j) base≤36:=by
 obtain ⟨hq,hl⟩:=span_rest _ _ _ hj
 rw [rawAt_in _ _ hl] at hq ⊢
 unfold isDig at hq
 rw [digOk_dgt _ _ h0 h1] at hq
 have hd:dgt (bAt l j)<base:=by simpa using hq
 have:=dgt_lo (bAt l j)
 have:=dgt_hi (bAt l j)
 rw [natOf_take _ _ _ hl,digV_dgt _ _ h0 h1 hd]
 refine ⟨?_,by omega,by omega⟩
 push_cast
 rw [Int.toNat_of_nonneg (by omega),Int.toNat_of_nonneg (by omega)]
theorem esc_none1 (l:List UInt8) (q:Int) (h:rawAt l 0=92) (hq:¬rawAt l 0=q) (hu:uneOk (rawAt l 1)=false) (hx:¬(0<escLen l∧escNum l≤255∧rawAt l (escFrom l+escLen l)=92)):quotedS l q=none:=by
 unfold quotedS;rw [if_neg (by omega),if_neg hq,if_neg (fun hh=>hh h),hu,if_neg (by simp),if_neg hx]
theorem esc_some1 (l:List UInt8) (q:Int) (h:rawAt l 0=92) (hq:¬rawAt l 0=q) (hu:uneOk (rawAt l 1)=false) (hx:0<escLen l∧escNum l≤255∧rawAt l (escFrom l+escLen l)=92):quotedS l q=some ((escNum l:Int),escFrom l+escLen l+1):=by
 unfold quotedS;rw [if_neg (by omega),if_neg hq,if_neg (fun hh=>hh h),hu,if_neg (by simp),if_pos hx]
theorem une_bd (c:Int) (h:uneOk c=true):0≤uneV c∧uneV c≤255∧0≤c∧c≤255:=by
 unfold uneOk uneV une at *
 grind (splits:=30)
theorem quotedS_ok (l:List UInt8) (q c:Int) (k:Nat) (hq:0≤q∧q≤255) (h:quotedS l q=some (c,k)):1≤k∧k≤l.length∧0≤c∧c≤255:=by
 unfold quotedS at h
 have n0:=rawAt_neg l 0
 have n1:=rawAt_neg l 1
 by_cases h1:rawAt l 0<0∨rawAt l 0=10
 ·rw [if_pos h1] at h;cases h
 rw [if_neg h1] at h
 by_cases h2:rawAt l 0=q
 ·rw [if_pos h2] at h
  by_cases h3:rawAt l 1=q
  ·rw [if_pos h3] at h;injection h with h;injection h with e1 e2;subst e1;subst e2;omega
  ·rw [if_neg h3] at h;cases h
 rw [if_neg h2] at h
 by_cases h3:rawAt l 0≠92
 ·rw [if_pos h3] at h;injection h with h;injection h with e1 e2;subst e1;subst e2
  have:=rawAt_hi l 0
  omega
 rw [if_neg h3] at h
 by_cases h4:uneOk (rawAt l 1)=true
 ·rw [if_pos h4] at h;injection h with h;injection h with e1 e2;subst e1;subst e2
  have:=une_bd _ h4
  omega
 rw [if_neg h4] at h
 by_cases h5:0<escLen l∧escNum l≤255∧rawAt l (escFrom l+escLen l)=92
 ·rw [if_pos h5] at h;injection h with h;injection h with e1 e2;subst e1;subst e2
  have n2:=rawAt_neg l (escFrom l+escLen l)
  omega
 ·rw [if_neg h5] at h;cases h
theorem itemF_fuel (q:Int) (hq:0≤q∧q≤255):∀(f g:Nat) (l:List UInt8),l.length<f→l.length<g→itemF f l q=itemF g l q
 | 0,_,_,h,_=>absurd h (by omega)
 | _+1,0,_,_,h=>absurd h (by omega)
 | f+1,g+1,l,h1,h2=>by
  unfold itemF
  have n0:=rawAt_neg l 0
  by_cases a1:rawAt l 0=q∧¬rawAt l 1=q
  ·rw [if_pos a1,if_pos a1]
  rw [if_neg a1,if_neg a1]
  by_cases a2:rawAt l 0=92∧rawAt l 1=10
  ·have n1:=rawAt_neg l 1
   rw [if_pos a2,if_pos a2,itemF_fuel q hq f g (l.drop 2) (by simp;omega) (by simp;omega)]
  rw [if_neg a2,if_neg a2]
  cases hs:quotedS l q with
  | none=>rfl
  | some ck=>
   obtain ⟨c,k⟩:=ck
   have:=quotedS_ok l q c k hq hs
   simp only []
   rw [itemF_fuel q hq f g (l.drop k) (by simp;omega) (by simp;omega)]
theorem item_eq (l:List UInt8) (q:Int) (hq:0≤q∧q≤255):item l q =
  if rawAt l 0=q∧¬rawAt l 1=q then some ([],0)
  else if rawAt l 0=92∧rawAt l 1=10 then (item (l.drop 2) q).map fun x=>(x.1,x.2+2)
  else match quotedS l q with
   | none=>none
   | some (c,k)=>(item (l.drop k) q).map fun x=>(c.toNat.toUInt8::x.1,x.2+k):=by
 have n0:=rawAt_neg l 0
 unfold item
 rw [itemF]
 by_cases a1:rawAt l 0=q∧¬rawAt l 1=q
 ·rw [if_pos a1,if_pos a1]
 rw [if_neg a1,if_neg a1]
 by_cases a2:rawAt l 0=92∧rawAt l 1=10
 ·have n1:=rawAt_neg l 1
  rw [if_pos a2,if_pos a2,itemF_fuel q hq l.length ((l.drop 2).length+1) (l.drop 2) (by simp;omega) (by omega)]
 rw [if_neg a2,if_neg a2]
 cases hs:quotedS l q with
 | none=>rfl
 | some ck=>
  obtain ⟨c,k⟩:=ck
  have:=quotedS_ok l q c k hq hs
  simp only []
  rw [itemF_fuel q hq l.length ((l.drop k).length+1) (l.drop k) (by simp;omega) (by omega)]
def itemAt (l:List UInt8) (q:Int) (acc:List UInt8) (j:Nat):Option (List UInt8×Nat):=(item (l.drop j) q).map fun x=>(acc++x.1,j+x.2)
theorem itemAt_end (l:List UInt8) (q:Int) (hq:0≤q∧q≤255) (acc:List UInt8) (j:Nat) (h1:rawAt l j=q) (h2:¬rawAt l (j+1)=q):itemAt l q acc j=some (acc,j):=by
 unfold itemAt;rw [item_eq _ _ hq,rawAt_drop,rawAt_drop,Nat.add_zero,if_pos ⟨h1,h2⟩];simp
theorem itemAt_cont (l:List UInt8) (q:Int) (hq:0≤q∧q≤255) (acc:List UInt8) (j:Nat) (h0:¬(rawAt l j=q∧¬rawAt l (j+1)=q)) (h1:rawAt l j=92) (h2:rawAt l (j+1)=10):itemAt l q acc j=itemAt l q acc (j+2):=by
 unfold itemAt;rw [item_eq _ _ hq,rawAt_drop,rawAt_drop,Nat.add_zero,if_neg h0,if_pos ⟨h1,h2⟩,List.drop_drop,Option.map_map]
 congr 1;funext x;simp;omega
theorem itemAt_none (l:List UInt8) (q:Int) (hq:0≤q∧q≤255) (acc:List UInt8) (j:Nat) (h0:¬(rawAt l j=q∧¬rawAt l (j+1)=q)) (h1:¬(rawAt l j=92∧rawAt l (j+1)=10)) (h2:quotedS (l.drop j) q=none):itemAt l q acc j=none:=by
 unfold itemAt;rw [item_eq _ _ hq,rawAt_drop,rawAt_drop,Nat.add_zero,if_neg h0,if_neg h1,h2];rfl
theorem itemAt_some (l:List UInt8) (q:Int) (hq:0≤q∧q≤255) (acc:List UInt8) (j k:Nat) (c:Int) (h0:¬(rawAt l j=q∧¬rawAt l (j+1)=q)) (h1:¬(rawAt l j=92∧rawAt l (j+1)=10)) (h2:quotedS (l.drop j) q=some (c,k)):itemAt l q acc j=itemAt l q (acc++[c.toNat.toUInt8]) (j+k):=by
 unfold itemAt;rw [item_eq _ _ hq,rawAt_drop,rawAt_drop,Nat.add_zero,if_neg h0,if_neg h1,h2]
 simp only []
 rw [List.drop_drop,Option.map_map]
 congr 1;funext x;simp;omega
theorem item_len (q:Int) (hq:0≤q∧q≤255):∀(f:Nat) (l:List UInt8) (t:List UInt8) (k:Nat),itemF f l q=some (t,k)→k+1≤l.length
 | 0,_,_,_,h=>by cases h
 | f+1,l,t,k,h=>by
  unfold itemF at h
  have n0:=rawAt_neg l 0
  by_cases a1:rawAt l 0=q∧¬rawAt l 1=q
  ·rw [if_pos a1] at h;injection h with h;injection h with e1 e2;subst e2;omega
  rw [if_neg a1] at h
  by_cases a2:rawAt l 0=92∧rawAt l 1=10
  ·have n1:=rawAt_neg l 1
   rw [if_pos a2] at h
   cases hi:itemF f (l.drop 2) q with
   | none=>rw [hi] at h;cases h
   | some x=>
    obtain ⟨t',k'⟩:=x
    have:=item_len q hq f (l.drop 2) t' k' hi
    rw [hi] at h;injection h with h;injection h with e1 e2;subst e2
    rw [List.length_drop] at this;simp only [];omega
  rw [if_neg a2] at h
  cases hs:quotedS l q with
  | none=>rw [hs] at h;cases h
  | some ck=>
   obtain ⟨c,j⟩:=ck
   have hok:=quotedS_ok l q c j hq hs
   rw [hs] at h
   simp only [] at h
   cases hi:itemF f (l.drop j) q with
   | none=>rw [hi] at h;cases h
   | some x=>
    obtain ⟨t',k'⟩:=x
    have:=item_len q hq f (l.drop j) t' k' hi
    rw [hi] at h;injection h with h;injection h with e1 e2;subst e2
    rw [List.length_drop] at this;simp only [];omega
theorem named_end (kind:Int) (t:List UInt8) (a e:Int) (h:(namedR kind t a e).err=0):(namedR kind t a e).at_=a∧(namedR kind t a e).end_=e∧(namedR kind t a e).kind=kind∧(namedR kind t a e).text=t:=by
 unfold namedR at *
 by_cases hk:100<t.length
 ·rw [if_pos hk] at h;exact absurd h (by decide)
 ·rw [if_neg hk];exact ⟨rfl,rfl,rfl,rfl⟩
theorem int_end (base:Int) (t:List UInt8) (a e:Int) (h:(intR base t a e).err=0):(intR base t a e).at_=a∧(intR base t a e).end_=e:=by
 unfold intR at *
 by_cases hk:natOf base t≤9223372036854775808
 ·rw [if_pos hk];exact ⟨rfl,rfl⟩
 ·rw [if_neg hk] at h;exact absurd h (by decide)
theorem cls_alnum (c:Int) (h:cls c=2∨cls c=3):alnum c=true:=by unfold alnum;rcases h with h | h <;> rw [h] <;> rfl
theorem cls_digit (c:Int) (h:cls c=4):isDig 10 c=true:=by
 have hc:48≤c∧c≤57:=by unfold cls at h;grind (splits:=30)
 unfold isDig;rw [digOk_dgt _ _ (by decide) (by decide)];unfold dgt;rw [if_pos hc];simp;omega
theorem tok_end (m l:List UInt8) (hl:m.length=l.length) (p:Nat) (hp:p<l.length) (h:(tokR m l p).err=0):(tokR m l p).at_=p∧∃e:Nat,(tokR m l p).end_=e∧p<e∧e≤l.length:=by
 unfold tokR at *
 have hd:0<(m.drop p).length:=by simp;omega
 have hr:rawAt (m.drop p) 0=rawAt m p:=by rw [rawAt_drop,Nat.add_zero]
 by_cases a0:rawAt m p=47∧rawAt m (p+1)=42
 ·rw [if_pos a0] at h;exact absurd h (by decide)
 rw [if_neg a0] at *
 by_cases a1:cls (rawAt m p)=2∨cls (rawAt m p)=3
 ·rw [if_pos a1] at *
  have h1:=span_pos alnum (m.drop p) hd (by rw [hr];exact cls_alnum _ a1)
  have h2:=span_le alnum (m.drop p)
  rw [List.length_drop] at h2
  obtain ⟨e1,e2,_⟩:=named_end _ _ _ _ h
  exact ⟨e1,p+span alnum (m.drop p),by unfold wordR;rw [e2];simp,by omega,by omega⟩
 rw [if_neg a1] at *
 by_cases a2:cls (rawAt m p)=4
 ·rw [if_pos a2] at *
  unfold numR at *
  by_cases b1:rawAt m p=48∧rawAt m (p+1)=39
  ·rw [if_pos b1] at *
   cases hq:quotedS (l.drop (p+2)) 39 with
   | none=>rw [hq] at h;exact absurd h (by show ¬(7:Int)=0;decide)
   | some ck=>
    obtain ⟨c,k⟩:=ck
    have hok:=quotedS_ok _ _ _ _ (by decide) hq
    rw [List.length_drop] at hok
    exact ⟨rfl,p+2+k,by simp,by omega,by omega⟩
  rw [if_neg b1] at *
  by_cases b2:0<numBase m p∧0<span (isDig (numBase m p)) (m.drop (p+2))
  ·rw [if_pos b2] at *
   have h2:=span_le (isDig (numBase m p)) (m.drop (p+2))
   rw [List.length_drop] at h2
   obtain ⟨e1,e2⟩:=int_end _ _ _ _ h
   exact ⟨e1,p+2+span (isDig (numBase m p)) (m.drop (p+2)),by rw [e2];simp,by omega,by omega⟩
  ·rw [if_neg b2] at *
   have h1:=span_pos (isDig 10) (m.drop p) hd (by rw [hr];exact cls_digit _ a2)
   have h2:=span_le (isDig 10) (m.drop p)
   rw [List.length_drop] at h2
   obtain ⟨e1,e2⟩:=int_end _ _ _ _ h
   exact ⟨e1,p+span (isDig 10) (m.drop p),by rw [e2];simp,by omega,by omega⟩
 rw [if_neg a2] at *
 by_cases a3:cls (rawAt m p)=5
 ·rw [if_pos a3] at *
  unfold symR at *
  by_cases b1:rawAt m p=46∧endNext (rawAt m (p+1))=true
  ·rw [if_pos b1];exact ⟨rfl,p+1,by simp,by omega,by omega⟩
  ·rw [if_neg b1] at *
   have h1:=span_pos isSym (m.drop p) hd (by rw [hr];unfold isSym;rw [a3];rfl)
   have h2:=span_le isSym (m.drop p)
   rw [List.length_drop] at h2
   obtain ⟨e1,e2,_⟩:=named_end _ _ _ _ h
   exact ⟨e1,p+span isSym (m.drop p),by rw [e2];simp,by omega,by omega⟩
 rw [if_neg a3] at *
 by_cases a4:cls (rawAt m p)=6
 ·rw [if_pos a4] at *
  obtain ⟨e1,e2,_⟩:=named_end _ _ _ _ h
  exact ⟨e1,p+1,by unfold soloR;rw [e2];simp,by omega,by omega⟩
 rw [if_neg a4] at *
 by_cases a5:cls (rawAt m p)=7
 ·rw [if_pos a5] at *
  unfold quoteR at *
  by_cases b1:rawAt m p=34
  ·rw [if_pos b1] at *
   cases hi:item (l.drop (p+1)) 34 with
   | none=>rw [hi] at h;exact absurd h (by show ¬(7:Int)=0;decide)
   | some x=>
    obtain ⟨t,k⟩:=x
    have:=item_len 34 (by decide) _ _ _ _ hi
    rw [List.length_drop] at this
    exact ⟨rfl,p+1+k+1,by simp [strRes],by omega,by omega⟩
  rw [if_neg b1] at *
  by_cases b2:rawAt m p=39
  ·rw [if_pos b2] at *
   cases hi:item (l.drop (p+1)) 39 with
   | none=>rw [hi] at h;exact absurd h (by show ¬(7:Int)=0;decide)
   | some x=>
    obtain ⟨t,k⟩:=x
    have:=item_len 39 (by decide) _ _ _ _ hi
    rw [List.length_drop] at this
    rw [hi] at h
    obtain ⟨e1,e2,_⟩:=named_end _ _ _ _ h
    exact ⟨e1,p+1+k+1,by unfold nmRes;rw [e2];simp,by omega,by omega⟩
  ·rw [if_neg b2] at h;exact absurd h (by decide)
 ·rw [if_neg a5] at h;exact absurd h (by decide)
theorem named_not14 (kind:Int) (t:List UInt8) (a e:Int):¬(namedR kind t a e).err=14:=by
 unfold namedR;split
 ·show ¬(2:Int)=14;decide
 ·show ¬(0:Int)=14;decide
theorem int_not14 (base:Int) (t:List UInt8) (a e:Int):¬(intR base t a e).err=14:=by
 unfold intR;split
 ·show ¬(0:Int)=14;decide
 ·show ¬(7:Int)=14;decide
theorem tok_not14 (m l:List UInt8) (p:Nat):¬(tokR m l p).err=14:=by
 unfold tokR
 split
 ·show ¬(7:Int)=14;decide
 split
 ·exact named_not14 _ _ _ _
 split
 ·unfold numR
  split
  ·cases quotedS (l.drop (p+2)) 39 with
   | none=>show ¬(7:Int)=14;decide
   | some ck=>show ¬(0:Int)=14;decide
  split
  ·exact int_not14 _ _ _ _
  ·exact int_not14 _ _ _ _
 split
 ·unfold symR
  split
  ·show ¬(0:Int)=14;decide
  ·exact named_not14 _ _ _ _
 split
 ·exact named_not14 _ _ _ _
 split
 ·unfold quoteR
  split
  ·cases item (l.drop (p+1)) 34 with
   | none=>show ¬(7:Int)=14;decide
   | some x=>show ¬(0:Int)=14;decide
  split
  ·cases item (l.drop (p+1)) 39 with
   | none=>show ¬(7:Int)=14;decide
   | some x=>exact named_not14 _ _ _ _
  ·show ¬(7:Int)=14;decide
 ·show ¬(7:Int)=14;decide
theorem next_end (m l:List UInt8) (hl:m.length=l.length) (a:Nat) (ha:a≤l.length) (h:(nextR m l a).r.err=0) :
  ∃p e:Nat,(nextR m l a).r.at_=p∧a≤p∧(nextR m l a).r.end_=e∧p<e∧e≤l.length∧(nextR m l a).lay=decide (a<p)∧(nextR m l a).where_=0:=by
 unfold nextR at *
 have hs:=skipN_le (m.drop a)
 rw [List.length_drop] at hs
 by_cases e1:a+skipN (m.drop a)=l.length
 ·simp only [if_pos e1] at h;exact absurd h (by decide)
 simp only [if_neg e1] at *
 by_cases e2:(tokR m l (a+skipN (m.drop a))).err=0
 ·simp only [if_pos e2] at *
  obtain ⟨e3,e,e4,e5,e6⟩:=tok_end m l hl (a+skipN (m.drop a)) (by omega) h
  exact ⟨_,e,e3,by omega,e4,e5,e6,rfl,by first | trivial | rfl⟩
 ·simp only [if_neg e2] at h
  exact absurd h e2
structure AllR where
 l:List NextR
 where_:Int
 err:Int
def allF:Nat→List UInt8→List UInt8→Nat→List NextR→AllR
 | 0,_,_,_,_=>⟨[],0,99⟩
 | f+1,m,l,a,acc=>
  if (nextR m l a).r.err=14∧acc≠[] then ⟨[],(nextR m l a).where_,7⟩
  else if ¬(nextR m l a).r.err=0 then ⟨[],(nextR m l a).where_,(nextR m l a).r.err⟩
  else if (nextR m l a).r.kind=7 then ⟨acc++[nextR m l a],0,0⟩
  else allF f m l (nextR m l a).r.end_.toNat (acc++[nextR m l a])
def allR (m l:List UInt8) (a:Nat):AllR:=allF (l.length+1) m l a []
theorem allF_succ (f:Nat) (m l:List UInt8) (a:Nat) (acc:List NextR):allF (f+1) m l a acc =
  if (nextR m l a).r.err=14∧acc≠[] then ⟨[],(nextR m l a).where_,7⟩
  else if ¬(nextR m l a).r.err=0 then ⟨[],(nextR m l a).where_,(nextR m l a).r.err⟩
  else if (nextR m l a).r.kind=7 then ⟨acc++[nextR m l a],0,0⟩
  else allF f m l (nextR m l a).r.end_.toNat (acc++[nextR m l a]):=rfl
theorem next_where (m l:List UInt8) (hl:m.length=l.length) (a:Nat) (ha:a≤l.length) (h:¬(nextR m l a).r.err=0) :
  ∃p:Nat,(nextR m l a).where_=p∧a≤p∧p≤l.length∧((nextR m l a).r.err=14→p=l.length)∧(¬(nextR m l a).r.err=14→p<l.length)∧nextR m l a=⟨errR (nextR m l a).r.err,false,p⟩:=by
 unfold nextR at *
 have hs:=skipN_le (m.drop a)
 rw [List.length_drop] at hs
 by_cases e1:a+skipN (m.drop a)=l.length
 ·simp only [if_pos e1] at *
  exact ⟨_,rfl,by omega,by omega,fun _=>e1,fun h=>absurd rfl h,rfl⟩
 simp only [if_neg e1] at *
 by_cases e2:(tokR m l (a+skipN (m.drop a))).err=0
 ·simp only [if_pos e2] at h;exact absurd e2 h
 ·simp only [if_neg e2] at *
  refine ⟨_,rfl,by omega,by omega,fun h=>?_,fun _=>by omega,rfl⟩
  exact absurd h (tok_not14 _ _ _)
def endAt (a0:Nat) (L:List NextR):Nat→Nat
 | 0=>a0
 | k+1=>match L[k]? with | some r=>r.r.end_.toNat | none=>0
theorem endAt_app (a0:Nat) (L:List NextR) (r:NextR) (k:Nat) (h:k≤L.length):endAt a0 (L++[r]) k=endAt a0 L k:=by
 cases k with
 | zero=>rfl
 | succ k=>simp only [endAt];rw [List.getElem?_append_left (by omega)]
theorem endAt_last (a0:Nat) (L:List NextR) (r:NextR):endAt a0 (L++[r]) (L.length+1)=r.r.end_.toNat:=by
 simp [endAt]
def Chain (m l:List UInt8) (a0:Nat) (L:List NextR) (last:Prop):Prop :=
 ∀i r,L[i]? = some r→nextR m l (endAt a0 L i)=r∧r.r.err=0∧(r.r.kind=7↔(i+1=L.length∧last))∧endAt a0 L i≤l.length
theorem Chain.snoc {m l:List UInt8} {a0:Nat} {L:List NextR} (h:Chain m l a0 L False) (a:Nat) (ha:a=endAt a0 L L.length) (hl:a≤l.length) (he:(nextR m l a).r.err=0) (p:Prop) (hk:(nextR m l a).r.kind=7↔p) :
  Chain m l a0 (L++[nextR m l a]) p:=by
 intro i r hi
 rcases Nat.lt_trichotomy i L.length with h1 | h1 | h1
 ·rw [List.getElem?_append_left h1] at hi
  obtain ⟨e1,e2,e3,e4⟩:=h i r hi
  rw [endAt_app _ _ _ _ (by omega)]
  refine ⟨e1,e2,⟨fun h7=>?_,fun h7=>?_⟩,e4⟩
  ·exact absurd (e3.1 h7).2 id
  ·have:=h7.1;simp at this;omega
 ·subst h1
  simp at hi
  subst hi
  rw [endAt_app _ _ _ _ (by omega),←ha]
  refine ⟨rfl,he,?_,hl⟩
  rw [hk];simp
 ·rw [List.getElem?_eq_none (by simp;omega)] at hi;cases hi
theorem allF_chain (m l:List UInt8) (hml:m.length=l.length) (a0:Nat):∀(f:Nat) (a:Nat) (acc:List NextR),Chain m l a0 acc False→a=endAt a0 acc acc.length→a≤l.length →
  ((allF f m l a acc).err=0→(allF f m l a acc).where_=0∧(allF f m l a acc).l≠[]∧Chain m l a0 (allF f m l a acc).l True)∧(¬(allF f m l a acc).err=0→(allF f m l a acc).l=[])
 | 0,a,acc,_,_,_=>⟨fun h=>absurd h (by show ¬(99:Int)=0;decide),fun _=>rfl⟩
 | f+1,a,acc,hc,ha,hl=>by
  rw [allF_succ]
  by_cases c1:(nextR m l a).r.err=14∧acc≠[]
  ·rw [if_pos c1];exact ⟨fun h=>absurd h (by show ¬(7:Int)=0;decide),fun _=>rfl⟩
  rw [if_neg c1]
  by_cases c2:(nextR m l a).r.err=0
  ·rw [if_neg (by simpa using c2)]
   obtain ⟨p,e,_,h2,h3,h4,h5,_,_⟩:=next_end m l hml a hl c2
   by_cases c3:(nextR m l a).r.kind=7
   ·rw [if_pos c3]
    exact ⟨fun _=>⟨rfl,by simp,hc.snoc a ha hl c2 True (by simp [c3])⟩,fun h=>absurd rfl h⟩
   ·rw [if_neg c3]
    refine allF_chain m l hml a0 f _ _ (hc.snoc a ha hl c2 False (by simp [c3])) ?_ ?_
    ·rw [List.length_append];exact (endAt_last _ _ _).symm
    ·rw [h3];simpa using h5
  ·rw [if_pos (by simpa using c2)]
   exact ⟨fun h=>absurd h c2,fun _=>rfl⟩
theorem allR_chain (m l:List UInt8) (hml:m.length=l.length) (a:Nat) (ha:a≤l.length) :
  ((allR m l a).err=0→(allR m l a).where_=0∧(allR m l a).l≠[]∧Chain m l a (allR m l a).l True)∧(¬(allR m l a).err=0→(allR m l a).l=[]) :=
 allF_chain m l hml a _ a [] (fun i r h=>by simp at h) rfl ha
end Hb
namespace Hb
open Go Go.RowKit
structure Fits (B:Nat) (r:LexR):Prop where
 txt:r.text.length≤B+100
 num:-9223372036854775808≤r.n∧r.n≤9223372036854775807
 nam:r.kind=1∨r.kind=2∨r.kind=3→r.text.length≤100
theorem no123 {k:Int} (c:Int) (e:k=c) (hc:c≠1∧c≠2∧c≠3) {P:Prop}:k=1∨k=2∨k=3→P:=fun h=>absurd h (by omega)
theorem item_text (q:Int) (hq:0≤q∧q≤255):∀(f:Nat) (l:List UInt8) (t:List UInt8) (k:Nat),itemF f l q=some (t,k)→t.length≤k
 | 0,_,_,_,h=>by cases h
 | f+1,l,t,k,h=>by
  unfold itemF at h
  by_cases a1:rawAt l 0=q∧¬rawAt l 1=q
  ·rw [if_pos a1] at h;injection h with h;injection h with e1 e2;subst e1;exact Nat.zero_le _
  rw [if_neg a1] at h
  by_cases a2:rawAt l 0=92∧rawAt l 1=10
  ·rw [if_pos a2] at h
   cases hi:itemF f (l.drop 2) q with
   | none=>rw [hi] at h;cases h
   | some x=>
    obtain ⟨t',k'⟩:=x
    have:=item_text q hq f (l.drop 2) t' k' hi
    rw [hi] at h;injection h with h;injection h with e1 e2;subst e1 e2
    simp only;omega
  rw [if_neg a2] at h
  cases hs:quotedS l q with
  | none=>rw [hs] at h;cases h
  | some ck=>
   obtain ⟨c,j⟩:=ck
   have hok:=quotedS_ok l q c j hq hs
   rw [hs] at h
   simp only [] at h
   cases hi:itemF f (l.drop j) q with
   | none=>rw [hi] at h;cases h
   | some x=>
    obtain ⟨t',k'⟩:=x
    have:=item_text q hq f (l.drop j) t' k' hi
    rw [hi] at h;injection h with h;injection h with e1 e2;subst e1 e2
    simp only [List.length_cons];omega
theorem named_fits (B:Nat) (kind:Int) (t:List UInt8) (a e:Int) (h:(namedR kind t a e).err=0):Fits B (namedR kind t a e):=by
 unfold namedR at *
 by_cases hk:100<t.length
 ·rw [if_pos hk] at h;exact absurd h (by decide)
 ·rw [if_neg hk];exact ⟨by simp only;omega,⟨by simp,by simp⟩,fun _=>by simp only;omega⟩
theorem int_fits (B:Nat) (base:Int) (t:List UInt8) (a e:Int) (h:(intR base t a e).err=0):Fits B (intR base t a e):=by
 unfold intR at *
 by_cases hk:natOf base t≤9223372036854775808
 ·rw [if_pos hk]
  refine ⟨by simp,?_,no123 4 rfl (by decide)⟩
  simp only
  split <;> omega
 ·rw [if_neg hk] at h;exact absurd h (by decide)
theorem tok_fits (m l:List UInt8) (p:Nat) (h:(tokR m l p).err=0):Fits l.length (tokR m l p):=by
 unfold tokR at *
 by_cases a0:rawAt m p=47∧rawAt m (p+1)=42
 ·rw [if_pos a0] at h;exact absurd h (by decide)
 rw [if_neg a0] at *
 by_cases a1:cls (rawAt m p)=2∨cls (rawAt m p)=3
 ·rw [if_pos a1] at *;exact named_fits _ _ _ _ _ h
 rw [if_neg a1] at *
 by_cases a2:cls (rawAt m p)=4
 ·rw [if_pos a2] at *
  unfold numR at *
  by_cases b1:rawAt m p=48∧rawAt m (p+1)=39
  ·rw [if_pos b1] at *
   cases hq:quotedS (l.drop (p+2)) 39 with
   | none=>rw [hq] at h;exact absurd h (by show ¬(7:Int)=0;decide)
   | some ck=>
    obtain ⟨c,k⟩:=ck
    have hok:=quotedS_ok _ _ _ _ (by decide) hq
    exact ⟨by simp,by simp only;omega,no123 4 rfl (by decide)⟩
  rw [if_neg b1] at *
  by_cases b2:0<numBase m p∧0<span (isDig (numBase m p)) (m.drop (p+2))
  ·rw [if_pos b2] at *;exact int_fits _ _ _ _ _ h
  ·rw [if_neg b2] at *;exact int_fits _ _ _ _ _ h
 rw [if_neg a2] at *
 by_cases a3:cls (rawAt m p)=5
 ·rw [if_pos a3] at *
  unfold symR at *
  by_cases b1:rawAt m p=46∧endNext (rawAt m (p+1))=true
  ·rw [if_pos b1];exact ⟨by simp,⟨by simp,by simp⟩,no123 7 rfl (by decide)⟩
  ·rw [if_neg b1] at *;exact named_fits _ _ _ _ _ h
 rw [if_neg a3] at *
 by_cases a4:cls (rawAt m p)=6
 ·rw [if_pos a4] at *;exact named_fits _ _ _ _ _ h
 rw [if_neg a4] at *
 by_cases a5:cls (rawAt m p)=7
 ·rw [if_pos a5] at *
  unfold quoteR at *
  by_cases b1:rawAt m p=34
  ·rw [if_pos b1] at *
   cases hi:item (l.drop (p+1)) 34 with
   | none=>rw [hi] at h;exact absurd h (by show ¬(7:Int)=0;decide)
   | some x=>
    obtain ⟨t,k⟩:=x
    have h1:=item_len 34 (by decide) _ _ _ _ hi
    have h2:=item_text 34 (by decide) _ _ _ _ hi
    rw [List.length_drop] at h1
    exact ⟨by simp only [strRes];omega,⟨by simp [strRes],by simp [strRes]⟩,no123 5 rfl (by decide)⟩
  rw [if_neg b1] at *
  by_cases b2:rawAt m p=39
  ·rw [if_pos b2] at *
   cases hi:item (l.drop (p+1)) 39 with
   | none=>rw [hi] at h;exact absurd h (by show ¬(7:Int)=0;decide)
   | some x=>rw [hi] at h;exact named_fits _ _ _ _ _ h
  ·rw [if_neg b2] at h;exact absurd h (by decide)
 ·rw [if_neg a5] at h;exact absurd h (by decide)
theorem next_fits (m l:List UInt8) (a:Nat) (h:(nextR m l a).r.err=0):Fits l.length (nextR m l a).r:=by
 unfold nextR at *
 by_cases e1:a+skipN (m.drop a)=l.length
 ·simp only [if_pos e1] at h;exact absurd h (by decide)
 simp only [if_neg e1] at *
 by_cases e2:(tokR m l (a+skipN (m.drop a))).err=0
 ·simp only [if_pos e2] at *;exact tok_fits _ _ _ e2
 ·simp only [if_neg e2] at h;exact absurd h e2
theorem allF_len (m l:List UInt8):∀(f:Nat) (a:Nat) (acc:List NextR),(allF f m l a acc).l.length≤acc.length+f
 | 0,_,_=>Nat.zero_le _
 | f+1,a,acc=>by
  rw [allF_succ]
  split
  ·exact Nat.zero_le _
  split
  ·exact Nat.zero_le _
  split
  ·simp
  ·have:=allF_len m l f (nextR m l a).r.end_.toNat (acc++[nextR m l a])
   simp at this;omega
structure ToksOk (B:Nat) (T:List NextR):Prop where
 len:T.length≤B+1
 pos:0<T.length
 last:∀i (h:i<T.length),T[i].r.kind=7↔i+1=T.length
 fits:∀t∈T,Fits B t.r
theorem allR_toks (m l:List UInt8) (hml:m.length=l.length) (a:Nat) (ha:a≤l.length) (h:(allR m l a).err=0):ToksOk l.length (allR m l a).l:=by
 obtain ⟨_,hne,hc⟩:=(allR_chain m l hml a ha).1 h
 refine ⟨by have:=allF_len m l (l.length+1) a [];simp at this;exact this,List.length_pos_iff.2 hne,fun i hi=>?_,fun t ht=>?_⟩
 ·have:=(hc i _ (List.getElem?_eq_getElem hi)).2.2.1
  simpa using this
 ·obtain ⟨i,hi⟩:=List.mem_iff_getElem?.1 ht
  obtain ⟨h1,h2,_⟩:=hc i t hi
  rw [←h1]
  exact next_fits _ _ _ (by rw [h1];exact h2)
end Hb
namespace Go.Proofs.YtbojljpldcijgaaGreat
open Go.RowKit Hb
set_option maxHeartbeats 400000 in
theorem chars_is (c:Int) (w:World) :
  Calls Tryz.prog 84 #[.int .i64 c] w fun e w'=>e=.returned (.bool (isCh c))∧w=w':=by
 by_cases h1:0≤c
 ·go_enter Tryz.func84,Tryz.ntmps84
  go_wp2
  go_ret
  exact ⟨by simp [isCh,h1],rfl⟩
 ·go_enter Tryz.func84,Tryz.ntmps84
  go_wp2
  go_ret
  exact ⟨by simp [isCh];omega,rfl⟩
set_option maxHeartbeats 400000 in
theorem ref_among (s:ByteArray) (c:Int) (w:World) (hs:s.size≤maxLen) :
  Calls Tryz.prog 183 #[.string s,.int .i64 c] w fun e w'=>e=.returned (.bool (among s.data.toList c))∧w=w':=by
 unfold maxLen at hs
 go_enter Tryz.func183,Tryz.ntmps183
 go_wp2
 go_loop [5] (fun i=>∃k:Nat,k≤s.size∧i=.int .i64 k∧among (s.data.toList.take k) c=false) (fun i=>s.size-(intOf i).toNat)
 case atStart=>exact ⟨0,Nat.zero_le _,rfl,rfl⟩
 case round=>
  obtain ⟨k,hk,rfl,hf⟩:=hrel
  have Hf:=zq hf
  clear hf
  by_cases hlt:k<s.size
  ·have hb:=bAt_mk s k hlt
   have hb0:=bAt_lo s.data.toList k
   have hb1:=bAt_hi s.data.toList k
   have Hs:=zq (among_snoc s.data.toList k c (by simpa using hlt))
   by_cases he:bAt s.data.toList k=c
   ·have Hr:=zq (among_stop s.data.toList k c (by simpa using hlt) he)
    have he':(bAt s.data.toList k==c)=true:=by simp [he]
    have He:=zq he
    clear he
    go_wp2
    go_ret
    exact ⟨by rw [Hr.out];rfl,rfl⟩
   ·have he':(bAt s.data.toList k==c)=false:=by simp [he]
    clear he
    go_wp2
    go_round
    case rel=>exact ⟨k+1,by omega,by go_num,by rw [Hs.out,Hf.out,he'];rfl⟩
    case measure=>simp [intOf];omega
  ·have Hr:=zq (among_all s.data.toList k c (by simpa using hlt) Hf.out)
   go_wp2
   go_ret
   exact ⟨by rw [Hr.out];rfl,rfl⟩
theorem call_indexByteString (s:ByteArray) (c:Int) (w:World):(callFunc 195 #[.string s,.int .u8 c]).run Tryz.prog w=.ok (.value (.int .i64 (Lib.indexByte s.data.toList c.toNat.toUInt8))) w:=by
 rw [run_callFunc_extern Tryz.func195 (by kernel_rfl) (by kernel_rfl) (by kernel_rfl) (e:=Extern.BytealgIndexByte.indexByte) (by kernel_rfl),Lib.run_indexByteString]
 rfl
set_option maxHeartbeats 400000 in
theorem lite_indexByte (s:ByteArray) (c:Int) (w:World) :
  Calls Tryz.prog 173 #[.string s,.int .u8 c] w fun e w'=>e=.returned (.int .i64 (Lib.indexByte s.data.toList c.toNat.toUInt8))∧w=w':=by
 have hx:=call_indexByteString s c
 go_enter Tryz.func173,Tryz.ntmps173
 go_wp2
 go_ret
 exact ⟨rfl,rfl⟩
set_option maxHeartbeats 400000 in
theorem strings_indexByte (s:ByteArray) (c:Int) (w:World) :
  Calls Tryz.prog 137 #[.string s,.int .u8 c] w fun e w'=>e=.returned (.int .i64 (Lib.indexByte s.data.toList c.toNat.toUInt8))∧w=w':=by
 go_enter Tryz.func137,Tryz.ntmps137
 go_wp2_with (go_at_call 173;refine (lite_indexByte _ _ _).mono ?_;rintro e w' ⟨rfl,rfl⟩)
 go_ret
 exact ⟨rfl,rfl⟩
theorem indexByte_among (c:Int) (h0:0≤c) (h1:c≤255):∀l:List UInt8,decide (0≤Lib.indexByte l c.toNat.toUInt8)=among l c
 | []=>rfl
 | b::l=>by
  have ih:=indexByte_among c h0 h1 l
  have hge:=Lib.indexByte_ge l c.toNat.toUInt8
  have hb:(b==c.toNat.toUInt8)=((b.toNat:Int)==c):=by
   rw [Bool.eq_iff_iff,beq_iff_eq,beq_iff_eq]
   constructor
   ·rintro rfl;simp;omega
   ·intro h;subst h;simp
  unfold Lib.indexByte among
  rw [List.any_cons,hb]
  unfold among at ih
  rw [←ih]
  by_cases hc:((b.toNat:Int)==c)=true
  ·simp [hc]
  ·simp only [hc]
   by_cases hm:Lib.indexByte l c.toNat.toUInt8=-1
   ·simp [hm]
   ·have:(Lib.indexByte l c.toNat.toUInt8 == -1)=false:=by simp [hm]
    simp only [this,Bool.false_eq_true,if_false,Bool.false_or]
    rw [decide_eq_decide];omega
set_option maxHeartbeats 400000 in
theorem class_closure (k c:Int) (s:ByteArray) (b o:Nat) (w:World) (hb:b<w.heap.size) (hp:w.cell? ⟨b,o,none⟩=some (.int .i64 c)) (h0:0≤c) (h1:c≤255) :
  Calls Tryz.prog 136 #[.agg #[.int .i64 k,.string s],.pointer (some ⟨b,o,none⟩)] w fun e w'=>e=.returned (.bool (among s.data.toList c))∧Below w.heap.size w w':=by
 have H:=zq (indexByte_among c h0 h1 s.data.toList)
 go_enter Tryz.func136,Tryz.ntmps136
 go_wp2_with (go_at_call 137;refine (strings_indexByte _ _ _).mono ?_;rintro e w' ⟨rfl,rfl⟩)
 go_ret
 exact ⟨ret_bool H.out,(Below.refl _ _).alloc (Nat.le_refl _) _⟩
def rowStr (j:Nat):ByteArray:=⟨(rowOf.getD j []).toArray⟩
theorem rowIx_step (c:Int) (k:Nat) (hk:k<7) (h:k≤rowIx c):(among (rowStr k).data.toList c=true→rowIx c=k)∧(among (rowStr k).data.toList c=false→k+1≤rowIx c):=by
 have hl:k<rowOf.length:=hk
 have e:(rowStr k).data.toList=rowOf[k]:=by
  unfold rowStr;rw [List.getD_eq_getElem?_getD,List.getElem?_eq_getElem hl];simp
 rw [e]
 constructor
 ·intro ha
  have h2:¬k<rowIx c:=fun hlt=>by
   have:=List.not_of_lt_findIdx (p:=fun l=>among l c) hlt
   simp [ha] at this
  omega
 ·intro ha
  have h2:rowIx c≠k:=fun he=>by
   have hlt:rowOf.findIdx (fun l=>among l c)<rowOf.length:=by show rowIx c<_;omega
   have:=List.findIdx_getElem (w:=hlt)
   have e2:rowOf[rowOf.findIdx (fun l=>among l c)]=rowOf[k]:=by congr 1
   rw [e2] at this
   simp [ha] at this
  omega
def rowRes (c:Int):Int:=if rowIx c=7 then -1 else rowIx c
set_option maxHeartbeats 400000 in
theorem class_indexFunc (c:Int) (g b:Nat) (w:World) (hb:b<w.heap.size) (hp:w.cell? ⟨b,0,none⟩=some (.int .i64 c)) (h0:0≤c) (h1:c≤255)
  (hg:g<w.heap.size) (hk:∀j:Nat,j<7→w.cell? ⟨g,j * 2,none⟩=some (.int .i64 (j+1))∧w.cell? ⟨g,j * 2+1,none⟩=some (.string (rowStr j))) :
  Calls Tryz.prog 135 #[.slice (some ⟨g,0,none⟩) 7 7,.func (.func 136) #[] #[.pointer (some ⟨b,0,none⟩)]] w fun e w'=>e=.returned (.int .i64 (rowRes c))∧Below w.heap.size w w':=by
 have HK:=zq hk
 clear hk
 have hle:=rowIx_le c
 go_enter Tryz.func135,Tryz.ntmps135
 go_wp2
 go_loopw [8] (fun i wr=>∃k:Nat,k≤7∧i=.int .i64 k∧k≤rowIx c∧Below w.heap.size w wr) (fun i _=>7-(intOf i).toNat)
 case atStart=>exact ⟨0,Nat.zero_le _,rfl,Nat.zero_le _,Below.refl _ _⟩
 case round=>
  obtain ⟨k,hk,rfl,hi,hB⟩:=hrel
  by_cases hlt:k<7
  ·obtain ⟨a1,a2⟩:=HK.out k hlt
   have c1:=(hB.cell (p:=⟨g,k * 2,none⟩) hg).trans a1
   have c2:=(hB.cell (p:=⟨g,k * 2+1,none⟩) hg).trans a2
   have c3:=(hB.cell (p:=⟨b,0,none⟩) hb).trans hp
   have hs:=hB.size
   have hb':b<wr.heap.size:=by omega
   clear a1 a2 hp
   have Hs:=zq (rowIx_step c k hlt hi)
   cases hm:among (rowStr k).data.toList c
   all_goals
    have Hm:=zq hm
    clear hm
    go_wp2_with (go_at_call 136;refine (class_closure _ _ _ _ _ _ hb' c3 h0 h1).mono ?_;rintro e w' ⟨rfl,hB2⟩;rw [Hm.out])
   ·have hs1:=Hs.out.2 Hm.out
    go_roundw
    case rel=>exact ⟨k+1,by omega,by go_num,hs1,hB.trans (hB2.mono hs)⟩
    case measure=>simp [intOf];omega
   ·have hs1:=Hs.out.1 Hm.out
    go_ret
    exact ⟨ret_int (by unfold rowRes;rw [hs1,if_neg (by omega)]),hB.trans (hB2.mono hs)⟩
  ·have h7:=zq (show rowIx c=7 by omega)
   go_wp2
   go_ret
   exact ⟨ret_int (by unfold rowRes;rw [h7.out,if_pos rfl]),hB⟩
abbrev rowArr:Array Value:=#[.int .i64 1,.string { data:=#[9,10,11,12,13,32] },.int .i64 2,.string { data:=#[97,98,99,100,101,102,103,104,105,106,107,108,109,110,111,112,113,114,115,116,117,118,119,120,121,122] },.int .i64 3,.string { data:=#[65,66,67,68,69,70,71,72,73,74,75,76,77,78,79,80,81,82,83,84,85,86,87,88,89,90,95] },.int .i64 4,.string { data:=#[48,49,50,51,52,53,54,55,56,57] },.int .i64 5,.string { data:=#[35,36,38,42,43,45,46,47,58,60,61,62,63,64,94,126,92] },.int .i64 6,.string { data:=#[33,40,41,44,59,91,93,123,125,37,124] },.int .i64 7,.string { data:=#[39,34,96] }]
theorem rows_at (w:World) (t:TypeId) (g j:Nat) (hg:g=w.heap.size) (hj:j<7):(w.alloc (.cells rowArr t)).cell? ⟨g,j * 2,none⟩=some (.int .i64 (j+1))∧(w.alloc (.cells rowArr t)).cell? ⟨g,j * 2+1,none⟩=some (.string (rowStr j)):=by
 subst hg
 rw [World.cell?_alloc_new,World.cell?_alloc_new]
 match j,hj with
 | 0,_=>exact ⟨rfl,rfl⟩
 | 1,_=>exact ⟨rfl,rfl⟩
 | 2,_=>exact ⟨rfl,rfl⟩
 | 3,_=>exact ⟨rfl,rfl⟩
 | 4,_=>exact ⟨rfl,rfl⟩
 | 5,_=>exact ⟨rfl,rfl⟩
 | 6,_=>exact ⟨rfl,rfl⟩
theorem cls_row (c:Int) (h0:0≤c) (h1:c≤255):cls c=(rowIx c:Int)+1:=by
 obtain ⟨n,rfl⟩:=Int.eq_ofNat_of_zero_le h0
 exact rowIx_cls n (by omega)
set_option maxHeartbeats 400000 in
theorem chars_class (c:Int) (w:World) :
  Calls Tryz.prog 93 #[.int .i64 c] w fun e w'=>e=.returned (.int .i64 (cls c))∧Below w.heap.size w w':=by
 cases hc:isCh c
 ·have h0:=zq (cls_out c (by rw [←isCh_iff];simp [hc]))
  go_enter Tryz.func93,Tryz.ntmps93
  go_wp2_with (go_at_call 84;refine (chars_is _ _).mono ?_;rintro e w' ⟨rfl,rfl⟩)
  go_ret
  exact ⟨ret_int h0.out.symm,(Below.refl _ _).alloc (Nat.le_refl _) _⟩
 ·obtain ⟨h0,h1⟩:=(isCh_iff c).1 hc
  have HC:=zq (cls_row c h0 h1)
  go_enter Tryz.func93,Tryz.ntmps93
  go_wp2_with (first | (go_at_call 84;refine (chars_is _ _).mono ?_;rintro e w' ⟨rfl,rfl⟩) | fail)
  have hrow:=fun t=>rows_at (w.alloc (.cells #[.int .i64 c] 3)) t (w.heap.size+1)
  refine (class_indexFunc c (w.heap.size+1) w.heap.size _ ?_ ?_ h0 h1 ?_ ?_).mono ?_
  ·simp;omega
  ·simp [go_sem]
  ·simp
  ·exact fun j hj=>hrow _ j (by simp) hj
  rintro e w1 ⟨rfl,hB⟩
  by_cases h7:rowIx c=7
  ·have HR:=zq (show rowRes c=-1 by unfold rowRes;rw [if_pos h7])
   have HX:=zq h7
   clear h7
   rw [HR.out]
   go_wp2
   go_ret
   exact ⟨ret_int (by rw [HC.out,HX.out];rfl),(((Below.refl _ _).alloc (Nat.le_refl _) _).alloc (by simp) _).trans (hB.mono (by simp;omega))⟩
  ·have HR:=zq (show rowRes c=rowIx c by unfold rowRes;rw [if_neg h7])
   have hlt:rowIx c<7:=by have:=rowIx_le c;omega
   rw [HR.out]
   have hc1:=(hB.cell (p:=⟨w.heap.size+1,rowIx c * 2,none⟩) (by simp)).trans (hrow _ (rowIx c) (by simp) hlt).1
   clear hrow h7
   go_wp2
   go_ret
   exact ⟨ret_int HC.out.symm,(((Below.refl _ _).alloc (Nat.le_refl _) _).alloc (by simp) _).trans (hB.mono (by simp;omega))⟩
set_option maxHeartbeats 1000000 in
theorem ref_digit (c base:Int) (w:World) :
  Calls Tryz.prog 186 #[.int .i64 c,.int .i64 base] w fun e w'=>e=.returned (.tuple #[.int .i64 (digV c base),.bool (digOk c base)])∧w=w':=by
 go_enter Tryz.func186,Tryz.ntmps186
 go_wp2
 all_goals (go_ret2;exact ⟨ret_ib (by grind [digV,dig]) (by grind [digOk,dig]),rfl⟩)
set_option maxHeartbeats 1000000 in
theorem chars_digit (c base:Int) (w:World) :
  Calls Tryz.prog 170 #[.int .i64 c,.int .i64 base] w fun e w'=>e=.returned (.tuple #[.int .i64 (digV c base),.bool (digOk c base)])∧w=w':=by
 go_enter Tryz.func170,Tryz.ntmps170
 go_wp2
 all_goals (go_ret2;exact ⟨ret_ib (by grind [digV,dig]) (by grind [digOk,dig]),rfl⟩)
end Go.Proofs.YtbojljpldcijgaaGreat
namespace Go.Proofs.YtbojljpldcijgaaGreat
open Go.RowKit Hb
set_option maxRecDepth 100000
structure Lex (w:World) (b:Nat) (s:ByteArray) (tab:Int→Int) (at_:Int):Prop where
 lt:b<w.heap.size
 c0:w.cell? ⟨b,0,none⟩=some (.string s)
 ct:∀c:Nat,c<256→w.cell? ⟨b,1+c,none⟩=some (.int .i64 (tab c))
 ca:w.cell? ⟨b,257,none⟩=some (.int .i64 at_)
 fr:∀o,w.frozen? ⟨b,o,none⟩=false
 sz:s.size≤16384
 tb:TabOk tab
theorem Lex.same {w w':World} {b:Nat} {s:ByteArray} {tab:Int→Int} {at_:Int} (h:Lex w b s tab at_) (hs:w.heap.size≤w'.heap.size) (hb:w'.heap[b]? = w.heap[b]?):Lex w' b s tab at_ where
 lt:=Nat.lt_of_lt_of_le h.lt hs
 c0:=(World.cell?_of_block (w:=w) hb).trans h.c0
 ct:=fun c hc=>(World.cell?_of_block (w:=w) hb).trans (h.ct c hc)
 ca:=(World.cell?_of_block (w:=w) hb).trans h.ca
 fr:=fun o=>(World.frozen?_of_block (w:=w) hb).trans (h.fr o)
 sz:=h.sz
 tb:=h.tb
theorem Lex.below {w w':World} {b:Nat} {s:ByteArray} {tab:Int→Int} {at_:Int} (h:Lex w b s tab at_) {B:Nat} (hb:Below B w w') (hB:b<B):Lex w' b s tab at_:=h.same hb.size (hb.block b hB)
theorem Lex.drewN {w:World} {b:Nat} {s:ByteArray} {tab:Int→Int} {at_:Int} (h:Lex w b s tab at_) (n:Nat):Lex (w.drewN n) b s tab at_:=h.same (Nat.le_refl _) rfl
theorem Lex.tabc {w:World} {b:Nat} {s:ByteArray} {tab:Int→Int} {at_:Int} (h:Lex w b s tab at_) (k:Nat) (hk:k<s.size):w.cell? ⟨b,1+s[k].toNat,none⟩=some (.int .i64 (rawAt (cvt tab s.data.toList) k)):=by
 have hl:k<s.data.toList.length:=by simpa using hk
 have e:(tab (bAt s.data.toList k))=rawAt (cvt tab s.data.toList) k:=by
  rw [cvt_at tab h.tb _ _ hl,rawAt_in _ _ (by rw [cvt_len];exact hl)]
 rw [h.ct s[k].toNat s[k].toNat_lt,bAt_mk s k hk,e]
set_option maxHeartbeats 400000 in
theorem lex_char (b:Nat) (s:ByteArray) (tab:Int→Int) (at_ i:Int) (w:World) (h:Lex w b s tab at_) (h0:0≤i) :
  Calls Tryz.prog 92 #[.pointer (some ⟨b,0,none⟩),.int .i64 i] w fun e w'=>e=.returned (.int .i64 (rawAt (cvt tab s.data.toList) i.toNat))∧Below w.heap.size w w':=by
 obtain ⟨k,rfl⟩:=Int.eq_ofNat_of_zero_le h0
 have hsz:=h.sz
 have c0:=h.c0
 by_cases hlt:k<s.size
 ·have c1:=h.tabc k hlt
  have hb:=bAt_lo s.data.toList k
  have hlt':(s[k].toNat:Int)<256:=by have:=s[k].toNat_lt;omega
  go_enter Tryz.func92,Tryz.ntmps92
  go_wp2
  go_quiet (fail)
  go_wp2
  go_ret
  exact ⟨ret_int rfl,bl_drewN (Below.refl _ _) _⟩
 ·have HR:=zq (rawAt_out (cvt tab s.data.toList) k (by rw [cvt_len];simp;omega))
  go_enter Tryz.func92,Tryz.ntmps92
  go_wp2
  go_ret
  exact ⟨ret_int HR.out.symm,Below.refl _ _⟩
set_option maxHeartbeats 400000 in
theorem lex_raw (b:Nat) (s:ByteArray) (tab:Int→Int) (at_ i:Int) (w:World) (h:Lex w b s tab at_) (h0:0≤i) :
  Calls Tryz.prog 134 #[.pointer (some ⟨b,0,none⟩),.int .i64 i] w fun e w'=>e=.returned (.int .i64 (rawAt s.data.toList i.toNat))∧w=w':=by
 obtain ⟨k,rfl⟩:=Int.eq_ofNat_of_zero_le h0
 have hsz:=h.sz
 have c0:=h.c0
 by_cases hlt:k<s.size
 ·have hb:=bAt_mk s k hlt
  have HR:=zq (rawAt_in s.data.toList k (by simpa using hlt))
  have hb0:=bAt_lo s.data.toList k
  have hb1:=bAt_hi s.data.toList k
  go_enter Tryz.func134,Tryz.ntmps134
  go_wp2
  go_ret
  exact ⟨ret_int HR.out.symm,rfl⟩
 ·have HR:=zq (rawAt_out s.data.toList k (by simp;omega))
  go_enter Tryz.func134,Tryz.ntmps134
  go_wp2
  go_ret
  exact ⟨ret_int HR.out.symm,rfl⟩
set_option maxHeartbeats 400000 in
theorem lex_notNl (c:Int) (w:World) :
  Calls Tryz.prog 126 #[.int .i64 c] w fun e w'=>e=.returned (.bool (notNl c))∧Below w.heap.size w w':=by
 go_enter Tryz.func126,Tryz.ntmps126
 go_wp2
 go_ret
 exact ⟨ret_bool (by unfold notNl;simp [bne]),Below.refl _ _⟩
set_option maxHeartbeats 400000 in
theorem lex_isSym (c:Int) (w:World) :
  Calls Tryz.prog 133 #[.int .i64 c] w fun e w'=>e=.returned (.bool (isSym c))∧Below w.heap.size w w':=by
 go_enter Tryz.func133,Tryz.ntmps133
 go_wp2_with (go_at_call 93;refine (chars_class _ _).mono ?_;rintro e w' ⟨rfl,hB⟩)
 go_ret
 exact ⟨ret_bool rfl,hB⟩
set_option maxHeartbeats 400000 in
theorem lex_alnum (c:Int) (w:World) :
  Calls Tryz.prog 127 #[.int .i64 c] w fun e w'=>e=.returned (.bool (alnum c))∧Below w.heap.size w w':=by
 go_enter Tryz.func127,Tryz.ntmps127
 go_wp2_with (go_at_call 93;refine (chars_class _ _).mono ?_;rintro e w' ⟨rfl,hB⟩)
 all_goals (go_ret;exact ⟨ret_bool (by grind [alnum]),hB⟩)
set_option maxHeartbeats 400000 in
theorem lex_isDig (c base:Int) (g:Nat) (w:World) (hg:w.cell? ⟨g,0,none⟩=some (.int .i64 base)) :
  Calls Tryz.prog 171 #[.int .i64 c,.pointer (some ⟨g,0,none⟩)] w fun e w'=>e=.returned (.bool (digOk c base))∧Below w.heap.size w w':=by
 go_enter Tryz.func171,Tryz.ntmps171
 go_wp2_with (go_at_call 170;refine (chars_digit _ _ _).mono ?_;rintro e w' ⟨rfl,rfl⟩)
 go_ret
 exact ⟨ret_bool rfl,Below.refl _ _⟩
set_option maxHeartbeats 800000 in
theorem run_notNl (b:Nat) (s:ByteArray) (tab:Int→Int) (at_ i:Int) (w:World) (h:Lex w b s tab at_) (h0:0≤i) :
  Calls Tryz.prog 125 #[.pointer (some ⟨b,0,none⟩),.int .i64 i,.func (.func 126) #[] #[]] w fun e w'=>e=.returned (.int .i64 (i+span (notNl) ((cvt tab s.data.toList).drop i.toNat)))∧Below w.heap.size w w':=by
 obtain ⟨k0,rfl⟩:=Int.eq_ofNat_of_zero_le h0
 have hsz:=h.sz
 have HL:=zq h
 have hlt0:=h.lt
 clear h
 rw [Int.toNat_natCast]
 go_enter Tryz.func125,Tryz.ntmps125
 go_wp2
 go_loopw [1] (fun i wr=>∃k:Nat,i=.int .i64 k∧Below w.heap.size w wr∧Hid (k+span (notNl) ((cvt tab s.data.toList).drop k)=k0+span (notNl) ((cvt tab s.data.toList).drop k0))) (fun i _=>s.size-(intOf i).toNat)
 case atStart=>exact ⟨k0,rfl,Below.refl _ _,rfl⟩
 case round=>
  obtain ⟨k,rfl,hB,HE⟩:=hrel
  have L:=HL.out.below hB hlt0
  have c0:=L.c0
  have hs:=hB.size
  by_cases hlt:k<s.size
  ·have hkl:k<(cvt tab s.data.toList).length:=by rw [cvt_len];simpa using hlt
   have HR:=zq (rawAt_in (cvt tab s.data.toList) k hkl)
   cases hq:(notNl) (rawAt (cvt tab s.data.toList) k)
   ·have HN:=zq (span_no (notNl) (cvt tab s.data.toList) k hkl (by rw [←HR.out];exact hq))
    have Hq:=zq hq
    clear hq
    go_wp2_with (first | (go_at_call 92;refine (lex_char _ _ _ _ _ _ L (by omega)).mono ?_;rintro e w1 ⟨rfl,hB1⟩;rw [Int.toNat_natCast]) | (go_at_call 126;refine (lex_notNl _ _).mono ?_;rintro e w2 ⟨rfl,hB2⟩;rw [show notNl (rawAt (cvt tab s.data.toList) k)=false from Hq.out]))
    go_ret
    exact ⟨ret_int (by have h1:=HE.out;have h2:=HN.out;omega),hB.trans ((hB1.mono (by omega)).trans (hB2.mono (by have:=hB1.size;omega)))⟩
   ·have HN:=zq (span_yes (notNl) (cvt tab s.data.toList) k hkl (by rw [←HR.out];exact hq))
    have Hq:=zq hq
    clear hq
    go_wp2_with (first | (go_at_call 92;refine (lex_char _ _ _ _ _ _ L (by omega)).mono ?_;rintro e w1 ⟨rfl,hB1⟩;rw [Int.toNat_natCast]) | (go_at_call 126;refine (lex_notNl _ _).mono ?_;rintro e w2 ⟨rfl,hB2⟩;rw [show notNl (rawAt (cvt tab s.data.toList) k)=true from Hq.out]))
    go_roundw
    case rel=>exact ⟨k+1,by go_num,hB.trans ((hB1.mono (by omega)).trans (hB2.mono (by have:=hB1.size;omega))),by have h1:=HE.out;have h2:=HN.out;show _=_;omega⟩
    case measure=>simp [intOf];omega
  ·have HN:=zq (span_end (notNl) (cvt tab s.data.toList) k (by rw [cvt_len];simp;omega))
   go_wp2
   go_ret
   exact ⟨ret_int (by have h1:=HE.out;have h2:=HN.out;omega),hB⟩
set_option maxHeartbeats 800000 in
theorem run_sym (b:Nat) (s:ByteArray) (tab:Int→Int) (at_ i:Int) (w:World) (h:Lex w b s tab at_) (h0:0≤i) :
  Calls Tryz.prog 125 #[.pointer (some ⟨b,0,none⟩),.int .i64 i,.func (.func 133) #[] #[]] w fun e w'=>e=.returned (.int .i64 (i+span (isSym) ((cvt tab s.data.toList).drop i.toNat)))∧Below w.heap.size w w':=by
 obtain ⟨k0,rfl⟩:=Int.eq_ofNat_of_zero_le h0
 have hsz:=h.sz
 have HL:=zq h
 have hlt0:=h.lt
 clear h
 rw [Int.toNat_natCast]
 go_enter Tryz.func125,Tryz.ntmps125
 go_wp2
 go_loopw [1] (fun i wr=>∃k:Nat,i=.int .i64 k∧Below w.heap.size w wr∧Hid (k+span (isSym) ((cvt tab s.data.toList).drop k)=k0+span (isSym) ((cvt tab s.data.toList).drop k0))) (fun i _=>s.size-(intOf i).toNat)
 case atStart=>exact ⟨k0,rfl,Below.refl _ _,rfl⟩
 case round=>
  obtain ⟨k,rfl,hB,HE⟩:=hrel
  have L:=HL.out.below hB hlt0
  have c0:=L.c0
  have hs:=hB.size
  by_cases hlt:k<s.size
  ·have hkl:k<(cvt tab s.data.toList).length:=by rw [cvt_len];simpa using hlt
   have HR:=zq (rawAt_in (cvt tab s.data.toList) k hkl)
   cases hq:(isSym) (rawAt (cvt tab s.data.toList) k)
   ·have HN:=zq (span_no (isSym) (cvt tab s.data.toList) k hkl (by rw [←HR.out];exact hq))
    have Hq:=zq hq
    clear hq
    go_wp2_with (first | (go_at_call 92;refine (lex_char _ _ _ _ _ _ L (by omega)).mono ?_;rintro e w1 ⟨rfl,hB1⟩;rw [Int.toNat_natCast]) | (go_at_call 133;refine (lex_isSym _ _).mono ?_;rintro e w2 ⟨rfl,hB2⟩;rw [show isSym (rawAt (cvt tab s.data.toList) k)=false from Hq.out]))
    go_ret
    exact ⟨ret_int (by have h1:=HE.out;have h2:=HN.out;omega),hB.trans ((hB1.mono (by omega)).trans (hB2.mono (by have:=hB1.size;omega)))⟩
   ·have HN:=zq (span_yes (isSym) (cvt tab s.data.toList) k hkl (by rw [←HR.out];exact hq))
    have Hq:=zq hq
    clear hq
    go_wp2_with (first | (go_at_call 92;refine (lex_char _ _ _ _ _ _ L (by omega)).mono ?_;rintro e w1 ⟨rfl,hB1⟩;rw [Int.toNat_natCast]) | (go_at_call 133;refine (lex_isSym _ _).mono ?_;rintro e w2 ⟨rfl,hB2⟩;rw [show isSym (rawAt (cvt tab s.data.toList) k)=true from Hq.out]))
    go_roundw
    case rel=>exact ⟨k+1,by go_num,hB.trans ((hB1.mono (by omega)).trans (hB2.mono (by have:=hB1.size;omega))),by have h1:=HE.out;have h2:=HN.out;show _=_;omega⟩
    case measure=>simp [intOf];omega
  ·have HN:=zq (span_end (isSym) (cvt tab s.data.toList) k (by rw [cvt_len];simp;omega))
   go_wp2
   go_ret
   exact ⟨ret_int (by have h1:=HE.out;have h2:=HN.out;omega),hB⟩
set_option maxHeartbeats 800000 in
theorem run_alnum (b:Nat) (s:ByteArray) (tab:Int→Int) (at_ i:Int) (w:World) (h:Lex w b s tab at_) (h0:0≤i) :
  Calls Tryz.prog 125 #[.pointer (some ⟨b,0,none⟩),.int .i64 i,.func (.func 127) #[] #[]] w fun e w'=>e=.returned (.int .i64 (i+span (alnum) ((cvt tab s.data.toList).drop i.toNat)))∧Below w.heap.size w w':=by
 obtain ⟨k0,rfl⟩:=Int.eq_ofNat_of_zero_le h0
 have hsz:=h.sz
 have HL:=zq h
 have hlt0:=h.lt
 clear h
 rw [Int.toNat_natCast]
 go_enter Tryz.func125,Tryz.ntmps125
 go_wp2
 go_loopw [1] (fun i wr=>∃k:Nat,i=.int .i64 k∧Below w.heap.size w wr∧Hid (k+span (alnum) ((cvt tab s.data.toList).drop k)=k0+span (alnum) ((cvt tab s.data.toList).drop k0))) (fun i _=>s.size-(intOf i).toNat)
 case atStart=>exact ⟨k0,rfl,Below.refl _ _,rfl⟩
 case round=>
  obtain ⟨k,rfl,hB,HE⟩:=hrel
  have L:=HL.out.below hB hlt0
  have c0:=L.c0
  have hs:=hB.size
  by_cases hlt:k<s.size
  ·have hkl:k<(cvt tab s.data.toList).length:=by rw [cvt_len];simpa using hlt
   have HR:=zq (rawAt_in (cvt tab s.data.toList) k hkl)
   cases hq:(alnum) (rawAt (cvt tab s.data.toList) k)
   ·have HN:=zq (span_no (alnum) (cvt tab s.data.toList) k hkl (by rw [←HR.out];exact hq))
    have Hq:=zq hq
    clear hq
    go_wp2_with (first | (go_at_call 92;refine (lex_char _ _ _ _ _ _ L (by omega)).mono ?_;rintro e w1 ⟨rfl,hB1⟩;rw [Int.toNat_natCast]) | (go_at_call 127;refine (lex_alnum _ _).mono ?_;rintro e w2 ⟨rfl,hB2⟩;rw [show alnum (rawAt (cvt tab s.data.toList) k)=false from Hq.out]))
    go_ret
    exact ⟨ret_int (by have h1:=HE.out;have h2:=HN.out;omega),hB.trans ((hB1.mono (by omega)).trans (hB2.mono (by have:=hB1.size;omega)))⟩
   ·have HN:=zq (span_yes (alnum) (cvt tab s.data.toList) k hkl (by rw [←HR.out];exact hq))
    have Hq:=zq hq
    clear hq
    go_wp2_with (first | (go_at_call 92;refine (lex_char _ _ _ _ _ _ L (by omega)).mono ?_;rintro e w1 ⟨rfl,hB1⟩;rw [Int.toNat_natCast]) | (go_at_call 127;refine (lex_alnum _ _).mono ?_;rintro e w2 ⟨rfl,hB2⟩;rw [show alnum (rawAt (cvt tab s.data.toList) k)=true from Hq.out]))
    go_roundw
    case rel=>exact ⟨k+1,by go_num,hB.trans ((hB1.mono (by omega)).trans (hB2.mono (by have:=hB1.size;omega))),by have h1:=HE.out;have h2:=HN.out;show _=_;omega⟩
    case measure=>simp [intOf];omega
  ·have HN:=zq (span_end (alnum) (cvt tab s.data.toList) k (by rw [cvt_len];simp;omega))
   go_wp2
   go_ret
   exact ⟨ret_int (by have h1:=HE.out;have h2:=HN.out;omega),hB⟩
set_option maxHeartbeats 800000 in
theorem run_dig (b:Nat) (s:ByteArray) (tab:Int→Int) (at_ i:Int) (base:Int) (g:Nat) (w:World) (h:Lex w b s tab at_) (h0:0≤i) (hgl:g<w.heap.size) (hg:w.cell? ⟨g,0,none⟩=some (.int .i64 base)) :
  Calls Tryz.prog 125 #[.pointer (some ⟨b,0,none⟩),.int .i64 i,.func (.func 171) #[] #[.pointer (some ⟨g,0,none⟩)]] w fun e w'=>e=.returned (.int .i64 (i+span (fun c=>digOk c base) ((cvt tab s.data.toList).drop i.toNat)))∧Below w.heap.size w w':=by
 obtain ⟨k0,rfl⟩:=Int.eq_ofNat_of_zero_le h0
 have hsz:=h.sz
 have HL:=zq h
 have hlt0:=h.lt
 clear h
 rw [Int.toNat_natCast]
 have HG:=zq hg
 clear hg
 go_enter Tryz.func125,Tryz.ntmps125
 go_wp2
 go_loopw [1] (fun i wr=>∃k:Nat,i=.int .i64 k∧Below w.heap.size w wr∧Hid (k+span (fun c=>digOk c base) ((cvt tab s.data.toList).drop k)=k0+span (fun c=>digOk c base) ((cvt tab s.data.toList).drop k0))) (fun i _=>s.size-(intOf i).toNat)
 case atStart=>exact ⟨k0,rfl,Below.refl _ _,rfl⟩
 case round=>
  obtain ⟨k,rfl,hB,HE⟩:=hrel
  have L:=HL.out.below hB hlt0
  have c0:=L.c0
  have hs:=hB.size
  have hg1:=(hB.cell (p:=⟨g,0,none⟩) hgl).trans HG.out
  have hgl1:g<wr.heap.size:=by omega
  by_cases hlt:k<s.size
  ·have hkl:k<(cvt tab s.data.toList).length:=by rw [cvt_len];simpa using hlt
   have HR:=zq (rawAt_in (cvt tab s.data.toList) k hkl)
   cases hq:(fun c=>digOk c base) (rawAt (cvt tab s.data.toList) k)
   ·have HN:=zq (span_no (fun c=>digOk c base) (cvt tab s.data.toList) k hkl (by rw [←HR.out];exact hq))
    have Hq:=zq hq
    clear hq
    go_wp2_with (first | (go_at_call 92;refine (lex_char _ _ _ _ _ _ L (by omega)).mono ?_;rintro e w1 ⟨rfl,hB1⟩;rw [Int.toNat_natCast]) | (go_at_call 171;go_must (refine (lex_isDig _ base g _ ((hB1.cell (p:=⟨g,0,none⟩) hgl1).trans hg1)).mono ?_);rintro e w2 ⟨rfl,hB2⟩;rw [show digOk (rawAt (cvt tab s.data.toList) k) base=false from Hq.out]))
    go_ret
    exact ⟨ret_int (by have h1:=HE.out;have h2:=HN.out;omega),hB.trans ((hB1.mono (by omega)).trans (hB2.mono (by have:=hB1.size;omega)))⟩
   ·have HN:=zq (span_yes (fun c=>digOk c base) (cvt tab s.data.toList) k hkl (by rw [←HR.out];exact hq))
    have Hq:=zq hq
    clear hq
    go_wp2_with (first | (go_at_call 92;refine (lex_char _ _ _ _ _ _ L (by omega)).mono ?_;rintro e w1 ⟨rfl,hB1⟩;rw [Int.toNat_natCast]) | (go_at_call 171;go_must (refine (lex_isDig _ base g _ ((hB1.cell (p:=⟨g,0,none⟩) hgl1).trans hg1)).mono ?_);rintro e w2 ⟨rfl,hB2⟩;rw [show digOk (rawAt (cvt tab s.data.toList) k) base=true from Hq.out]))
    go_roundw
    case rel=>exact ⟨k+1,by go_num,hB.trans ((hB1.mono (by omega)).trans (hB2.mono (by have:=hB1.size;omega))),by have h1:=HE.out;have h2:=HN.out;show _=_;omega⟩
    case measure=>simp [intOf];omega
  ·have HN:=zq (span_end (fun c=>digOk c base) (cvt tab s.data.toList) k (by rw [cvt_len];simp;omega))
   go_wp2
   go_ret
   exact ⟨ret_int (by have h1:=HE.out;have h2:=HN.out;omega),hB⟩
theorem infoU8:(Tryz.prog.info? 5).map (fun i=>(i.zero,i.size,i.bytes))=some (some (.int .u8 0),1,1):=by kernel_rfl
theorem take_snoc (l:List UInt8) (k:Nat) (h:k<l.length):l.take (k+1)=l.take k++[(bAt l k).toNat.toUInt8]:=by
 rw [List.take_succ_eq_append_getElem h,←bAt_get _ _ h];simp
theorem take_drop_snoc (l:List UInt8) (i k:Nat) (h:i+k<l.length):(l.drop i).take (k+1)=(l.drop i).take k++[(bAt l (i+k)).toNat.toUInt8]:=by
 rw [take_snoc _ _ (by simp;omega),bAt_drop]
set_option maxHeartbeats 800000 in
theorem lex_part (b:Nat) (s:ByteArray) (tab:Int→Int) (at_ i j:Int) (w:World) (h:Lex w b s tab at_) (h0:0≤i) (h1:i≤j) (h2:j≤s.size) :
  Calls Tryz.prog 129 #[.pointer (some ⟨b,0,none⟩),.int .i64 i,.int .i64 j] w fun e w'=>e=.returned (.string ⟨(((cvt tab s.data.toList).drop i.toNat).take (j-i).toNat).toArray⟩)∧Below w.heap.size w w':=by
 obtain ⟨k0,rfl⟩:=Int.eq_ofNat_of_zero_le h0
 obtain ⟨n,hn⟩:=Int.eq_ofNat_of_zero_le (show 0≤j-k0 by omega)
 obtain rfl:j=k0+n:=by omega
 have hsz:=h.sz
 have HL:=zq h
 have hlt0:=h.lt
 clear h hn
 rw [Int.toNat_natCast,show ((k0:Int)+n-k0).toNat=n by omega]
 go_enter Tryz.func129,Tryz.ntmps129
 go_wp2
 go_loopw [7,8] (fun v i wr=>∃k:Nat,k≤n∧i=.int .i64 (k0+k:Nat)∧Below w.heap.size w wr∧wr.ownsRow w.heap.size 5 1 v k (Hb.byteCells (((cvt tab s.data.toList).drop k0).take k))) (fun _ i _=>k0+n-(intOf i).toNat)
 case atStart=>exact ⟨0,Nat.zero_le _,rfl,Below.refl _ _,⟨by simp [Hb.byteCells],.inl ⟨rfl,rfl⟩⟩⟩
 case round=>
  obtain ⟨k,hk,rfl,hB,hown⟩:=hrel
  have L:=HL.out.below hB hlt0
  have c0:=L.c0
  have hs:=hB.size
  by_cases hlt:k<n
  ·have hkl:k0+k<(cvt tab s.data.toList).length:=by rw [cvt_len];simp;omega
   have HR:=zq (rawAt_in (cvt tab s.data.toList) (k0+k) hkl)
   have HT:=zq (take_drop_snoc (cvt tab s.data.toList) k0 k hkl)
   have hb0:=bAt_lo (cvt tab s.data.toList) (k0+k)
   have hb1:=bAt_hi (cvt tab s.data.toList) (k0+k)
   go_wp2_with (first | (go_at_call 92;refine (lex_char _ _ _ _ _ _ L (by omega)).mono ?_;rintro e w1 ⟨rfl,hB1⟩;rw [show ((k0:Int)+k).toNat=k0+k by omega,HR.out]) | (at_builtin;go_must (refine wpList_append_byte rfl _ _ 168 5 rfl Tryz.underlying168 infoU8 w.heap.size _ _ _ rfl _ (hown.kept (row:=none) ⟨hB1.os,hB1.tape,hB1.output,hB1.size,fun k hk _=>hB1.block k hk⟩ (by simp [Value.ownBlock];split <;> simp)) _ hb0 hb1 rfl rfl (by omega) (by have:=hB1.size;omega) ?_;intro v1 w2 hown1 hB2)))
   go_roundw
   case rel=>exact ⟨k+1,by omega,by go_num,hB.trans ((hB1.mono (by omega)).trans hB2),by rw [HT.out];exact hown1⟩
   case measure=>simp [intOf];omega
  ·obtain rfl:k=n:=by omega
   have hc:=conv_own (P:=Tryz.prog) wr 168 9 5 Tryz.underlying168 Tryz.underlying5 Tryz.underlying9 _ _ k _ hown
   go_wp2
   go_ret
   exact ⟨ret_str rfl,hB⟩
end Go.Proofs.YtbojljpldcijgaaGreat
