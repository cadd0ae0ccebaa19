/- Parts of the proof. -/
import Derived.Test.YtpokpgkjaifccaaGreatDoorRRH01
import Derived.Lib.ItoaNum
import Derived.Test.YtpokpgkjaifccaaGreatDoorRRProg
import Derived.Lib.Builder
import Derived.Lib.AppendStr
import Derived.Lib.UnsafeStr
import Derived.Laws.Externs
import Derived.Laws.AppendOwnNone
import Derived.SliceStrings
import Derived.Deep.Slices
import Derived.ProofKit
import Derived.Laws.OwnMore
import Derived.Maps.AppendAt
import Derived.Deep.AppendLies
import Derived.Deep.RegionLaw
import Derived.Deep.DeepMust
namespace Hb
structure LexR where
 kind:Int
 text:List UInt8
 n:Int
 at_:Int
 end_:Int
 err:Int
def errR (e:Int):LexR:=⟨0,[],0,0,0,e⟩
def namedR (kind:Int) (text:List UInt8) (at_ end_:Int):LexR:=if 100<text.length then errR 2 else ⟨kind,text,0,at_,end_,0⟩
def wordKind (c:Int):Int:=if cls c=3 then 3 else 1
def soloKind (c:Int):Int:=if c=33∨c=59 then 1 else 6
def wordR (m:List UInt8) (p:Nat):LexR:=namedR (wordKind (rawAt m p)) ((m.drop p).take (span alnum (m.drop p))) p (p+span alnum (m.drop p))
def endNext (c:Int):Bool:=decide (c<0)||(c==37||cls c==1)
def symR (m:List UInt8) (p:Nat):LexR :=
 if rawAt m p=46∧endNext (rawAt m (p+1))=true then ⟨7,[46],0,p,p+1,0⟩
 else namedR 1 ((m.drop p).take (span isSym (m.drop p))) p (p+span isSym (m.drop p))
def soloR (m:List UInt8) (p:Nat):LexR:=namedR (soloKind (rawAt m p)) ((m.drop p).take 1) p (p+1)
def natOf (base:Int) (l:List UInt8):Nat:=l.foldl (fun a b=>a * base.toNat+(digV (b.toNat:Int) base).toNat) 0
def intR (base:Int) (text:List UInt8) (p e:Int):LexR :=
 if natOf base text≤9223372036854775808 then ⟨4,[],if natOf base text=9223372036854775808 then -9223372036854775808 else natOf base text,p,e,0⟩ else errR 7
def isDig (base:Int) (c:Int):Bool:=digOk c base
def escBase (l:List UInt8):Int:=if rawAt l 1=120 then 16 else 8
def escFrom (l:List UInt8):Nat:=if rawAt l 1=120 then 2 else 1
def escLen (l:List UInt8):Nat:=span (isDig (escBase l)) (l.drop (escFrom l))
def escNum (l:List UInt8):Nat:=natOf (escBase l) ((l.drop (escFrom l)).take (escLen l))
def quotedS (l:List UInt8) (q:Int):Option (Int×Nat) :=
 if rawAt l 0<0∨rawAt l 0=10 then none
 else if rawAt l 0=q then (if rawAt l 1=q then some (q,2) else none)
 else if rawAt l 0≠92 then some (rawAt l 0,1)
 else if uneOk (rawAt l 1)=true then some (uneV (rawAt l 1),2)
 else if 0<escLen l∧escNum l≤255∧rawAt l (escFrom l+escLen l)=92 then some (escNum l,escFrom l+escLen l+1)
 else none
def numBase (m:List UInt8) (p:Nat):Int:=if rawAt m p=48 then (if rawAt m (p+1)=120 then 16 else if rawAt m (p+1)=111 then 8 else if rawAt m (p+1)=98 then 2 else 0) else 0
def numR (m l:List UInt8) (p:Nat):LexR :=
 if rawAt m p=48∧rawAt m (p+1)=39 then
  match quotedS (l.drop (p+2)) 39 with
  | none=>errR 7
  | some (c,k)=>⟨4,[],c,p,p+2+k,0⟩
 else if 0<numBase m p∧0<span (isDig (numBase m p)) (m.drop (p+2)) then
  intR (numBase m p) ((m.drop (p+2)).take (span (isDig (numBase m p)) (m.drop (p+2)))) p (p+2+span (isDig (numBase m p)) (m.drop (p+2)))
 else intR 10 ((m.drop p).take (span (isDig 10) (m.drop p))) p (p+span (isDig 10) (m.drop p))
def itemF:Nat→List UInt8→Int→Option (List UInt8×Nat)
 | 0,_,_=>none
 | f+1,l,q=>
  if rawAt l 0=q∧¬rawAt l 1=q then some ([],0)
  else if rawAt l 0=92∧rawAt l 1=10 then (itemF f (l.drop 2) q).map fun x=>(x.1,x.2+2)
  else match quotedS l q with
   | none=>none
   | some (c,k)=>(itemF f (l.drop k) q).map fun x=>(c.toNat.toUInt8::x.1,x.2+k)
def item (l:List UInt8) (q:Int):Option (List UInt8×Nat):=itemF (l.length+1) l q
def strRes (p:Nat):Option (List UInt8×Nat)→LexR
 | none=>errR 7
 | some x=>⟨5,x.1,0,p,p+1+x.2+1,0⟩
def nmRes (p:Nat):Option (List UInt8×Nat)→LexR
 | none=>errR 7
 | some x=>namedR 2 x.1 p (p+1+x.2+1)
def quoteR (m l:List UInt8) (p:Nat):LexR :=
 if rawAt m p=34 then strRes p (item (l.drop (p+1)) 34)
 else if rawAt m p=39 then nmRes p (item (l.drop (p+1)) 39)
 else errR 7
def tokR (m l:List UInt8) (p:Nat):LexR :=
 if rawAt m p=47∧rawAt m (p+1)=42 then errR 7
 else if cls (rawAt m p)=2∨cls (rawAt m p)=3 then wordR m p
 else if cls (rawAt m p)=4 then numR m l p
 else if cls (rawAt m p)=5 then symR m p
 else if cls (rawAt m p)=6 then soloR m p
 else if cls (rawAt m p)=7 then quoteR m l p
 else errR 7
structure NextR where
 r:LexR
 lay:Bool
 where_:Int
def nextR (m l:List UInt8) (a:Nat):NextR :=
 let p:=a+skipN (m.drop a)
 if p=l.length then ⟨errR 14,false,p⟩
 else if (tokR m l p).err=0 then ⟨tokR m l p,decide (a<p),0⟩
 else ⟨errR (tokR m l p).err,false,p⟩
def dgt (c:Int):Int:=if 48≤c∧c≤57 then c-48 else if 97≤c∧c≤122 then c-97+10 else if 65≤c∧c≤90 then c-65+10 else 36
theorem dgt_lo (c:Int):0≤dgt c:=by unfold dgt;grind
theorem dgt_hi (c:Int):dgt c≤36:=by unfold dgt;grind
theorem dig_dgt (c base:Int) (h1:2≤base) (h2:base≤36):dig c base=if dgt c<base then some (dgt c) else none:=by
 unfold dig dgt;grind
theorem digOk_dgt (c base:Int) (h1:2≤base) (h2:base≤36):digOk c base=decide (dgt c<base):=by
 unfold digOk;rw [dig_dgt c base h1 h2];grind
theorem digV_dgt (c base:Int) (h1:2≤base) (h2:base≤36) (h:dgt c<base):digV c base=dgt c:=by
 unfold digV;rw [dig_dgt c base h1 h2,if_pos h];rfl
theorem natOf_snoc (base:Int) (l:List UInt8) (b:UInt8):natOf base (l++[b])=natOf base l * base.toNat+(digV (b.toNat:Int) base).toNat:=by
 unfold natOf;rw [List.foldl_append];rfl
theorem natOf_take (base:Int) (l:List UInt8) (k:Nat) (h:k<l.length):natOf base (l.take (k+1))=natOf base (l.take k) * base.toNat+(digV (bAt l k) base).toNat:=by
 rw [List.take_succ_eq_append_getElem h,natOf_snoc,bAt_get _ _ h]
theorem natOf_foldl_mono (base:Int) (h:1≤base):∀(l:List UInt8) (a:Nat),a≤l.foldl (fun a b=>a * base.toNat+(digV (b.toNat:Int) base).toNat) a
 | [],a=>Nat.le_refl _
 | b::l,a=>by
  have:=natOf_foldl_mono base h l (a * base.toNat+(digV (b.toNat:Int) base).toNat)
  have h1:1≤base.toNat:=by omega
  have h2:a≤a * base.toNat:=Nat.le_mul_of_pos_right a h1
  rw [List.foldl_cons];omega
theorem natOf_mono (base:Int) (h:1≤base) (l:List UInt8) (k:Nat):natOf base (l.take k)≤natOf base l:=by
 have e:natOf base l=(l.drop k).foldl (fun a b=>a * base.toNat+(digV (b.toNat:Int) base).toNat) (natOf base (l.take k)):=by
  unfold natOf
  rw [←List.foldl_append,List.take_append_drop]
 rw [e];exact natOf_foldl_mono base h _ _
theorem tdiv_lt (n a b:Int) (hb:0<b) (ha:a≤0):n<a.tdiv b↔n * b<a:=by
 obtain ⟨m,rfl⟩:∃m,a=-m:=⟨-a,by omega⟩
 rw [Int.neg_tdiv,Int.tdiv_eq_ediv_of_nonneg (by omega)]
 constructor
 ·intro h
  have h1:m / b < -n:=by omega
  have h2:=(Int.ediv_lt_iff_lt_mul hb).1 h1
  rw [Int.neg_mul] at h2;omega
 ·intro h
  have h1:m < -n * b:=by rw [Int.neg_mul];omega
  have h2:=(Int.ediv_lt_iff_lt_mul hb).2 h1
  omega
theorem parse_step (a d b:Int) (hb:0<b) (hd0:0≤d) (hd1:d≤36):-a<(-9223372036854775808+d).tdiv b↔9223372036854775808<a * b+d:=by
 rw [tdiv_lt _ _ _ hb (by omega),Int.neg_mul];omega
theorem span_rest (q:Int→Bool):∀(l:List UInt8) (j:Nat),j<span q l→q (rawAt l j)=true∧j<l.length
 | [],j,h=>by simp [span] at h
 | b::l,j,h=>by
  rw [span] at h
  split at h
  ·rename_i hb
   match j with
   | 0=>rw [rawAt_cons];exact ⟨hb,by simp⟩
   | j+1=>
    have:=span_rest q l j (by omega)
    rw [rawAt_succ];exact ⟨this.1,by simp;exact this.2⟩
  ·omega
theorem span_stop (q:Int→Bool) (h:q (-1)=false):∀(l:List UInt8),q (rawAt l (span q l))=false
 | []=>by rw [rawAt_out _ _ (by simp)];exact h
 | b::l=>by
  rw [span]
  split
  ·rw [rawAt_succ];exact span_stop q h l
  ·rename_i hb
   rw [rawAt_cons];simpa using hb
theorem isDig_end (base:Int):isDig base (-1)=false:=by
 unfold isDig digOk dig
 split
 ·rfl
 ·rename_i h
  rw [if_neg]
  ·rfl
  ·simp;omega
theorem natOf_step (base:Int) (h0:2≤base) (h1:base≤36) (l:List UInt8) (j:Nat) (hj:j<span (isDig base) l):(natOf base (l.take (j+1)):Int)=natOf base (l.take j) * base+digV (rawAt l j) base∧0≤digV (rawAt l j) base∧digV (rawAt l j) base≤36:=by
 obtain ⟨hq,hl⟩:=span_rest _ _ _ hj
 rw [rawAt_in _ _ hl] at hq ⊢
 unfold isDig at hq
 rw [digOk_dgt _ _ h0 h1] at hq
 have hd:dgt (bAt l j)<base:=by simpa using hq
 have:=dgt_lo (bAt l j)
 have:=dgt_hi (bAt l j)
 rw [natOf_take _ _ _ hl,digV_dgt _ _ h0 h1 hd]
 refine ⟨?_,by omega,by omega⟩
 push_cast
 rw [Int.toNat_of_nonneg (by omega),Int.toNat_of_nonneg (by omega)]
theorem esc_none1 (l:List UInt8) (q:Int) (h:rawAt l 0=92) (hq:¬rawAt l 0=q) (hu:uneOk (rawAt l 1)=false) (hx:¬(0<escLen l∧escNum l≤255∧rawAt l (escFrom l+escLen l)=92)):quotedS l q=none:=by
 unfold quotedS;rw [if_neg (by omega),if_neg hq,if_neg (fun hh=>hh h),hu,if_neg (by simp),if_neg hx]
theorem esc_some1 (l:List UInt8) (q:Int) (h:rawAt l 0=92) (hq:¬rawAt l 0=q) (hu:uneOk (rawAt l 1)=false) (hx:0<escLen l∧escNum l≤255∧rawAt l (escFrom l+escLen l)=92):quotedS l q=some ((escNum l:Int),escFrom l+escLen l+1):=by
 unfold quotedS;rw [if_neg (by omega),if_neg hq,if_neg (fun hh=>hh h),hu,if_neg (by simp),if_pos hx]
theorem une_bd (c:Int) (h:uneOk c=true):0≤uneV c∧uneV c≤255∧0≤c∧c≤255:=by
 unfold uneOk uneV une at *
 grind (splits:=30)
theorem quotedS_ok (l:List UInt8) (q c:Int) (k:Nat) (hq:0≤q∧q≤255) (h:quotedS l q=some (c,k)):1≤k∧k≤l.length∧0≤c∧c≤255:=by
 unfold quotedS at h
 have n0:=rawAt_neg l 0
 have n1:=rawAt_neg l 1
 by_cases h1:rawAt l 0<0∨rawAt l 0=10
 ·rw [if_pos h1] at h;cases h
 rw [if_neg h1] at h
 by_cases h2:rawAt l 0=q
 ·rw [if_pos h2] at h
  by_cases h3:rawAt l 1=q
  ·rw [if_pos h3] at h;injection h with h;injection h with e1 e2;subst e1;subst e2;omega
  ·rw [if_neg h3] at h;cases h
 rw [if_neg h2] at h
 by_cases h3:rawAt l 0≠92
 ·rw [if_pos h3] at h;injection h with h;injection h with e1 e2;subst e1;subst e2
  have:=rawAt_hi l 0
  omega
 rw [if_neg h3] at h
 by_cases h4:uneOk (rawAt l 1)=true
 ·rw [if_pos h4] at h;injection h with h;injection h with e1 e2;subst e1;subst e2
  have:=une_bd _ h4
  omega
 rw [if_neg h4] at h
 by_cases h5:0<escLen l∧escNum l≤255∧rawAt l (escFrom l+escLen l)=92
 ·rw [if_pos h5] at h;injection h with h;injection h with e1 e2;subst e1;subst e2
  have n2:=rawAt_neg l (escFrom l+escLen l)
  omega
 ·rw [if_neg h5] at h;cases h
theorem itemF_fuel (q:Int) (hq:0≤q∧q≤255):∀(f g:Nat) (l:List UInt8),l.length<f→l.length<g→itemF f l q=itemF g l q
 | 0,_,_,h,_=>absurd h (by omega)
 | _+1,0,_,_,h=>absurd h (by omega)
 | f+1,g+1,l,h1,h2=>by
  unfold itemF
  have n0:=rawAt_neg l 0
  by_cases a1:rawAt l 0=q∧¬rawAt l 1=q
  ·rw [if_pos a1,if_pos a1]
  rw [if_neg a1,if_neg a1]
  by_cases a2:rawAt l 0=92∧rawAt l 1=10
  ·have n1:=rawAt_neg l 1
   rw [if_pos a2,if_pos a2,itemF_fuel q hq f g (l.drop 2) (by simp;omega) (by simp;omega)]
  rw [if_neg a2,if_neg a2]
  cases hs:quotedS l q with
  | none=>rfl
  | some ck=>
   obtain ⟨c,k⟩:=ck
   have:=quotedS_ok l q c k hq hs
   simp only []
   rw [itemF_fuel q hq f g (l.drop k) (by simp;omega) (by simp;omega)]
theorem item_eq (l:List UInt8) (q:Int) (hq:0≤q∧q≤255):item l q =
  if rawAt l 0=q∧¬rawAt l 1=q then some ([],0)
  else if rawAt l 0=92∧rawAt l 1=10 then (item (l.drop 2) q).map fun x=>(x.1,x.2+2)
  else match quotedS l q with
   | none=>none
   | some (c,k)=>(item (l.drop k) q).map fun x=>(c.toNat.toUInt8::x.1,x.2+k):=by
 have n0:=rawAt_neg l 0
 unfold item
 rw [itemF]
 by_cases a1:rawAt l 0=q∧¬rawAt l 1=q
 ·rw [if_pos a1,if_pos a1]
 rw [if_neg a1,if_neg a1]
 by_cases a2:rawAt l 0=92∧rawAt l 1=10
 ·have n1:=rawAt_neg l 1
  rw [if_pos a2,if_pos a2,itemF_fuel q hq l.length ((l.drop 2).length+1) (l.drop 2) (by simp;omega) (by omega)]
 rw [if_neg a2,if_neg a2]
 cases hs:quotedS l q with
 | none=>rfl
 | some ck=>
  obtain ⟨c,k⟩:=ck
  have:=quotedS_ok l q c k hq hs
  simp only []
  rw [itemF_fuel q hq l.length ((l.drop k).length+1) (l.drop k) (by simp;omega) (by omega)]
def itemAt (l:List UInt8) (q:Int) (acc:List UInt8) (j:Nat):Option (List UInt8×Nat):=(item (l.drop j) q).map fun x=>(acc++x.1,j+x.2)
theorem itemAt_end (l:List UInt8) (q:Int) (hq:0≤q∧q≤255) (acc:List UInt8) (j:Nat) (h1:rawAt l j=q) (h2:¬rawAt l (j+1)=q):itemAt l q acc j=some (acc,j):=by
 unfold itemAt;rw [item_eq _ _ hq,rawAt_drop,rawAt_drop,Nat.add_zero,if_pos ⟨h1,h2⟩];simp
theorem itemAt_cont (l:List UInt8) (q:Int) (hq:0≤q∧q≤255) (acc:List UInt8) (j:Nat) (h0:¬(rawAt l j=q∧¬rawAt l (j+1)=q)) (h1:rawAt l j=92) (h2:rawAt l (j+1)=10):itemAt l q acc j=itemAt l q acc (j+2):=by
 unfold itemAt;rw [item_eq _ _ hq,rawAt_drop,rawAt_drop,Nat.add_zero,if_neg h0,if_pos ⟨h1,h2⟩,List.drop_drop,Option.map_map]
 congr 1;funext x;simp;omega
theorem itemAt_none (l:List UInt8) (q:Int) (hq:0≤q∧q≤255) (acc:List UInt8) (j:Nat) (h0:¬(rawAt l j=q∧¬rawAt l (j+1)=q)) (h1:¬(rawAt l j=92∧rawAt l (j+1)=10)) (h2:quotedS (l.drop j) q=none):itemAt l q acc j=none:=by
 unfold itemAt;rw [item_eq _ _ hq,rawAt_drop,rawAt_drop,Nat.add_zero,if_neg h0,if_neg h1,h2];rfl
theorem itemAt_some (l:List UInt8) (q:Int) (hq:0≤q∧q≤255) (acc:List UInt8) (j k:Nat) (c:Int) (h0:¬(rawAt l j=q∧¬rawAt l (j+1)=q)) (h1:¬(rawAt l j=92∧rawAt l (j+1)=10)) (h2:quotedS (l.drop j) q=some (c,k)):itemAt l q acc j=itemAt l q (acc++[c.toNat.toUInt8]) (j+k):=by
 unfold itemAt;rw [item_eq _ _ hq,rawAt_drop,rawAt_drop,Nat.add_zero,if_neg h0,if_neg h1,h2]
 simp only []
 rw [List.drop_drop,Option.map_map]
 congr 1;funext x;simp;omega
theorem item_len (q:Int) (hq:0≤q∧q≤255):∀(f:Nat) (l:List UInt8) (t:List UInt8) (k:Nat),itemF f l q=some (t,k)→k+1≤l.length
 | 0,_,_,_,h=>by cases h
 | f+1,l,t,k,h=>by
  unfold itemF at h
  have n0:=rawAt_neg l 0
  by_cases a1:rawAt l 0=q∧¬rawAt l 1=q
  ·rw [if_pos a1] at h;injection h with h;injection h with e1 e2;subst e2;omega
  rw [if_neg a1] at h
  by_cases a2:rawAt l 0=92∧rawAt l 1=10
  ·have n1:=rawAt_neg l 1
   rw [if_pos a2] at h
   cases hi:itemF f (l.drop 2) q with
   | none=>rw [hi] at h;cases h
   | some x=>
    obtain ⟨t',k'⟩:=x
    have:=item_len q hq f (l.drop 2) t' k' hi
    rw [hi] at h;injection h with h;injection h with e1 e2;subst e2
    rw [List.length_drop] at this;simp only [];omega
  rw [if_neg a2] at h
  cases hs:quotedS l q with
  | none=>rw [hs] at h;cases h
  | some ck=>
   obtain ⟨c,j⟩:=ck
   have hok:=quotedS_ok l q c j hq hs
   rw [hs] at h
   simp only [] at h
   cases hi:itemF f (l.drop j) q with
   | none=>rw [hi] at h;cases h
   | some x=>
    obtain ⟨t',k'⟩:=x
    have:=item_len q hq f (l.drop j) t' k' hi
    rw [hi] at h;injection h with h;injection h with e1 e2;subst e2
    rw [List.length_drop] at this;simp only [];omega
theorem named_end (kind:Int) (t:List UInt8) (a e:Int) (h:(namedR kind t a e).err=0):(namedR kind t a e).at_=a∧(namedR kind t a e).end_=e∧(namedR kind t a e).kind=kind∧(namedR kind t a e).text=t:=by
 unfold namedR at *
 by_cases hk:100<t.length
 ·rw [if_pos hk] at h;exact absurd h (by decide)
 ·rw [if_neg hk];exact ⟨rfl,rfl,rfl,rfl⟩
theorem int_end (base:Int) (t:List UInt8) (a e:Int) (h:(intR base t a e).err=0):(intR base t a e).at_=a∧(intR base t a e).end_=e:=by
 unfold intR at *
 by_cases hk:natOf base t≤9223372036854775808
 ·rw [if_pos hk];exact ⟨rfl,rfl⟩
 ·rw [if_neg hk] at h;exact absurd h (by decide)
theorem cls_alnum (c:Int) (h:cls c=2∨cls c=3):alnum c=true:=by unfold alnum;rcases h with h | h <;> rw [h] <;> rfl
theorem cls_digit (c:Int) (h:cls c=4):isDig 10 c=true:=by
 have hc:48≤c∧c≤57:=by unfold cls at h;grind (splits:=30)
 unfold isDig;rw [digOk_dgt _ _ (by decide) (by decide)];unfold dgt;rw [if_pos hc];simp;omega
theorem tok_end (m l:List UInt8) (hl:m.length=l.length) (p:Nat) (hp:p<l.length) (h:(tokR m l p).err=0):(tokR m l p).at_=p∧∃e:Nat,(tokR m l p).end_=e∧p<e∧e≤l.length:=by
 unfold tokR at *
 have hd:0<(m.drop p).length:=by simp;omega
 have hr:rawAt (m.drop p) 0=rawAt m p:=by rw [rawAt_drop,Nat.add_zero]
 by_cases a0:rawAt m p=47∧rawAt m (p+1)=42
 ·rw [if_pos a0] at h;exact absurd h (by decide)
 rw [if_neg a0] at *
 by_cases a1:cls (rawAt m p)=2∨cls (rawAt m p)=3
 ·rw [if_pos a1] at *
  have h1:=span_pos alnum (m.drop p) hd (by rw [hr];exact cls_alnum _ a1)
  have h2:=span_le alnum (m.drop p)
  rw [List.length_drop] at h2
  obtain ⟨e1,e2,_⟩:=named_end _ _ _ _ h
  exact ⟨e1,p+span alnum (m.drop p),by unfold wordR;rw [e2];simp,by omega,by omega⟩
 rw [if_neg a1] at *
 by_cases a2:cls (rawAt m p)=4
 ·rw [if_pos a2] at *
  unfold numR at *
  by_cases b1:rawAt m p=48∧rawAt m (p+1)=39
  ·rw [if_pos b1] at *
   cases hq:quotedS (l.drop (p+2)) 39 with
   | none=>rw [hq] at h;exact absurd h (by show ¬(7:Int)=0;decide)
   | some ck=>
    obtain ⟨c,k⟩:=ck
    have hok:=quotedS_ok _ _ _ _ (by decide) hq
    rw [List.length_drop] at hok
    exact ⟨rfl,p+2+k,by simp,by omega,by omega⟩
  rw [if_neg b1] at *
  by_cases b2:0<numBase m p∧0<span (isDig (numBase m p)) (m.drop (p+2))
  ·rw [if_pos b2] at *
   have h2:=span_le (isDig (numBase m p)) (m.drop (p+2))
   rw [List.length_drop] at h2
   obtain ⟨e1,e2⟩:=int_end _ _ _ _ h
   exact ⟨e1,p+2+span (isDig (numBase m p)) (m.drop (p+2)),by rw [e2];simp,by omega,by omega⟩
  ·rw [if_neg b2] at *
   have h1:=span_pos (isDig 10) (m.drop p) hd (by rw [hr];exact cls_digit _ a2)
   have h2:=span_le (isDig 10) (m.drop p)
   rw [List.length_drop] at h2
   obtain ⟨e1,e2⟩:=int_end _ _ _ _ h
   exact ⟨e1,p+span (isDig 10) (m.drop p),by rw [e2];simp,by omega,by omega⟩
 rw [if_neg a2] at *
 by_cases a3:cls (rawAt m p)=5
 ·rw [if_pos a3] at *
  unfold symR at *
  by_cases b1:rawAt m p=46∧endNext (rawAt m (p+1))=true
  ·rw [if_pos b1];exact ⟨rfl,p+1,by simp,by omega,by omega⟩
  ·rw [if_neg b1] at *
   have h1:=span_pos isSym (m.drop p) hd (by rw [hr];unfold isSym;rw [a3];rfl)
   have h2:=span_le isSym (m.drop p)
   rw [List.length_drop] at h2
   obtain ⟨e1,e2,_⟩:=named_end _ _ _ _ h
   exact ⟨e1,p+span isSym (m.drop p),by rw [e2];simp,by omega,by omega⟩
 rw [if_neg a3] at *
 by_cases a4:cls (rawAt m p)=6
 ·rw [if_pos a4] at *
  obtain ⟨e1,e2,_⟩:=named_end _ _ _ _ h
  exact ⟨e1,p+1,by unfold soloR;rw [e2];simp,by omega,by omega⟩
 rw [if_neg a4] at *
 by_cases a5:cls (rawAt m p)=7
 ·rw [if_pos a5] at *
  unfold quoteR at *
  by_cases b1:rawAt m p=34
  ·rw [if_pos b1] at *
   cases hi:item (l.drop (p+1)) 34 with
   | none=>rw [hi] at h;exact absurd h (by show ¬(7:Int)=0;decide)
   | some x=>
    obtain ⟨t,k⟩:=x
    have:=item_len 34 (by decide) _ _ _ _ hi
    rw [List.length_drop] at this
    exact ⟨rfl,p+1+k+1,by simp [strRes],by omega,by omega⟩
  rw [if_neg b1] at *
  by_cases b2:rawAt m p=39
  ·rw [if_pos b2] at *
   cases hi:item (l.drop (p+1)) 39 with
   | none=>rw [hi] at h;exact absurd h (by show ¬(7:Int)=0;decide)
   | some x=>
    obtain ⟨t,k⟩:=x
    have:=item_len 39 (by decide) _ _ _ _ hi
    rw [List.length_drop] at this
    rw [hi] at h
    obtain ⟨e1,e2,_⟩:=named_end _ _ _ _ h
    exact ⟨e1,p+1+k+1,by unfold nmRes;rw [e2];simp,by omega,by omega⟩
  ·rw [if_neg b2] at h;exact absurd h (by decide)
 ·rw [if_neg a5] at h;exact absurd h (by decide)
theorem named_not14 (kind:Int) (t:List UInt8) (a e:Int):¬(namedR kind t a e).err=14:=by
 unfold namedR;split
 ·show ¬(2:Int)=14;decide
 ·show ¬(0:Int)=14;decide
theorem int_not14 (base:Int) (t:List UInt8) (a e:Int):¬(intR base t a e).err=14:=by
 unfold intR;split
 ·show ¬(0:Int)=14;decide
 ·show ¬(7:Int)=14;decide
theorem tok_not14 (m l:List UInt8) (p:Nat):¬(tokR m l p).err=14:=by
 unfold tokR
 split
 ·show ¬(7:Int)=14;decide
 split
 ·exact named_not14 _ _ _ _
 split
 ·unfold numR
  split
  ·cases quotedS (l.drop (p+2)) 39 with
   | none=>show ¬(7:Int)=14;decide
   | some ck=>show ¬(0:Int)=14;decide
  split
  ·exact int_not14 _ _ _ _
  ·exact int_not14 _ _ _ _
 split
 ·unfold symR
  split
  ·show ¬(0:Int)=14;decide
  ·exact named_not14 _ _ _ _
 split
 ·exact named_not14 _ _ _ _
 split
 ·unfold quoteR
  split
  ·cases item (l.drop (p+1)) 34 with
   | none=>show ¬(7:Int)=14;decide
   | some x=>show ¬(0:Int)=14;decide
  split
  ·cases item (l.drop (p+1)) 39 with
   | none=>show ¬(7:Int)=14;decide
   | some x=>exact named_not14 _ _ _ _
  ·show ¬(7:Int)=14;decide
 ·show ¬(7:Int)=14;decide
theorem next_end (m l:List UInt8) (hl:m.length=l.length) (a:Nat) (ha:a≤l.length) (h:(nextR m l a).r.err=0) :
  ∃p e:Nat,(nextR m l a).r.at_=p∧a≤p∧(nextR m l a).r.end_=e∧p<e∧e≤l.length∧(nextR m l a).lay=decide (a<p)∧(nextR m l a).where_=0:=by
 unfold nextR at *
 have hs:=skipN_le (m.drop a)
 rw [List.length_drop] at hs
 by_cases e1:a+skipN (m.drop a)=l.length
 ·simp only [if_pos e1] at h;exact absurd h (by decide)
 simp only [if_neg e1] at *
 by_cases e2:(tokR m l (a+skipN (m.drop a))).err=0
 ·simp only [if_pos e2] at *
  obtain ⟨e3,e,e4,e5,e6⟩:=tok_end m l hl (a+skipN (m.drop a)) (by omega) h
  exact ⟨_,e,e3,by omega,e4,e5,e6,rfl,by first | trivial | rfl⟩
 ·simp only [if_neg e2] at h
  exact absurd h e2
theorem next_where (m l:List UInt8) (hl:m.length=l.length) (a:Nat) (ha:a≤l.length) (h:¬(nextR m l a).r.err=0) :
  ∃p:Nat,(nextR m l a).where_=p∧a≤p∧p≤l.length∧((nextR m l a).r.err=14→p=l.length)∧(¬(nextR m l a).r.err=14→p<l.length)∧nextR m l a=⟨errR (nextR m l a).r.err,false,p⟩:=by
 unfold nextR at *
 have hs:=skipN_le (m.drop a)
 rw [List.length_drop] at hs
 by_cases e1:a+skipN (m.drop a)=l.length
 ·simp only [if_pos e1] at *
  exact ⟨_,rfl,by omega,by omega,fun _=>e1,fun h=>absurd rfl h,rfl⟩
 simp only [if_neg e1] at *
 by_cases e2:(tokR m l (a+skipN (m.drop a))).err=0
 ·simp only [if_pos e2] at h;exact absurd e2 h
 ·simp only [if_neg e2] at *
  refine ⟨_,rfl,by omega,by omega,fun h=>?_,fun _=>by omega,rfl⟩
  exact absurd h (tok_not14 _ _ _)
def every (q:Int→Bool) (s:List UInt8):Bool:=s.all fun b=>q (b.toNat:Int)
theorem tl_loop (s:ByteArray):∀(d i:Nat) (r:List UInt8),s.size-i=d→ByteArray.toList.loop s i r=r.reverse++s.data.toList.drop i
 | 0,i,r,h=>by
  unfold ByteArray.toList.loop
  rw [if_neg (by omega),List.drop_of_length_le (by simp;omega)];simp
 | d+1,i,r,h=>by
  have hi:i<s.size:=by omega
  have hi':i<s.data.toList.length:=by simpa using hi
  unfold ByteArray.toList.loop
  rw [if_pos hi,tl_loop s d (i+1) _ (by omega),List.drop_eq_getElem_cons hi']
  simp [ByteArray.get!,hi]
  first | rfl | (have:s.data[i]! = s.data[i]:=getElem!_pos s.data i hi;simp [this]) | skip
theorem tl_data (s:ByteArray):s.toList=s.data.toList:=by
 unfold ByteArray.toList
 rw [tl_loop s _ 0 [] rfl];simp
end Hb
namespace Hb
open Go Go.RowKit
def tm0:Tm:=.mk 0 0 ⟨#[]⟩ []
def Tm.arg (t:Tm) (j:Nat):Tm:=t.args.getD j tm0
theorem Tm.arg_get (t:Tm) (j:Nat) (h:j<t.args.length):t.arg j=t.args[j]:=by
 unfold Tm.arg;rw [List.getD_eq_getElem?_getD,List.getElem?_eq_getElem h];rfl
def Tm.isNm (t:Tm) (l:List UInt8):Bool:=t.name.toList==l
def s1 (c:UInt8):ByteArray:=⟨#[c]⟩
def Tm.cons (t:Tm):Bool:=t.kind==3&&(t.isNm [46]&&t.args.length==2)
theorem Tm.nodes_arg (t:Tm) (j:Nat) (h:j<t.args.length):(t.arg j).nodes<t.nodes:=by
 rw [Tm.arg_get t j h,Tm.nodes_eq t]
 have:∀(l:List Tm) (a:Tm),a∈l→a.nodes≤(l.map Tm.nodes).sum:=by
  intro l
  induction l with
  | nil=>intro a ha;cases ha
  | cons b l ih=>
   intro a ha
   rw [List.map_cons,List.sum_cons]
   rcases List.mem_cons.1 ha with rfl | ha
   ·omega
   ·have:=ih a ha;omega
 have:=this t.args _ (List.getElem_mem h)
 omega
theorem Tm.cons_len {t:Tm} (h:t.cons=true):t.args.length=2:=by
 unfold Tm.cons at h
 simp at h
 exact h.2.2
def elemsF:Nat→Tm→List Tm
 | 0,_=>[]
 | f+1,t=>if t.cons=true then t.arg 0::elemsF f (t.arg 1) else []
def tailF:Nat→Tm→Tm
 | 0,t=>t
 | f+1,t=>if t.cons=true then tailF f (t.arg 1) else t
theorem elemsF_irr:∀(f g:Nat) (t:Tm),t.nodes≤f→t.nodes≤g→elemsF f t=elemsF g t
 | 0,_,t,h,_=>absurd h (by have:=t.nodes_pos;omega)
 | _,0,t,_,h=>absurd h (by have:=t.nodes_pos;omega)
 | f+1,g+1,t,h,k=>by
  show (if t.cons=true then t.arg 0::elemsF f (t.arg 1) else [])=(if t.cons=true then t.arg 0::elemsF g (t.arg 1) else [])
  split
  ·rename_i hc
   have:=t.nodes_arg 1 (by rw [Tm.cons_len hc];decide)
   rw [elemsF_irr f g (t.arg 1) (by omega) (by omega)]
  ·rfl
theorem tailF_irr:∀(f g:Nat) (t:Tm),t.nodes≤f→t.nodes≤g→tailF f t=tailF g t
 | 0,_,t,h,_=>absurd h (by have:=t.nodes_pos;omega)
 | _,0,t,_,h=>absurd h (by have:=t.nodes_pos;omega)
 | f+1,g+1,t,h,k=>by
  show (if t.cons=true then tailF f (t.arg 1) else t)=(if t.cons=true then tailF g (t.arg 1) else t)
  split
  ·rename_i hc
   have:=t.nodes_arg 1 (by rw [Tm.cons_len hc];decide)
   rw [tailF_irr f g (t.arg 1) (by omega) (by omega)]
  ·rfl
def elemsT (t:Tm):List Tm:=elemsF t.nodes t
def tailT (t:Tm):Tm:=tailF t.nodes t
theorem elemsT_cons {t:Tm} (h:t.cons=true):elemsT t=t.arg 0::elemsT (t.arg 1):=by
 have h1:=t.nodes_arg 1 (by rw [Tm.cons_len h];decide)
 unfold elemsT
 obtain ⟨f,hf⟩:∃f,t.nodes=f+1:=⟨t.nodes-1,by have:=t.nodes_pos;omega⟩
 rw [hf]
 show (if t.cons=true then t.arg 0::elemsF f (t.arg 1) else [])=_
 rw [if_pos h,elemsF_irr f (t.arg 1).nodes (t.arg 1) (by omega) (Nat.le_refl _)]
theorem elemsT_end {t:Tm} (h:t.cons=false):elemsT t=[]:=by
 unfold elemsT
 obtain ⟨f,hf⟩:∃f,t.nodes=f+1:=⟨t.nodes-1,by have:=t.nodes_pos;omega⟩
 rw [hf]
 show (if t.cons=true then t.arg 0::elemsF f (t.arg 1) else [])=_
 rw [if_neg (by simp [h])]
theorem tailT_cons {t:Tm} (h:t.cons=true):tailT t=tailT (t.arg 1):=by
 have h1:=t.nodes_arg 1 (by rw [Tm.cons_len h];decide)
 unfold tailT
 obtain ⟨f,hf⟩:∃f,t.nodes=f+1:=⟨t.nodes-1,by have:=t.nodes_pos;omega⟩
 rw [hf]
 show (if t.cons=true then tailF f (t.arg 1) else t)=_
 rw [if_pos h,tailF_irr f (t.arg 1).nodes (t.arg 1) (by omega) (Nat.le_refl _)]
theorem tailT_end {t:Tm} (h:t.cons=false):tailT t=t:=by
 unfold tailT
 obtain ⟨f,hf⟩:∃f,t.nodes=f+1:=⟨t.nodes-1,by have:=t.nodes_pos;omega⟩
 rw [hf]
 show (if t.cons=true then tailF f (t.arg 1) else t)=_
 rw [if_neg (by simp [h])]
def has (T:List OpR) (s:ByteArray) (c:Int):Bool:=(findR T s c).isSome
def hd (l:List ByteArray):ByteArray:=l.headD ⟨#[]⟩
theorem own_below {w w':World} {base e size:Nat} {v:Value} {n:Nat} {xs:List Value} (h:w.ownsRow base e size v n xs) (hB:Below w.heap.size w w'):w'.ownsRow base e size v n xs:=by
 refine ⟨h.1,?_⟩
 rcases h.2 with hn | ⟨g,cap,cur,hv,hbg,hh,rest⟩
 ·exact .inl hn
 ·exact .inr ⟨g,cap,cur,hv,hbg,(hB.block g (by rw [Array.getElem?_eq_some_iff] at hh;exact hh.1)).trans hh,rest⟩
theorem own_empty (w:World) (base e size:Nat) (hb:base≤w.heap.size):(w.alloc (.cells #[] e)).ownsRow base e size (.slice (some ⟨w.heap.size,0,none⟩) 0 0) 0 [] :=
 ⟨by simp,.inr ⟨w.heap.size,0,#[],rfl,hb,by show (w.heap.push _)[w.heap.size]? = _;simp,Nat.le_refl _,Nat.zero_le _,by simp,by simp⟩⟩
theorem own_slice {w:World} {base e size:Nat} {v:Value} {n:Nat} {xs:List Value} (h:w.ownsRow base e size v n xs):∃A cap,v=.slice A n cap:=by
 rcases h.2 with ⟨rfl,rfl⟩ | ⟨g,cap,cur,rfl,_⟩
 ·exact ⟨_,_,rfl⟩
 ·exact ⟨_,_,rfl⟩
def StrsAt (w:World) (A:Option Addr) (l:List ByteArray):Prop :=
 ∀j (h:j<l.length),∃b off,A=some ⟨b,off,none⟩∧b<w.heap.size∧w.cell? ⟨b,off+j,none⟩=some (.string l[j])
theorem StrsAt.below {w w':World} {A:Option Addr} {l:List ByteArray} (h:StrsAt w A l) (hb:Below w.heap.size w w'):StrsAt w' A l:=fun j hj=>by
 obtain ⟨b,off,e,hlt,c1⟩:=h j hj
 exact ⟨b,off,e,Nat.lt_of_lt_of_le hlt hb.size,(hb.cell (p:=⟨b,_,none⟩) hlt).trans c1⟩
theorem addr_add (b off j:Nat):(⟨b,off,none⟩:Addr).add j=⟨b,off+j,none⟩:=by unfold Addr.add;split <;> simp_all
abbrev TR:=Tm×Option Addr×Nat
def rowC (r:TR):List Value:=[.int .i64 r.1.kind,.int .i64 r.1.num,.string r.1.name,.slice r.2.1 r.1.args.length r.2.2]
def rowsC (rs:List TR):List Value:=rs.flatMap rowC
theorem rowsC_len (rs:List TR):(rowsC rs).length=rs.length * 4:=by
 unfold rowsC;induction rs with
 | nil=>rfl
 | cons p l ih=>rw [List.flatMap_cons,List.length_append,ih];simp [rowC];omega
theorem rowsC_app (a b:List TR):rowsC (a++b)=rowsC a++rowsC b:=by unfold rowsC;rw [List.flatMap_append]
theorem rowsC_get:∀(rs:List TR) (i:Nat) (h:i<rs.length),(rowsC rs)[i * 4]? = some (.int .i64 rs[i].1.kind)∧(rowsC rs)[i * 4+1]? = some (.int .i64 rs[i].1.num)∧(rowsC rs)[i * 4+2]? = some (.string rs[i].1.name)∧(rowsC rs)[i * 4+3]? = some (.slice rs[i].2.1 rs[i].1.args.length rs[i].2.2)
 | p::l,0,_=>⟨rfl,rfl,rfl,rfl⟩
 | p::l,i+1,h=>by
  have:=rowsC_get l i (by simpa using h)
  have e:rowsC (p::l)=.int .i64 p.1.kind::.int .i64 p.1.num::.string p.1.name::.slice p.2.1 p.1.args.length p.2.2::rowsC l:=rfl
  rw [e,show (i+1) * 4=i * 4+4 by omega]
  exact ⟨by simpa using this.1,by simpa using this.2.1,by simpa using this.2.2.1,by simpa using this.2.2.2⟩
theorem rowC_one (r:TR):∀u∈rowC r,u.oneCell'=true:=by
 intro u hu
 simp [rowC] at hu
 rcases hu with rfl | rfl | rfl | rfl <;> rfl
structure OwnR (lo:Nat) (e:TypeId) (w:World) (v:Value) (rs:List TR):Prop where
 own:w.ownsRow lo e 4 v rs.length (rowsC rs)
 sub:∀r∈rs,TmsK (fun b=>lo≤b∧b<w.heap.size∧v.ownBlock≠some b) w r.2.1 r.1.args
theorem OwnR.nul (lo:Nat) (e:TypeId) (w:World):OwnR lo e w (.slice none 0 0) []:=⟨World.ownsRow_nil _ _ _ _,fun r hr=>absurd hr (by simp)⟩
theorem OwnR.keep {lo:Nat} {e:TypeId} {w w':World} {v:Value} {rs:List TR} (h:OwnR lo e w v rs) (hs:w.heap.size≤w'.heap.size) (hb:∀b,lo≤b→b<w.heap.size→w'.heap[b]? = w.heap[b]?):OwnR lo e w' v rs where
 own:=by
  refine ⟨h.own.1,?_⟩
  rcases h.own.2 with hn | ⟨g,cap,cur,hv,hg,hh,rest⟩
  ·exact .inl hn
  ·exact .inr ⟨g,cap,cur,hv,hg,by rw [hb g hg (Array.getElem?_eq_some_iff.1 hh).1];exact hh,rest⟩
 sub:=fun r hr=>(h.sub r hr).keep (fun b hk=>hb b hk.1 hk.2.1) (fun b hk=>⟨hk.1,Nat.lt_of_lt_of_le hk.2.1 hs,hk.2.2⟩)
theorem OwnR.below {lo:Nat} {e:TypeId} {w w':World} {v:Value} {rs:List TR} (h:OwnR lo e w v rs) (hB:Below w.heap.size w w'):OwnR lo e w' v rs:=h.keep hB.size fun b _ hb=>hB.block b hb
theorem OwnR.snoc {lo:Nat} {e:TypeId} {W w2:World} {v v':Value} {rs:List TR} (h:OwnR lo e W v rs) (r:TR) (hr:TmsK (fun b=>lo≤b∧b<W.heap.size∧v.ownBlock≠some b) W r.2.1 r.1.args)
  (hown:w2.ownsRow lo e 4 v' (rs.length+1) (rowsC rs++rowC r)) (hg:W.grownBy w2 v.ownBlock) (hat:v'.ownBlock=v.ownBlock∨v'.ownBlock=some W.heap.size):OwnR lo e w2 v' (rs++[r]) where
 own:=by
  rw [rowsC_app,List.length_append]
  have e1:rowsC [r]=rowC r:=by unfold rowsC;simp
  rw [e1];exact hown
 sub:=by
  have key:∀{A:Option Addr} {l:List Tm},TmsK (fun b=>lo≤b∧b<W.heap.size∧v.ownBlock≠some b) W A l→TmsK (fun b=>lo≤b∧b<w2.heap.size∧v'.ownBlock≠some b) w2 A l:=fun hk=>by
   refine hk.keep (fun b hb=>hg.block b hb.2.1 (fun e=>hb.2.2 e.symm)) (fun b hb=>⟨hb.1,Nat.lt_of_lt_of_le hb.2.1 hg.size,fun e=>?_⟩)
   rcases hat with h' | h'
   ·rw [h'] at e;exact hb.2.2 e
   ·rw [h'] at e;injection e with e;have:=hb.2.1;omega
  intro x hx
  rcases List.mem_append.1 hx with hx | hx
  ·exact key (h.sub x hx)
  ·rw [List.mem_singleton] at hx;subst hx;exact key hr
theorem OwnR.tms {lo:Nat} {e:TypeId} {w:World} {v:Value} {rs:List TR} (h:OwnR lo e w v rs):∃A cap,v=.slice A rs.length cap∧TmsK (fun b=>lo≤b∧b<w.heap.size) w A (rs.map (·.1)):=by
 have hsub:∀j (hj:j<rs.length),TmsK (fun b=>lo≤b∧b<w.heap.size) w rs[j].2.1 rs[j].1.args:=fun j hj=>(h.sub _ (List.getElem_mem hj)).keep (fun _ _=>rfl) (fun b hb=>⟨hb.1,hb.2.1⟩)
 rcases h.own.2 with ⟨hv,h0⟩ | ⟨g,cap,cur,hv,hg,hh,hn,hm,rest⟩
 ·have:rs=[]:=List.eq_nil_of_length_eq_zero h0
  subst this
  exact ⟨_,_,hv,TmsK.nil⟩
 ·refine ⟨some ⟨g,0,none⟩,cap,hv,.mk _ _ (fun j=>(rs.getD j (tm0,none,0)).2.1) (fun j=>(rs.getD j (tm0,none,0)).2.2) (by rw [List.length_map];omega) (fun j hj=>?_) (fun j hj=>?_)⟩
  ·rw [List.length_map] at hj
   obtain ⟨p0,p1,p2,p3⟩:=rowsC_get rs j hj
   have hc:∀k u,(rowsC rs)[k]? = some u→w.cell? ⟨g,0+k,none⟩=some u:=fun k u hu=>by
    have:=h.own.cells (g:=g) (by rw [hv];rfl) k u hu
    rw [addr_add] at this
    exact this
   have e1:rs.getD j (tm0,none,0)=rs[j]:=by rw [List.getD_eq_getElem?_getD,List.getElem?_eq_getElem hj];rfl
   refine ⟨g,0,rfl,⟨hg,(Array.getElem?_eq_some_iff.1 hh).1⟩,?_,?_,?_,?_⟩
   ·rw [List.getElem_map];exact hc _ _ p0
   ·rw [List.getElem_map];exact hc _ _ p1
   ·rw [List.getElem_map];exact hc _ _ p2
   ·rw [List.getElem_map];simp only [e1];exact hc _ _ p3
  ·rw [List.length_map] at hj
   have e1:rs.getD j (tm0,none,0)=rs[j]:=by rw [List.getD_eq_getElem?_getD,List.getElem?_eq_getElem hj];rfl
   rw [List.getElem_map];simp only [e1]
   exact hsub j hj
structure CpH (w0 w:World) (e:TypeId) (t:Tm) (A:Option Addr) (cap:Nat) (v:Value) (rs:List TR):Prop where
 bel:Below w0.heap.size w0 w
 lt:w0.heap.size+3≤w.heap.size
 b3:w.cell? ⟨w0.heap.size,3,none⟩=some (.slice A t.args.length cap)
 r0:∃u,w.cell? ⟨w0.heap.size+1,0,none⟩=some u
 r1:∃u,w.cell? ⟨w0.heap.size+1,1,none⟩=some u
 r2:∃u,w.cell? ⟨w0.heap.size+1,2,none⟩=some u
 r3:∃u,w.cell? ⟨w0.heap.size+1,3,none⟩=some u
 rf:∀o,w.frozen? ⟨w0.heap.size+1,o,none⟩=false
 c0:w.cell? ⟨w0.heap.size+2,0,none⟩=some (.int .i64 t.kind)
 c1:w.cell? ⟨w0.heap.size+2,1,none⟩=some (.int .i64 t.num)
 c2:w.cell? ⟨w0.heap.size+2,2,none⟩=some (.string t.name)
 c3:w.cell? ⟨w0.heap.size+2,3,none⟩=some v
 cf:∀o,w.frozen? ⟨w0.heap.size+2,o,none⟩=false
 own:OwnR (w0.heap.size+3) e w v rs
section
variable {w0 w w':World} {e:TypeId} {t:Tm} {A:Option Addr} {cap:Nat} {v:Value} {rs:List TR}
theorem CpH.call (h:CpH w0 w e t A cap v rs) (hB:Below w.heap.size w w'):CpH w0 w' e t A cap v rs:=by
 have hl:=h.lt
 have hc:∀b o,b<w0.heap.size+3→w'.cell? ⟨b,o,none⟩=w.cell? ⟨b,o,none⟩:=fun b o hb=>hB.cell (p:=⟨b,o,none⟩) (by show b<_;omega)
 have hf:∀b o,b<w0.heap.size+3→w'.frozen? ⟨b,o,none⟩=w.frozen? ⟨b,o,none⟩:=fun b o hb=>hB.frozen (p:=⟨b,o,none⟩) (by show b<_;omega)
 exact ⟨h.bel.trans (hB.mono (by omega)),Nat.le_trans hl hB.size,(hc _ _ (by omega)).trans h.b3,h.r0.imp fun _ k=>(hc _ _ (by omega)).trans k,h.r1.imp fun _ k=>(hc _ _ (by omega)).trans k,h.r2.imp fun _ k=>(hc _ _ (by omega)).trans k,h.r3.imp fun _ k=>(hc _ _ (by omega)).trans k,
  fun o=>(hf _ _ (by omega)).trans (h.rf o),(hc _ _ (by omega)).trans h.c0,(hc _ _ (by omega)).trans h.c1,(hc _ _ (by omega)).trans h.c2,(hc _ _ (by omega)).trans h.c3,fun o=>(hf _ _ (by omega)).trans (h.cf o),h.own.below hB⟩
theorem CpH.drew (h:CpH w0 w e t A cap v rs):CpH w0 w.drew e t A cap v rs:=h.call (Below.refl w.heap.size w).drew
theorem CpH.far (h:CpH w0 w e t A cap v rs) (hg:w.grownBy w' v.ownBlock) (b o:Nat) (hb:b<w0.heap.size+3):w'.cell? ⟨b,o,none⟩=w.cell? ⟨b,o,none⟩∧w'.frozen? ⟨b,o,none⟩=w.frozen? ⟨b,o,none⟩:=by
 have hl:=h.lt
 have hne:some b≠v.ownBlock:=fun e=>by have:=(h.own.own.lt b e.symm).1;omega
 exact ⟨hg.cell_far ⟨b,o,none⟩ (by show b<_;omega) hne,hg.frozen_far ⟨b,o,none⟩ (by show b<_;omega) hne⟩
theorem CpH.app (h:CpH w0 w e t A cap v rs) (r:TR) (hr:TmsK (fun b=>w0.heap.size+3≤b∧b<w.heap.size∧v.ownBlock≠some b) w r.2.1 r.1.args) {v':Value} {w2:World}
  (hown:w2.ownsRow (w0.heap.size+3) e 4 v' (rs.length+1) (rowsC rs++rowC r)) (hg:w.grownBy w2 v.ownBlock) (hat:v'.ownBlock=v.ownBlock∨v'.ownBlock=some w.heap.size):CpH w0 (w2.setCell ⟨w0.heap.size+2,3,none⟩ v') e t A cap v' (rs++[r]):=by
 have hl:=h.lt
 have hO:=h.own.snoc r hr hown hg hat
 have hbel:Below w0.heap.size w0 w2:=h.bel.grown hg (by omega) (fun k hk=>by have:=(h.own.own.lt k hk).1;omega)
 have hc:∀b o,b<w0.heap.size+3→(b≠w0.heap.size+2∨o≠3)→(w2.setCell ⟨w0.heap.size+2,3,none⟩ v').cell? ⟨b,o,none⟩=w.cell? ⟨b,o,none⟩:=fun b o hb hne=>by
  rw [World.cell?_setCell_other _ _ _ _ (by intro e;injection e with e1 e2 _;rcases hne with hne | hne <;> omega)]
  exact (h.far hg b o hb).1
 have hf:∀b o,b<w0.heap.size+3→(w2.setCell ⟨w0.heap.size+2,3,none⟩ v').frozen? ⟨b,o,none⟩=w.frozen? ⟨b,o,none⟩:=fun b o hb=>by
  rw [World.frozen?_setCell];exact (h.far hg b o hb).2
 refine ⟨hbel.setCell (p:=⟨_,_,none⟩) (by show w0.heap.size≤w0.heap.size+2;omega) _,by have:=hg.size;simp;omega,(hc _ _ (by omega) (.inl (by omega))).trans h.b3,h.r0.imp fun _ k=>(hc _ _ (by omega) (.inl (by omega))).trans k,h.r1.imp fun _ k=>(hc _ _ (by omega) (.inl (by omega))).trans k,h.r2.imp fun _ k=>(hc _ _ (by omega) (.inl (by omega))).trans k,h.r3.imp fun _ k=>(hc _ _ (by omega) (.inl (by omega))).trans k,
  fun o=>(hf _ _ (by omega)).trans (h.rf o),(hc _ _ (by omega) (.inr (by omega))).trans h.c0,(hc _ _ (by omega) (.inr (by omega))).trans h.c1,(hc _ _ (by omega) (.inr (by omega))).trans h.c2,World.cell?_setCell_same _ _ _ ((h.far hg _ _ (by omega)).1.trans h.c3),fun o=>(hf _ _ (by omega)).trans (h.cf o),hO.keep (by simp) fun b hb _=>heap_setCell_other w2 ⟨w0.heap.size+2,3,none⟩ b v' (fun e=>by simp at e;omega)⟩
end
theorem CpH.start (w:World) (t:Tm) (A:Option Addr) (cap LN:Nat) (e:TypeId) (hL:LN=t.args.length) :
  CpH w ((((w.alloc (.cells #[.int .i64 t.kind,.int .i64 t.num,.string t.name,.slice A LN cap] e)).alloc (.cells #[.int .i64 0,.int .i64 0,.string ⟨#[]⟩,.slice none 0 0] e)).alloc (.cells #[.int .i64 t.kind,.int .i64 t.num,.string t.name,.slice none 0 0] e))) e t A cap (.slice none 0 0) []:=by
 obtain ⟨W1,hW1⟩:∃W1,W1=w.alloc (.cells #[.int .i64 t.kind,.int .i64 t.num,.string t.name,.slice A LN cap] e):=⟨_,rfl⟩
 obtain ⟨W2,hW2⟩:∃W2,W2=W1.alloc (.cells #[.int .i64 0,.int .i64 0,.string ⟨#[]⟩,.slice none 0 0] e):=⟨_,rfl⟩
 rw [←hW1,←hW2]
 have s1:W1.heap.size=w.heap.size+1:=by rw [hW1];simp
 have s2:W2.heap.size=w.heap.size+2:=by rw [hW2];simp;omega
 have hB2:Below W1.heap.size W1 W2:=by rw [hW2];exact (Below.refl _ _).alloc (Nat.le_refl _) _
 have hB3:Below W2.heap.size W2 (W2.alloc (.cells #[.int .i64 t.kind,.int .i64 t.num,.string t.name,.slice none 0 0] e)):=(Below.refl _ _).alloc (Nat.le_refl _) _
 have hB1:Below w.heap.size w W1:=by rw [hW1];exact (Below.refl _ _).alloc (Nat.le_refl _) _
 have a3:W1.cell? ⟨w.heap.size,3,none⟩=some (.slice A t.args.length cap):=by rw [hW1,←hL];exact World.cell?_alloc_new _ _ _ 3
 have r:∀j u,(#[.int .i64 0,.int .i64 0,.string ⟨#[]⟩,.slice none 0 0]:Array Value)[j]? = some u→W2.cell? ⟨w.heap.size+1,j,none⟩=some u:=fun j u hu=>by
  have:=World.cell?_alloc_new W1 #[.int .i64 0,.int .i64 0,.string ⟨#[]⟩,.slice none 0 0] e j
  rw [s1,←hW2] at this;rw [this];exact hu
 have rf:∀o,W2.frozen? ⟨w.heap.size+1,o,none⟩=false:=fun o=>by
  have:=World.frozen?_alloc_at (w:=W1) #[.int .i64 0,.int .i64 0,.string ⟨#[]⟩,.slice none 0 0] e (w.heap.size+1) o s1.symm
  rw [←hW2] at this;exact this
 have c:∀j,(W2.alloc (.cells #[.int .i64 t.kind,.int .i64 t.num,.string t.name,.slice none 0 0] e)).cell? ⟨w.heap.size+2,j,none⟩=(#[.int .i64 t.kind,.int .i64 t.num,.string t.name,.slice none 0 0]:Array Value)[j]?:=fun j=>by
  have:=World.cell?_alloc_new W2 #[.int .i64 t.kind,.int .i64 t.num,.string t.name,.slice none 0 0] e j
  rw [s2] at this;exact this
 have k2:∀o,(W2.alloc (.cells #[.int .i64 t.kind,.int .i64 t.num,.string t.name,.slice none 0 0] e)).cell? ⟨w.heap.size+1,o,none⟩=W2.cell? ⟨w.heap.size+1,o,none⟩:=fun o=>hB3.cell (p:=⟨w.heap.size+1,o,none⟩) (show w.heap.size+1<W2.heap.size by omega)
 refine ⟨(hB1.trans (hB2.mono (by omega))).trans (hB3.mono (by omega)),by simp;omega,?_,⟨_,(k2 0).trans (r 0 _ rfl)⟩,⟨_,(k2 1).trans (r 1 _ rfl)⟩,⟨_,(k2 2).trans (r 2 _ rfl)⟩,⟨_,(k2 3).trans (r 3 _ rfl)⟩,fun o=>?_,c 0,c 1,c 2,c 3,fun o=>?_,OwnR.nul _ _ _⟩
 ·rw [hB3.cell (p:=⟨w.heap.size,3,none⟩) (show w.heap.size<W2.heap.size by omega),hB2.cell (p:=⟨w.heap.size,3,none⟩) (show w.heap.size<W1.heap.size by omega)];exact a3
 ·rw [hB3.frozen (p:=⟨w.heap.size+1,o,none⟩) (show w.heap.size+1<W2.heap.size by omega)];exact rf o
 ·exact World.frozen?_alloc_at (w:=W2) _ _ (w.heap.size+2) o s2.symm
theorem CpH.put {w0 w:World} {e:TypeId} {t:Tm} {A:Option Addr} {cap:Nat} {v:Value} {rs:List TR} (h:CpH w0 w e t A cap v rs) (x0 x1 x2 x3:Value) :
  Below w0.heap.size w0 ((((w.setCell ⟨w0.heap.size+1,0,none⟩ x0).setCell ⟨w0.heap.size+1,1,none⟩ x1).setCell ⟨w0.heap.size+1,2,none⟩ x2).setCell ⟨w0.heap.size+1,3,none⟩ x3) ∧
  OwnR (w0.heap.size+3) e ((((w.setCell ⟨w0.heap.size+1,0,none⟩ x0).setCell ⟨w0.heap.size+1,1,none⟩ x1).setCell ⟨w0.heap.size+1,2,none⟩ x2).setCell ⟨w0.heap.size+1,3,none⟩ x3) v rs:=by
 have hle:w0.heap.size≤w0.heap.size+1:=by omega
 refine ⟨((((h.bel.setCell (p:=⟨_,_,none⟩) hle _).setCell (p:=⟨_,_,none⟩) hle _).setCell (p:=⟨_,_,none⟩) hle _).setCell (p:=⟨_,_,none⟩) hle _),h.own.keep (by simp) fun b hb _=>?_⟩
 have hne:∀o,b≠(⟨w0.heap.size+1,o,none⟩:Addr).block:=fun o e=>by simp at e;omega
 rw [heap_setCell_other _ _ _ _ (hne _),heap_setCell_other _ _ _ _ (hne _),heap_setCell_other _ _ _ _ (hne _),heap_setCell_other _ _ _ _ (hne _)]
def NewT (w w':World) (A:Option Addr) (l:List Tm):Prop:=TmsK (fun b=>w.heap.size≤b∧b<w'.heap.size) w' A l
end Hb
namespace Go.Proofs.YtpokpgkjaifccaaGreatDoorRR
open Go.RowKit Hb
set_option maxRecDepth 100000
theorem infoTm:(Tryz.prog.info? 32).map (fun i=>(i.zero,i.size,i.bytes))=some (some (.agg #[.int .i64 0,.int .i64 0,.string ⟨#[]⟩,.slice none 0 0]),4,56):=by kernel_rfl
theorem at_appTT {ops:Array Oper} {rest:List Oper} {a:Act} {Q:Exit→Act→World→Prop} {w:World} {d t p f x g} (h:wpList Tryz.prog ops Q (⟨d,.call { callee:=.builtin .append,args:=x,argTypes:=#[30,30] },t,p,f,g⟩::rest) a w):wpList Tryz.prog ops Q (⟨d,.call { callee:=.builtin .append,args:=x,argTypes:=#[30,30] },t,p,f,g⟩::rest) a w:=h
end Go.Proofs.YtpokpgkjaifccaaGreatDoorRR
namespace Hb
open Go Go.RowKit
structure R4 (w0 w:World) (g:Nat):Prop where
 bel:Below w0.heap.size w0 w
 le:w0.heap.size≤g
 lt:g<w.heap.size
 r0:∃v,w.cell? ⟨g,0,none⟩=some v
 r1:∃v,w.cell? ⟨g,1,none⟩=some v
 r2:∃v,w.cell? ⟨g,2,none⟩=some v
 r3:∃v,w.cell? ⟨g,3,none⟩=some v
 fr:∀o,w.frozen? ⟨g,o,none⟩=false
theorem R4.call {w0 w w':World} {g:Nat} (h:R4 w0 w g) (hB:Below w.heap.size w w'):R4 w0 w' g where
 bel:=h.bel.trans (hB.mono h.bel.size)
 le:=h.le
 lt:=Nat.lt_of_lt_of_le h.lt hB.size
 r0:=h.r0.imp fun _ hh=>(hB.cell (p:=⟨_,_,none⟩) h.lt).trans hh
 r1:=h.r1.imp fun _ hh=>(hB.cell (p:=⟨_,_,none⟩) h.lt).trans hh
 r2:=h.r2.imp fun _ hh=>(hB.cell (p:=⟨_,_,none⟩) h.lt).trans hh
 r3:=h.r3.imp fun _ hh=>(hB.cell (p:=⟨_,_,none⟩) h.lt).trans hh
 fr:=fun o=>(hB.frozen (p:=⟨_,o,none⟩) h.lt).trans (h.fr o)
theorem R4.start {w0 w:World} (hB:Below w0.heap.size w0 w) (x0 x1 x2 x3:Value) (e:TypeId):R4 w0 (w.alloc (.cells #[x0,x1,x2,x3] e)) w.heap.size where
 bel:=hB.trans ((Below.refl _ _).alloc hB.size _)
 le:=hB.size
 lt:=by simp
 r0:=⟨_,World.cell?_alloc_new _ _ _ 0⟩
 r1:=⟨_,World.cell?_alloc_new _ _ _ 1⟩
 r2:=⟨_,World.cell?_alloc_new _ _ _ 2⟩
 r3:=⟨_,World.cell?_alloc_new _ _ _ 3⟩
 fr:=fun o=>World.frozen?_alloc_new _ _ _ _
theorem R4.put {w0 w:World} {g:Nat} (h:R4 w0 w g) (x y z u:Value):Below w0.heap.size w0 ((((w.setCell ⟨g,0,none⟩ x).setCell ⟨g,1,none⟩ y).setCell ⟨g,2,none⟩ z).setCell ⟨g,3,none⟩ u) :=
 (((h.bel.setCell (p:=⟨_,_,none⟩) h.le _).setCell (p:=⟨_,_,none⟩) h.le _).setCell (p:=⟨_,_,none⟩) h.le _).setCell (p:=⟨_,_,none⟩) h.le _
theorem put4_block (w:World) (g:Nat) (x y z u:Value) (b:Nat) (hb:b≠g):((((w.setCell ⟨g,0,none⟩ x).setCell ⟨g,1,none⟩ y).setCell ⟨g,2,none⟩ z).setCell ⟨g,3,none⟩ u).heap[b]? = w.heap[b]?:=by
 rw [heap_setCell_other _ _ _ _ hb,heap_setCell_other _ _ _ _ hb,heap_setCell_other _ _ _ _ hb,heap_setCell_other _ _ _ _ hb]
theorem put4_size (w:World) (g:Nat) (x y z u:Value):((((w.setCell ⟨g,0,none⟩ x).setCell ⟨g,1,none⟩ y).setCell ⟨g,2,none⟩ z).setCell ⟨g,3,none⟩ u).heap.size=w.heap.size:=by simp
end Hb
namespace Go.Proofs.YtpokpgkjaifccaaGreatDoorRR
open Go.RowKit Hb
set_option maxRecDepth 100000
set_option maxHeartbeats 1600000 in
theorem clone_1 (t:Tm) (A:Option Addr) (cap:Nat) (w:World):Calls Tryz.prog 57 #[tmV t A cap] w fun e w'=>e=.returned (tmV t A cap)∧Below w.heap.size w w':=by
 unfold tmV
 generalize t.kind=a0 at *
 generalize t.num=a1 at *
 generalize t.name=a2 at *
 generalize t.args.length=a3 at *
 have hX:=R4.start (w0:=w) (w:=w.alloc (.cells #[.int .i64 a0,.int .i64 a1,.string a2,.slice A a3 cap] 32)) ((Below.refl _ _).alloc (Nat.le_refl _) _) (.int .i64 0) (.int .i64 0) (.string ⟨#[]⟩) (.slice none 0 0) 32
 have hs:(w.alloc (.cells #[.int .i64 a0,.int .i64 a1,.string a2,.slice A a3 cap] 32)).heap.size=w.heap.size+1:=by simp
 rw [hs] at hX
 have hp:=hX.put (.int .i64 a0) (.int .i64 a1) (.string a2) (.slice A a3 cap)
 go_enter Tryz.func57,Tryz.ntmps57
 go_wp2_with fail
 refine bodyPost_ret (v:=.agg #[.int .i64 a0,.int .i64 a1,.string a2,.slice A a3 cap]) (by simp [results,Tryz.results57,go_sem]) rfl ⟨rfl,?_⟩
 exact ((Below.refl _ _).alloc (Nat.le_refl _) _).alloc (by simp) _
def cloneF:Value:=.func (.func 57) #[] #[]
set_option maxHeartbeats 6400000 in
theorem t_apply : ∀ (t : Tm) (A : Option Addr) (cap : Nat) (w : World), TmsAt w.heap.size w A t.args → t.allOk = true →
    Calls Tryz.prog 55 #[tmV t A cap, cloneF] w fun e w' => ∃ A' cap', e = .returned (tmV t A' cap') ∧ Below w.heap.size w w' ∧ NewT w w' A' t.args := by
  refine Tm.ind fun t ih => ?_
  intro A cap w hT hok
  obtain ⟨i, hi, hz0, hz1, hz2⟩ := info_parts infoTm
  have HI := zq hi
  have HZ0 := zq hz0
  have HZ1 := zq hz1
  have HZ2 := zq hz2
  clear hi hz0 hz1 hz2
  have HT := zq hT
  have hm : t.args.length ≤ 8 := by
    rw [Tm.allOk_eq, Bool.and_eq_true] at hok
    have := hok.1
    unfold nodeOk at this
    grind
  have HOKA : Hid (∀ a ∈ t.args, a.allOk = true) := zq (by
    rw [Tm.allOk_eq, Bool.and_eq_true, List.all_eq_true] at hok
    exact hok.2)
  have HIH := zq ih
  obtain ⟨L, HL⟩ := lz (t.args.length)
  have HST := zq (CpH.start w t A cap L 32 HL.out)
  unfold tmV cloneF at *
  rw [← HL.out] at hm ⊢
  by_cases hk0 : t.kind = 0
  · have hl0 : t.args.length = 0 := by
      have h1 := hok
      rw [Tm.allOk_eq, Bool.and_eq_true] at h1
      have h2 := h1.1
      unfold nodeOk at h2
      rw [if_pos hk0] at h2
      simp at h2
      exact List.length_eq_zero_iff.2 h2.2
    have hnil : t.args = [] := List.eq_nil_of_length_eq_zero hl0
    have HC1 := zq (fun W => clone_1 t A cap W)
    unfold tmV at HC1
    rw [← HL.out] at HC1
    have HK := zq hk0
    have hX0 := R4.start (w0 := w) (w := w.alloc (.cells #[.int .i64 t.kind, .int .i64 t.num, .string t.name, .slice A L cap] 32)) ((Below.refl _ _).alloc (Nat.le_refl _) _) (.int .i64 0) (.int .i64 0) (.string ⟨#[]⟩) (.slice none 0 0) 32
    have hs : (w.alloc (.cells #[.int .i64 t.kind, .int .i64 t.num, .string t.name, .slice A L cap] 32)).heap.size = w.heap.size + 1 := by simp
    rw [hs] at hX0
    have HX0 := zq hX0
    have hb0 : (t.kind == 0) = true := by simp [hk0]
    clear hok hk0 hl0 hX0 hs ih hT HST HL
    generalize t.kind = a0 at *
    generalize t.num = a1 at *
    generalize t.name = a2 at *
    go_enter Tryz.func55, Tryz.ntmps55
    go_wp2_with fail
    refine (HC1.out _).mono ?_; rintro e w1 ⟨rfl, hB1⟩
    have hX1 := HX0.out.call hB1
    obtain ⟨v0, r0⟩ := hX1.r0
    obtain ⟨v1, r1⟩ := hX1.r1
    obtain ⟨v2, r2⟩ := hX1.r2
    obtain ⟨v3, r3⟩ := hX1.r3
    have f0 := hX1.fr 0
    have f1 := hX1.fr 1
    have f2 := hX1.fr 2
    have f3 := hX1.fr 3
    have hput := hX1.put (.int .i64 a0) (.int .i64 a1) (.string a2) (.slice A L cap)
    go_wp2_with fail
    exact bodyPost_ret (v := .agg #[.int .i64 a0, .int .i64 a1, .string a2, .slice A L cap]) (by simp [results, Tryz.results55, go_sem, r0, r1, r2, r3]) rfl ⟨A, cap, rfl, hput, by rw [hnil]; exact TmsK.nil⟩
  have hkb : (t.kind == 0) = false := by simp [hk0]
  clear ih hT hok
  go_enter Tryz.func55, Tryz.ntmps55
  go_wp2_with fail
  go_loopw [24] (fun i wr => ∃ k : Nat, ∃ v : Value, ∃ rs : List TR, k ≤ L ∧ i = .int .i64 k ∧ Hid (CpH w wr 32 t A cap v rs) ∧ Hid (rs.map (·.1) = t.args.take k)) (fun i _ => L - (intOf i).toNat)
  case atStart => exact ⟨0, _, [], Nat.zero_le _, rfl, HST, zq (by simp)⟩
  case round =>
    obtain ⟨k, v, rs, hk, rfl, HB, HR⟩ := hrel
    have b3 := HB.out.b3
    rw [← HL.out] at b3
    by_cases hlt : k < L
    · have hkl : k < t.args.length := by have := HL.out; omega
      obtain ⟨b, off, A', cap', rfl, hb, c0, c1, c2, c3, hs⟩ := (HT.out.keep HB.out.bel).get k hkl
      have hX := HB.out.call ((Below.refl _ _).alloc (Nat.le_refl _) (.cells #[.int .i64 t.args[k].kind, .int .i64 t.args[k].num, .string t.args[k].name, .slice A' t.args[k].args.length cap'] 32))
      have hD := hX.drew
      have HA := zq (HIH.out t.args[k] (List.getElem_mem hkl) A' cap' (wr.alloc (.cells #[.int .i64 t.args[k].kind, .int .i64 t.args[k].num, .string t.args[k].name, .slice A' t.args[k].args.length cap'] 32)).drew ((hs.keep ((Below.refl _ wr).alloc HB.out.bel.size _).drew).mono hX.bel.size) (HOKA.out _ (List.getElem_mem hkl)))
      have HC : Hid (Calls Tryz.prog 55 #[.agg #[.int .i64 t.args[k].kind, .int .i64 t.args[k].num, .string t.args[k].name, .slice A' t.args[k].args.length cap'], .func (.func 57) #[] #[]] (wr.alloc (.cells #[.int .i64 t.args[k].kind, .int .i64 t.args[k].num, .string t.args[k].name, .slice A' t.args[k].args.length cap'] 32)).drew fun e w' => ∃ A2 c2, e = .returned (.agg #[.int .i64 t.args[k].kind, .int .i64 t.args[k].num, .string t.args[k].name, .slice A2 t.args[k].args.length c2]) ∧ CpH w w' 32 t (some ⟨b, off, none⟩) cap v rs ∧ TmsK (fun b => w.heap.size + 3 ≤ b ∧ b < w'.heap.size ∧ v.ownBlock ≠ some b) w' A2 t.args[k].args) :=
        zq (HA.out.mono fun e w' hh => by
          obtain ⟨A2, c2, he, hB, hN⟩ := hh
          refine ⟨A2, c2, he, hD.call hB, hN.keep (fun _ _ => rfl) fun b hb => ⟨Nat.le_trans hD.lt hb.1, hb.2, fun ee => ?_⟩⟩
          have := (hD.own.own.lt b ee).2
          have h1 := hb.1
          omega)
      have hrl : rs.length = k := by
        have := congrArg List.length HR.out
        rw [List.length_map, List.length_take] at this; omega
      have HR2 : Hid ((rs ++ [((t.args[k], none, 0) : TR)]).map (fun x : TR => x.1) = t.args.take (k + 1)) := zq (by
        rw [List.map_append, HR.out, List.take_succ_eq_append_getElem hkl]; simp)
      have hk3 := hX.c3
      have hkf := hX.cf 3
      have hki : (0 : Int) ≤ (k : Int) := by omega
      have hk1 : (k : Int) < (L : Int) := by omega
      clear hs HA
      obtain ⟨a, HAE⟩ := lz (t.args[k])
      rw [← HAE.out] at HC HR2 c0 c1 c2 c3 hX hD hk3 hkf
      go_wp2_with fail
      go_region_law (first
        | (go_simp; go_at_call 55; (with_reducible refine HC.out.mono ?_); rintro e w2 ⟨A2, c2', rfl, hC2, hS2⟩; have k3 := hC2.c3; have kf := hC2.cf 3; have hCa := hC2.call ((Below.refl _ _).alloc (Nat.le_refl _) (.cells #[.int .i64 a.kind, .int .i64 a.num, .string a.name, .slice A2 a.args.length c2'] 32)); have k5 := hCa.c3; have kf5 := hCa.cf 3)
        | go_must (have q1 : rs.length + 1 ≤ maxLen := by unfold maxLen; omega
                   have q2 : (rs.length + 1) * 56 ≤ 140737488355328 := by omega
                   have q3 : w.heap.size + 3 ≤ (w2.alloc (.cells #[.int .i64 a.kind, .int .i64 a.num, .string a.name, .slice A2 a.args.length c2'] 32)).heap.size := hCa.lt
                   have q4 : ∀ j u, (rowC (a, A2, c2'))[j]? = some u → (w2.alloc (.cells #[.int .i64 a.kind, .int .i64 a.num, .string a.name, .slice A2 a.args.length c2'] 32)).cell? ((⟨w2.heap.size, 0, none⟩ : Addr).add j) = some u := World.news_of_block (heap_alloc_new w2 _)
                   have q5 : (w2.alloc (.cells #[.int .i64 a.kind, .int .i64 a.num, .string a.name, .slice A2 a.args.length c2'] 32)).heap.size = w2.heap.size + 1 := by simp
                   refine step_append_lies _ (by rfl) _ _ 30 (by rfl) (w.heap.size + 3) 32 i _ 4 56 Tryz.underlying30 HI.out HZ0.out HZ1.out HZ2.out (by rfl) (by decide) v rs.length (rowsC rs) (by rfl) hCa.own.own ⟨w2.heap.size, 0, none⟩ 1 1 (rowC (a, A2, c2')) (by rfl) (by rfl) q4 (rowC_one _) (by decide) q1 q2 q3 (w2.heap.size + 1) q5 ?_; intro g2 cp2 w3 hown3 hg3 hat3 hlt3; clear q1 q2 q3 q4 q5; have k4 := (hCa.far hg3 (w.heap.size + 2) 3 (by omega)).1.trans hCa.c3; have kf4 := (hCa.far hg3 (w.heap.size + 2) 3 (by omega)).2.trans (hCa.cf 3))
        | fail)
      all_goals
        have HN := zq (hCa.app (a, A2, c2') (hS2.keep (fun b hb => heap_alloc_old w2 _ hb.2.1) fun b hb => ⟨hb.1, by simp; omega, hb.2.2⟩) hown3 hg3 (by
          rcases hat3 with h' | h'
          · exact .inl h'.symm
          · exact .inr (by rw [h']; simp [Value.ownBlock])))
        rw [hrl] at HN
        have HR3 : Hid ((rs ++ [((a, A2, c2') : TR)]).map (fun x : TR => x.1) = t.args.take (k + 1)) := zq (by rw [← HR2.out]; simp)
        clear k3 kf k4 kf4 k5 kf5 hC2 hS2 hCa hown3 hg3 hD hX hk3 hkf
        go_wp2_with fail
        go_roundw
        case rel => exact ⟨k + 1, _, rs ++ [(a, A2, c2')], by omega, by go_num, HN, HR3⟩
        case measure => simp [intOf] <;> omega
    · have hkL : k = L := by omega
      subst hkL
      obtain ⟨A2, c2, rfl, hN⟩ := HB.out.own.tms
      have hrl : rs.length = k := by
        have := congrArg List.length HR.out
        rw [List.length_map, List.length_take, ← HL.out] at this; omega
      have hra : rs.map (fun x : TR => x.1) = t.args := by rw [HR.out, HL.out, List.take_length]
      rw [hrl] at HB
      have k0 := HB.out.c0
      have k1 := HB.out.c1
      have k2 := HB.out.c2
      have k3 := HB.out.c3
      obtain ⟨v0, r0⟩ := HB.out.r0
      obtain ⟨v1, r1⟩ := HB.out.r1
      obtain ⟨v2, r2⟩ := HB.out.r2
      obtain ⟨v3, r3⟩ := HB.out.r3
      have f0 := HB.out.rf 0
      have f1 := HB.out.rf 1
      have f2 := HB.out.rf 2
      have f3 := HB.out.rf 3
      have HP := zq (HB.out.put (.int .i64 t.kind) (.int .i64 t.num) (.string t.name) (.slice A2 k c2))
      have HNA : Hid (NewT w ((((wr.setCell ⟨w.heap.size + 1, 0, none⟩ (.int .i64 t.kind)).setCell ⟨w.heap.size + 1, 1, none⟩ (.int .i64 t.num)).setCell ⟨w.heap.size + 1, 2, none⟩ (.string t.name)).setCell ⟨w.heap.size + 1, 3, none⟩ (.slice A2 k c2)) A2 t.args) := zq (by
        obtain ⟨A3, c3, he, h3⟩ := HP.out.2.tms
        rw [hra] at h3
        injection he with he _ _
        subst he
        exact h3.keep (fun _ _ => rfl) fun b hb => ⟨by have := hb.1; omega, hb.2⟩)
      clear hN hra hrl
      go_wp2_with fail
      exact bodyPost_ret (v := .agg #[.int .i64 t.kind, .int .i64 t.num, .string t.name, .slice A2 k c2]) (by simp [results, Tryz.results55, go_sem, r0, r1, r2, r3]) rfl ⟨A2, c2, rfl, HP.out.1, HNA.out⟩
end Go.Proofs.YtpokpgkjaifccaaGreatDoorRR
