/- Parts of the proof. -/
import Derived.Test.YtgapnafkelokaaaGreatDoorR01
import Derived.Test.YtgapnafkelokaaaGreatDoorR02
import Derived.Test.YtgapnafkelokaaaGreatDoorR31
import Derived.Test.YtgapnafkelokaaaGreatDoorR19
import Derived.Test.YtgapnafkelokaaaGreatDoorR16
import Derived.Test.YtgapnafkelokaaaGreatDoorR07
import Derived.Test.YtgapnafkelokaaaGreatDoorR12
open Bool renaming and_eq_false_iff -> fW, and_eq_true -> aE, or_eq_true -> gi, true_and -> di
open Go.Lib renaming decDigits -> aP, itoa -> gQ
open List renaming append_assoc -> bG, cons_append -> ai, drop_zero -> cH, getD_eq_getElem?_getD -> aR, getElem_mem -> aQ, length_append -> aC, length_eq_zero_iff -> ez, map_cons -> bR, map_nil -> ek, mem_cons -> bi, mem_cons_self -> aY, mem_nil_iff -> bV, mem_singleton -> aJ, nil_append -> am
open Nat renaming le_refl -> ag, zero_add -> ap
namespace Hb
theorem IY (s:List UInt8) (L:List UInt8) (a:L=39::(kS 39 s++[39])):cj L L 0=dz 2 s 0 ((kS 39 s).length+2):=by
 subst a
 unfold cj
 rw [cU]
 rw [if_neg (fun h=>absurd h.1 (by decide)),if_neg (by decide +kernel),if_neg (by decide +kernel),if_neg (by decide +kernel),if_neg (by decide +kernel),if_pos (by decide +kernel)]
 unfold gY
 rw [cU,if_neg (by decide),if_pos (by decide)]
 simp only [ap,List.drop_succ_cons,cH]
 rw [ul 39 (.inl rfl) 39 rfl]
 show dz 2 s ((0:Nat):Int) (((0:Nat):Int)+1+((kS 39 s).length:Int)+1)=_
 rw [show (((0:Nat):Int)+1+((kS 39 s).length:Int)+1)=((kS 39 s).length:Int)+2 by omega];rfl
end Hb
namespace Hb
open Go Go.RowKit
def pI (n:Int):List UInt8:=gQ n
def pV (n:Int):List UInt8:=95::gQ n
theorem uo (n:Int):(kV n).data.toList=pI n:=rfl
theorem kz {p:List UInt8} (a:ji p=false) (b:¬p=[91,93]) (c:¬p=[123,125]):eB p=[p]:=by
 unfold eB
 rw [if_neg b,if_neg c,if_neg (by rw [a];simp)]
theorem rY {p:List UInt8} (h:TokText p) (a:ji p=false) (c:¬p=[91,93]) (d:¬p=[123,125]) (f:¬p=[32]):PcOk p:=by
 refine ⟨h.pos,fun t b=>?_,fun e=>?_,f⟩
 ·rw [kz a c d,aJ] at b;subst b;exact h
 ·subst e;revert a;decide +kernel
theorem kk {c:UInt8} (a:c=40\/c=41\/c=91\/c=93\/c=123\/c=125\/c=44\/c=124):TokText [c]/\cj [c] [c] 0=⟨6,[c],0,0,1,0⟩:=by
 rcases a with rfl|rfl|rfl|rfl|rfl|rfl|rfl|rfl <;> exact ⟨⟨by decide,by decide +kernel,rfl,by decide,rfl⟩,rfl⟩
theorem nE {c:UInt8} (a:c=40\/c=41\/c=91\/c=93\/c=123\/c=125\/c=44\/c=124):PcOk [c]/\eB [c]=[[c]]:=by
 have e:eB [c]=[[c]]:=kz rfl (by simp) (by simp)
 exact ⟨rY (kk a).1 rfl (by simp) (by simp) (by rcases a with rfl|rfl|rfl|rfl|rfl|rfl|rfl|rfl <;> decide),e⟩
theorem zX:∀n:Nat,n<58->48<=n->dw (n:Int)=true:=by decide +kernel
theorem CG (u:Nat):fc dw (aP u)=true:=by
 unfold fc
 rw [List.all_eq_true]
 intro b a
 have:=(ne u).2.1 b a
 unfold qL at this
 exact zX _ (by omega) this.1
theorem zm (u:Nat):pV (u:Int)=95::aP u:=by
 unfold pV gQ
 rw [if_neg (by omega)];rfl
theorem yK (u:Nat) (h:u<=9223372036854775807):TokText (pV u)/\cj (pV u) (pV u) 0=⟨3,pV u,0,0,(pV u).length,0⟩/\PcOk (pV u)/\eB (pV u)=[pV u]:=by
 rw [zm]
 have i:=ne u
 have j:(aP u).length<=99:=by
  have:∀(k u:Nat),u<10 ^ (k+1)->(aP u).length<=k+1:=by
   intro k
   induction k with
   | zero=>intro u h;rw [aP,dif_pos (by omega)];simp
   | succ k ih=>
    intro u h
    rw [aP]
    split
    ·simp
    ·rw [aC]
     have:=ih (u / 10) (by rw [Nat.pow_succ] at h;omega)
     simp;omega
  have g:=this 19 u (by omega)
  omega
 have a:au (95::aP u) 0=95:=cU _ _
 have f:bW dw (95::aP u)=(95::aP u).length:=by
  have:=mK dw (95::aP u) [] (by
   have:=CG u
   unfold fc at this |-
   rw [List.all_cons,this];decide +kernel) (by decide +kernel)
  rwa [List.append_nil] at this
 have b:cj (95::aP u) (95::aP u) 0=⟨3,95::aP u,0,0,(95::aP u).length,0⟩:=by
  unfold cj
  rw [a,if_neg (fun h=>by omega),if_pos (by decide +kernel)]
  unfold nO
  rw [cH,f,List.take_of_length_le (ag _),a]
  unfold dz
  rw [if_neg (by simp;omega)]
  rw [show kE 95=3 by decide +kernel]
  simp
 have c:TokText (95::aP u):=⟨by simp,rK (by rw [a];decide +kernel) (by rw [a];decide) (by rw [a];decide),by rw [b],by rw [b];show ¬(3:Int)=7;decide,by rw [b]⟩
 have e:ji (95::aP u)=false:=by
  cases hD:aP u with
  | nil=>rfl
  | cons d l=>unfold ji;rfl
 exact ⟨c,b,rY c e (by simp) (by simp) (by simp),kz e (by simp) (by simp)⟩
def KY (u:Nat):Int:=if u=9223372036854775808 then -9223372036854775808 else u
theorem nr (u:Nat) (h:u<=9223372036854775808):TokText (aP u)/\cj (aP u) (aP u) 0=⟨4,[],KY u,0,(aP u).length,0⟩:=FB u h
theorem pt (u:Nat):∃d l,aP u=d::l/\48<=d.toNat/\d.toNat<=57:=by
 obtain ⟨_,b,a⟩:=ne u
 cases hD:aP u with
 | nil=>rw [hD] at a;simp at a
 | cons d l=>
  have:=b d (by rw [hD];exact aY ..)
  unfold qL at this
  exact ⟨d,l,rfl,this.1,this.2.1⟩
theorem vw (u:Nat) (h:u<=9223372036854775807):PcOk (pI u)/\pI u=aP u/\eB (pI u)=[pI u]:=by
 have e:pI (u:Int)=aP u:=by unfold pI gQ;rw [if_neg (by omega)];rfl
 obtain ⟨d,l,a,f,g⟩:=pt u
 have i:ji (aP u)=false:=by
  rw [a]
  cases l with
  | nil=>rfl
  | cons y l=>
   show (d==45&&(decide (48<=y.toNat)&&decide (y.toNat<=57)))=false
   have:(d==45)=false:=by
    rw [beq_eq_false_iff_ne];intro e;subst e;revert f;decide
   rw [this];rfl
 have b:¬aP u=[91,93]:=fun e=>by rw [a] at e;injection e with e _;subst e;revert g;decide
 have c:¬aP u=[123,125]:=fun e=>by rw [a] at e;injection e with e _;subst e;revert g;decide
 have j:¬aP u=[32]:=fun e=>by rw [a] at e;injection e with e _;subst e;revert f;decide
 rw [e]
 exact ⟨rY (nr u (by omega)).1 i b c j,rfl,kz i b c⟩
theorem tP:TokText [45]/\cj [45] [45] 0=⟨1,[45],0,0,1,0⟩:=⟨⟨by decide,by decide +kernel,rfl,by decide,rfl⟩,rfl⟩
theorem zj (u:Nat) (j:0<u) (h:u<=9223372036854775808):PcOk (pI (-(u:Int)))/\pI (-(u:Int))=45::aP u/\eB (pI (-(u:Int)))=[[45],aP u]:=by
 have e:pI (-(u:Int))=45::aP u:=by
  unfold pI gQ
  rw [if_pos (by omega)];simp
 obtain ⟨d,l,g,c,f⟩:=pt u
 have i:ji (45::aP u)=true:=by
  rw [g]
  show ((45:UInt8)==45&&(decide (48<=d.toNat)&&decide (d.toNat<=57)))=true
  rw [decide_eq_true c,decide_eq_true f];rfl
 have b:eB (45::aP u)=[[45],aP u]:=by
  unfold eB
  rw [if_neg (by simp),if_neg (by simp),if_pos i];rfl
 rw [e]
 refine ⟨⟨by simp,fun t a=>?_,fun e=>?_,by simp⟩,rfl,b⟩
 ·rw [b] at a
  simp only [bi,bV,or_false] at a
  rcases a with rfl|rfl
  ·exact tP.1
  ·exact (nr u h).1
 ·injection e with _ e
  have:=(ne u).1
  rw [e] at this
  have k:cL 10 [48]=0:=by decide +kernel
  omega
theorem oX (s:List UInt8) (h:s.length<=100):PcOk (gq s)/\(((s=[91,93]\/s=[123,125])/\gq s=s) \/
  (¬s=[91,93]/\¬s=[123,125]/\eB (gq s)=[gq s]/\TokText (gq s)/\((gq s=s/\cj (gq s) (gq s) 0=⟨1,s,0,0,s.length,0⟩)\/(ln s=false/\cj (gq s) (gq s) 0=⟨2,s,0,0,(gq s).length,0⟩)))):=by
 unfold gq
 by_cases b:ln s=true
 ·rw [if_pos b]
  by_cases c:s=[91,93]
  ·subst c
   refine ⟨⟨by decide,fun t a=>?_,by decide,by decide⟩,.inl ⟨.inl rfl,rfl⟩⟩
   have e:eB [91,93]=[[91],[93]]:=rfl
   rw [e] at a
   simp only [bi,bV,or_false] at a
   rcases a with rfl|rfl
   ·exact (kk (by simp)).1
   ·exact (kk (by simp)).1
  by_cases f:s=[123,125]
  ·subst f
   refine ⟨⟨by decide,fun t a=>?_,by decide,by decide⟩,.inl ⟨.inr rfl,rfl⟩⟩
   have e:eB [123,125]=[[123],[125]]:=rfl
   rw [e] at a
   simp only [bi,bV,or_false] at a
   rcases a with rfl|rfl
   ·exact (kk (by simp)).1
   ·exact (kk (by simp)).1
  obtain ⟨g,a⟩:=zg s b c f
  have i:ji s=false:=by
   cases hb:ji s
   ·rfl
   ·exfalso
    obtain ⟨d,l,rfl,q,w⟩:=xN hb
    have r:∀n:Nat,n<58->48<=n->db (n:Int)=false:=by decide +kernel
    rw [ud] at b
    rcases b with (h | h) | ⟨_,(h | h) | ⟨h,_⟩ | ⟨_,h,_⟩⟩
    ·exact c h
    ·exact f h
    ·injection h with h _;exact absurd h (by decide)
    ·injection h with h _;exact absurd h (by decide)
    ·unfold fc at h
     rw [List.all_cons,aE] at h
     exact absurd h.1 (by decide +kernel)
    ·unfold fc at h
     rw [List.all_cons,List.all_cons,aE,aE,r d.toNat (by omega) q] at h
     exact absurd h.2.1 (by simp)
  have p:¬s=[32]:=fun e=>by subst e;revert b;decide +kernel
  exact ⟨rY g i c f p,.inr ⟨c,f,kz i c f,g,.inl ⟨rfl,a⟩⟩⟩
 ·rw [if_neg b]
  have a:cj (fY s) (fY s) 0=⟨2,s,0,0,(fY s).length,0⟩:=by
   rw [IY s (fY s) rfl]
   unfold dz
   rw [if_neg (by omega)]
   have:(fY s).length=(kS 39 s).length+2:=by unfold fY;simp
   rw [this];simp
  have j:au (fY s) 0=39:=by unfold fY;exact cU _ _
  have g:TokText (fY s):=⟨by unfold fY;simp,rK (by rw [j];decide +kernel) (by rw [j];decide) (by rw [j];decide),by rw [a],by rw [a];show ¬(2:Int)=7;decide,by rw [a]⟩
  have i:ji (fY s)=false:=by
   unfold fY
   cases hD:kS 39 s++[39] with
   | nil=>rfl
   | cons d l=>rfl
  have k:¬fY s=[91,93]:=by unfold fY;simp
  have m:¬fY s=[123,125]:=by unfold fY;simp
  have o:¬fY s=[32]:=by unfold fY;simp
  have u:¬s=[91,93]:=fun e=>b (by rw [e];decide +kernel)
  have v:¬s=[123,125]:=fun e=>b (by rw [e];decide +kernel)
  exact ⟨rY g i k m o,.inr ⟨u,v,kz i k m,g,.inr ⟨by simpa using b,a⟩⟩⟩
section
variable {E:RE} {S:PT} {most:Int} {i:Nat}
def NmTk (t:NextR) (s:List UInt8):Prop:=(t.r.kind=1\/(t.r.kind=2/\¬s=[45]))/\t.r.text=s
def PuTk (t:NextR) (c:UInt8):Prop:=t.r.kind=6/\t.r.text=[c]
theorem NmTk.nam {t:NextR} {s:List UInt8} (h:NmTk t s):fH t=true:=by
 unfold fH
 rcases h.1 with h | h
 ·rw [h];rfl
 ·rw [h.1];rfl
theorem NmTk.txt {t:NextR} {s:List UInt8} (h:NmTk t s):t.txt=⟨s.toArray⟩:=by unfold NextR.txt;rw [h.2]
theorem NmTk.notP {t:NextR} {s:List UInt8} (h:NmTk t s) (x:List UInt8):isP t x=false:=by
 unfold isP
 rcases h.1 with h | h
 ·rw [h];rfl
 ·rw [h.1];rfl
theorem NmTk.opn {t:NextR} {s:List UInt8} (h:NmTk t s):opn t=false:=by unfold Hb.opn;rw [h.notP];rfl
theorem PuTk.isP {t:NextR} {c:UInt8} (h:PuTk t c):isP t [c]=true:=by unfold Hb.isP;rw [h.1,h.2];simp
theorem PuTk.notP {t:NextR} {c d:UInt8} (h:PuTk t c) (hd:¬c=d):Hb.isP t [d]=false:=by unfold Hb.isP;rw [h.1,h.2];simp [hd]
theorem PuTk.notNam {t:NextR} {c:UInt8} (h:PuTk t c):fH t=false:=by unfold fH;rw [h.1];rfl
theorem GX (a:(E.at i).r.kind=4) (b:0<=(E.at i).r.n):ki E S most i=.ok (Cw (E.at i).r.n,0,i+1):=by
 unfold ki
 simp only
 rw [if_pos ⟨a,b⟩]
theorem GT (a:(E.at i).r.kind=3):ki E S most i=.ok (KX ((cq E.T i).num (E.at i).r.text),0,i+1):=by
 unfold ki
 simp only
 rw [if_neg (fun h=>by rw [a] at h;exact absurd h.1 (by decide)),if_pos a]
theorem vE {s:List UInt8} (h:NmTk (E.at i) s):ki E S most i=sf E S (E.at i) most (i+1):=by
 have a:¬(E.at i).r.kind=4/\¬(E.at i).r.kind=3/\¬(E.at i).r.kind=5:=by
  rcases h.1 with h | h
  ·rw [h];decide
  ·rw [h.1];decide
 have b:mZ (E.at i)=false:=by unfold mZ;rw [h.notP,h.notP,h.notP];rfl
 unfold ki
 simp only
 rw [if_neg (fun x=>a.1 x.1),if_neg a.2.1,if_neg a.2.2,if_neg (by rw [b];simp),if_pos h.nam]
theorem rp {s:ByteArray} (h:opn (E.at i)=false):ll E S s i=.ok (none,i):=by unfold ll;rw [h,if_neg (by simp)]
theorem ym {s:ByteArray} {l:List Tm} {m:Nat} (h:opn (E.at i)=true) (b:pN E S (i+1)=.ok (l,m)) (a:isP (E.at m) [41]=true):ll E S s i=.ok (some (mw s l),m+1):=by
 unfold ll
 rw [if_pos h,b]
 simp only
 unfold gK
 rw [if_pos a]
theorem EI {s:List UInt8} {l:List Tm} {m:Nat} (h:NmTk (E.at i) s) (b:opn (E.at (i+1))=true) (c:pN E S (i+2)=.ok (l,m)) (a:isP (E.at m) [41]=true):ki E S most i=.ok (mw ⟨s.toArray⟩ l,0,m+1):=by
 rw [vE h]
 unfold sf
 rw [h.txt,ym b c a]
theorem xO {t:NextR} (h:¬(t.r.kind=1/\t.r.text=[45]/\(E.at i).r.kind=4/\(E.at i).lay=false)):mf E t i=false:=by
 cases hb:mf E t i
 ·rfl
 ·exfalso
  apply h
  unfold mf at hb
  simp only [aE,beq_iff_eq,Bool.not_eq_true'] at hb
  exact hb
theorem GW (h:NmTk (E.at i) [45]) (a:(E.at (i+1)).r.kind=4) (c:(E.at (i+1)).lay=false):ki E S most i=.ok (Cw (if (E.at (i+1)).r.n=-9223372036854775808 then (E.at (i+1)).r.n else -(E.at (i+1)).r.n),0,i+2):=by
 have e:opn (E.at (i+1))=false:=by unfold Hb.opn isP;rw [a];rfl
 have b:(E.at i).r.kind=1:=by
  rcases h.1 with h | h
  ·exact h
  ·exact absurd rfl h.2
 have d:mf E (E.at i) (i+1)=true:=by
  unfold mf
  rw [b,h.2,a,c];rfl
 rw [vE h]
 unfold sf
 rw [rp e]
 simp only
 rw [if_pos d]
theorem EJ {s:List UInt8} (h:NmTk (E.at i) s) (b:opn (E.at (i+1))=false) (a:¬(E.at (i+1)).r.kind=4) (c:zc E (E.at i) most (i+1)=false):ki E S most i=.ok (yB ⟨s.toArray⟩,0,i+1):=by
 rw [vE h]
 unfold sf
 rw [rp b]
 simp only
 rw [if_neg (by rw [xO fun x=>a x.2.2.1];simp),if_neg (by rw [c];simp),h.txt]
theorem GU {s:List UInt8} {u:Tm} {p:Int} {m:Nat} (h:NmTk (E.at i) s) (c:opn (E.at (i+1))=false) (b:¬(s=[45]/\(E.at (i+1)).r.kind=4/\(E.at (i+1)).lay=false)) (d:zc E (E.at i) most (i+1)=true)
  (a:S (dv ((dt E.P ⟨s.toArray⟩ 1).getD op0)) (i+1)=.ok (u,p,m)):ki E S most i=.ok (mw ⟨s.toArray⟩ [u],((dt E.P ⟨s.toArray⟩ 1).getD op0).prec,m):=by
 rw [vE h]
 unfold sf
 rw [rp c]
 simp only
 rw [if_neg (by rw [xO fun x=>b ⟨h.2.symm.trans x.2.1,x.2.2⟩];simp),if_pos d,h.txt,a]
theorem rW {c:UInt8} (h:PuTk (E.at i) c) (b:c=40\/c=91\/c=123):ki E S most i=(match ms E S [c] (i+1) with | .error e=>.error e | .ok (u,m)=>.ok (u,0,m)):=by
 have a:mZ (E.at i)=true:=by
  unfold mZ
  rcases b with rfl|rfl|rfl
  ·rw [h.isP];rfl
  ·rw [h.isP];simp
  ·rw [h.isP];simp
 unfold ki
 simp only
 rw [if_neg (fun x=>by rw [h.1] at x;exact absurd x.1 (by decide)),if_neg (by rw [h.1];decide),if_neg (by rw [h.1];decide),if_pos a,h.2]
 cases ms E S [c] (i+1) <;> rfl
theorem GV {t:Tm} {p:Int} {m:Nat} (h:PuTk (E.at i) 40) (a:S 1200 (i+1)=.ok (t,p,m)) (b:isP (E.at m) [41]=true):ki E S most i=.ok (t,0,m+1):=by
 rw [rW h (.inl rfl)]
 unfold ms
 rw [if_pos rfl]
 unfold GP
 rw [a]
 simp only
 unfold gK
 rw [if_pos b];rfl
theorem Cl {t:Tm} {p:Int} {m:Nat} (h:PuTk (E.at i) 123) (c:isP (E.at (i+1)) [125]=false) (a:S 1200 (i+1)=.ok (t,p,m)) (b:isP (E.at m) [125]=true):ki E S most i=.ok (mw ⟨#[123,125]⟩ [t],0,m+1):=by
 rw [rW h (.inr (.inr rfl))]
 unfold ms
 rw [if_neg (by decide),if_neg (fun x=>absurd x.1 (by decide)),if_neg (fun x=>by rw [c] at x;exact absurd x.2 (by decide)),if_neg (by decide)]
 unfold GP
 rw [a]
 simp only
 unfold gK
 rw [if_pos b]
theorem AO {a b:UInt8} (d:(a=91/\b=93)\/(a=123/\b=125)) (h:PuTk (E.at i) a) (c:PuTk (E.at (i+1)) b):ki E S most i=(match jR E S ⟨#[a,b]⟩ (i+2) with | .error e=>.error e | .ok (u,m)=>.ok (u,0,m)):=by
 rcases d with ⟨rfl,rfl⟩ | ⟨rfl,rfl⟩
 ·rw [rW h (.inr (.inl rfl))]
  unfold ms
  rw [if_neg (by decide),if_pos ⟨rfl,c.isP⟩]
 ·rw [rW h (.inr (.inr rfl))]
  unfold ms
  rw [if_neg (by decide),if_neg (fun x=>absurd x.1 (by decide)),if_pos ⟨rfl,c.isP⟩]
theorem vD {a b:UInt8} (d:(a=91/\b=93)\/(a=123/\b=125)) (h:PuTk (E.at i) a) (c:PuTk (E.at (i+1)) b) (e:opn (E.at (i+2))=false):ki E S most i=.ok (yB ⟨#[a,b]⟩,0,i+2):=by
 rw [AO d h c]
 unfold jR
 rw [rp e]
theorem vC {a b:UInt8} {l:List Tm} {m:Nat} (d:(a=91/\b=93)\/(a=123/\b=125)) (h:PuTk (E.at i) a) (c:PuTk (E.at (i+1)) b) (f:opn (E.at (i+2))=true) (g:pN E S (i+3)=.ok (l,m)) (e:isP (E.at m) [41]=true):ki E S most i=.ok (mw ⟨#[a,b]⟩ l,0,m+1):=by
 rw [AO d h c]
 unfold jR
 rw [ym f g e]
theorem xA {l:List Tm} {t:Tm} {m k:Nat} (h:PuTk (E.at i) 91) (b:isP (E.at (i+1)) [93]=false) (c:pN E S (i+1)=.ok (l,m)) (d:oH E S m=.ok (t,k)) (a:isP (E.at k) [93]=true):ki E S most i=.ok (qV l t,0,k+1):=by
 rw [rW h (.inr (.inl rfl))]
 unfold ms
 rw [if_neg (by decide),if_neg (fun x=>by rw [b] at x;exact absurd x.2 (by decide)),if_neg (fun x=>absurd x.1 (by decide)),if_pos rfl]
 unfold xR
 rw [c]
 simp only
 rw [d]
 simp only
 unfold gK
 rw [if_pos a]
theorem DI {m:Nat} (h:isP (E.at m) [124]=false):oH E S m=.ok (pU,m):=by unfold oH;rw [if_neg (by rw [h];simp)]
theorem DK {t:Tm} {p:Int} {m k:Nat} (h:isP (E.at m) [124]=true) (a:S 999 (m+1)=.ok (t,p,k)):oH E S m=.ok (t,k):=by unfold oH;rw [if_pos h,a]
def FR (E:RE) (S:PT):Nat->List Tm->Nat->Prop
 | _,[],_=>False
 | i,[t],m=>(∃p,S 999 i=.ok (t,p,m))/\isP (E.at m) [44]=false
 | i,t::u::l,m=>∃k,(∃p,S 999 i=.ok (t,p,k))/\isP (E.at k) [44]=true/\FR E S (k+1) (u::l) m
theorem AG:∀(l:List Tm) (i m k:Nat),FR E S i l m->l.length<=k->rM E S k i=.ok (l,m)
 | [],_,_,_,h,_=>absurd h (by simp [FR])
 | [t],i,m,0,_,hk=>absurd hk (by simp)
 | [t],i,m,k+1,⟨⟨p,h⟩,hc⟩,_=>by
  unfold rM
  rw [h]
  simp only
  rw [if_neg (by rw [hc];simp)]
 | t::u::l,i,m,0,_,hk=>absurd hk (by simp)
 | t::u::l,i,m,k+1,⟨q,⟨p,h⟩,hc,hr⟩,hk=>by
  unfold rM
  rw [h]
  simp only
  rw [if_pos hc,AG (u::l) (q+1) m k hr (by simpa using hk)]
theorem Gy {l:List Tm} {m:Nat} (h:FR E S i l m) (a:l.length<=E.T.length):pN E S i=.ok (l,m):=AG l i m _ h a
end
def Rch (E:RE) (f:Nat) (most:Int) (i:Nat) (t:Tm) (p:Int) (m:Nat):Prop:=∃k,E.T.length+i<=k+m/\Bn E (ly E f) most i=jJ E (ly E f) most k t p m
theorem Rch.opd {E:RE} {f:Nat} {most:Int} {i:Nat} {t:Tm} {p:Int} {m:Nat} (h:ki E (ly E f) most i=.ok (t,p,m)) (a:i<=m):Rch E f most i t p m :=
 ⟨E.T.length,by omega,by unfold Bn;rw [h]⟩
def Stop (E:RE) (m:Nat) (L:Int):Prop:=(gA E m).2=true->L<(gA E m).1.prec
theorem Stop.mono {E:RE} {m:Nat} {L K:Int} (h:Stop E m L) (a:K<=L):Stop E m K:=fun x=>by have:=h x;omega
theorem Rch.done {E:RE} {f:Nat} {most:Int} {i:Nat} {t:Tm} {p:Int} {m:Nat} (h:Rch E f most i t p m) (c:m<E.T.length+i) (a:Stop E m most):ly E (f+1) most i=.ok (t,p,m):=by
 obtain ⟨k,b,h⟩:=h
 show Bn E (ly E f) most i=_
 rw [h]
 obtain ⟨k,rfl⟩:∃j,k=j+1:=⟨k-1,by omega⟩
 unfold jJ
 rw [if_pos]
 unfold ur
 cases ho:(gA E m).2
 ·rfl
 ·rw [decide_eq_true (a ho)];simp
theorem Rch.infix {E:RE} {f:Nat} {most:Int} {i:Nat} {t u:Tm} {p q:Int} {m k:Nat} {op:OpR} (h:Rch E f most i t p m) (r:m<E.T.length+i) (d:gA E m=(op,true)) (e:nQ op=false) (g:op.prec<=most) (l:p<=fX op) (b:ly E f (dv op) (m+1)=.ok (u,q,k)) (o:m<k) :
  Rch E f most i (mw op.name [t,u]) op.prec k:=by
 obtain ⟨j,n,h⟩:=h
 obtain ⟨j,rfl⟩:∃a,j=a+1:=⟨j-1,by omega⟩
 refine ⟨j,by omega,?_⟩
 have c:ur (op,true) most p=false:=by
  show (!true||(decide (most<op.prec)||decide (fX op<p)))=false
  rw [decide_eq_false (by omega),decide_eq_false (by omega)];rfl
 rw [h,jJ,d,if_neg (by rw [c];simp),if_neg (by rw [e];simp),b]
theorem Rch.postfix {E:RE} {f:Nat} {most:Int} {i:Nat} {t:Tm} {p:Int} {m:Nat} {op:OpR} (h:Rch E f most i t p m) (l:m<E.T.length+i) (c:gA E m=(op,true)) (d:nQ op=true) (e:op.prec<=most) (g:p<=fX op) :
  Rch E f most i (mw op.name [t]) op.prec (m+1):=by
 obtain ⟨j,k,h⟩:=h
 obtain ⟨j,rfl⟩:∃a,j=a+1:=⟨j-1,by omega⟩
 refine ⟨j,by omega,?_⟩
 have b:ur (op,true) most p=false:=by
  show (!true||(decide (most<op.prec)||decide (fX op<p)))=false
  rw [decide_eq_false (by omega),decide_eq_false (by omega)];rfl
 rw [h,jJ,c,if_neg (by rw [b];simp),if_pos d]
def Ir (t:NextR) (x:CI):Prop:=t.r.kind=(cj x.2 x.2 0).kind/\t.r.text=(cj x.2 x.2 0).text/\t.r.n=(cj x.2 x.2 0).n/\t.lay=x.1
def Sg (E:RE):Nat->List CI->Prop
 | _,[]=>True
 | i,x::l=>Ir (E.at i) x/\Sg E (i+1) l
theorem Sg.app {E:RE}:∀{a b:List CI} {i:Nat},Sg E i (a++b)↔Sg E i a/\Sg E (i+a.length) b
 | [],b,i=>by simp [Sg]
 | x::a,b,i=>by
  rw [ai,Sg,Sg,Sg.app (a:=a) (b:=b),List.length_cons,and_assoc,show i+(a.length+1)=i+1+a.length by omega]
theorem Ko (P:List OpR) (q:Int) (L:List CI) (a:Nat) (d:∀x∈L,TokText x.2) (e:NextR):Sg ⟨iS a L++[e],P,q⟩ 0 L:=by
 have f:∀i,(h:i<L.length)->Ir ((⟨iS a L++[e],P,q⟩:RE).at i) L[i]:=by
  intro i h
  obtain ⟨b,g⟩:=uu L a i h
  have c:(⟨iS a L++[e],P,q⟩:RE).at i=⟨tV (b:Int) (cj L[i].2 L[i].2 0),L[i].1,0⟩:=by
   show uI _ i=_
   unfold uI
   rw [aC,jw,show min i (L.length+[e].length-1)=i by simp;omega,aR,List.getElem?_append_left (by rw [jw];exact h),g]
   rfl
  rw [c]
  have l:=d L[i] (aQ h)
  unfold Ir
  rw [re _ _ l.err]
  exact ⟨rfl,rfl,rfl,rfl⟩
 have m:∀(K:List CI) (j:Nat),(∀i (h:i<K.length),Ir ((⟨iS a L++[e],P,q⟩:RE).at (j+i)) K[i])->Sg ⟨iS a L++[e],P,q⟩ j K:=by
  intro K
  induction K with
  | nil=>intro j _;trivial
  | cons x K ih=>
   intro j h
   refine ⟨h 0 (by simp),ih (j+1) fun i k=>?_⟩
   have:=h (i+1) (by simpa using k)
   rw [show j+1+i=j+(i+1) by omega]
   exact this
 exact m L 0 fun i h=>by rw [ap];exact f i h
theorem Ea (P:List OpR) (q:Int) (L:List CI) (a:Nat) (e:NextR):(⟨iS a L++[e],P,q⟩:RE).at L.length=e:=by
 show uI _ _=_
 unfold uI
 rw [aC,jw,show min L.length (L.length+[e].length-1)=L.length by simp,aR,List.getElem?_append_right (by rw [jw];exact ag _),jw]
 simp
theorem go {a p:List UInt8} {b:Bool} {l:List (List UInt8)} (h:¬p=[32]):iQ a b (p::l)=iw (b||eo a p) p++iQ p false l:=by rw [iQ,if_neg h]
theorem Cu (s a:Bool) (p:List UInt8):(iw s p).length=(iw a p).length:=by
 unfold iw;cases eB p <;> simp
theorem jd:∀(l:List (List UInt8)) (a b:List UInt8) (c d:Bool),(iQ a c l).length=(iQ b d l).length
 | [],_,_,_,_=>rfl
 | p::l,a,b,c,d=>by
  rw [iQ,iQ]
  split
  ·exact jd l _ _ _ _
  ·rw [aC,aC,Cu,jd l p p false false]
def tl (l:List (List UInt8)):Nat:=(iQ [] false l).length
theorem Km (l:List (List UInt8)) (a:List UInt8) (b:Bool):(iQ a b l).length=tl l:=jd l _ _ _ _
theorem kh (a b:List (List UInt8)):tl (a++b)=tl a+tl b:=by
 by_cases h:a=[]
 ·subst h;simp [tl,iQ]
 ·unfold tl
  rw [vV a b _ _ h,aC]
  split
  ·rw [jd b]
  ·rw [jd b]
theorem iO {s:Bool} {p:List UInt8} (h:eB p=[p]):iw s p=[(s,p)]:=by unfold iw;rw [h];rfl
theorem nJ {s:Bool} {p a b:List UInt8} (h:eB p=[a,b]):iw s p=[(s,a),(false,b)]:=by unfold iw;rw [h];rfl
def Sp (E:RE) (i:Nat) (l:List (List UInt8)):Prop:=∃prev sp,Sg E i (iQ prev sp l)
theorem Sp.app {E:RE} {i:Nat} {a b:List (List UInt8)} (h:Sp E i (a++b)):Sp E i a/\Sp E (i+tl a) b:=by
 obtain ⟨e,f,h⟩:=h
 by_cases d:a=[]
 ·subst d;exact ⟨⟨e,f,trivial⟩,by simpa [tl,iQ] using ⟨e,f,h⟩⟩
 ·rw [vV a b _ _ d,Sg.app] at h
  rw [Km] at h
  refine ⟨⟨_,_,h.1⟩,?_⟩
  have c:=h.2
  split at c
  ·exact ⟨_,_,c⟩
  ·exact ⟨_,_,c⟩
theorem DE (l:List (List UInt8)):tl ([32]::l)=tl l:=by
 unfold tl;rw [iQ,if_pos rfl,jd]
theorem Sp.solo {E:RE} {i:Nat} {c:UInt8} {l:List (List UInt8)} (a:c=40\/c=41\/c=91\/c=93\/c=123\/c=125\/c=44\/c=124) (h:Sp E i ([c]::l)):PuTk (E.at i) c/\Sp E (i+1) l:=by
 obtain ⟨f,g,h⟩:=h
 obtain ⟨d,e⟩:=nE a
 rw [go d.sp,iO e] at h
 have b:=(kk a).2
 exact ⟨⟨by have:=h.1.1;rw [b] at this;exact this,by have:=h.1.2.1;rw [b] at this;exact this⟩,_,_,h.2⟩
theorem iB {c:UInt8} (d:c=40\/c=41\/c=91\/c=93\/c=123\/c=125\/c=44\/c=124) (l:List (List UInt8)):tl ([c]::l)=1+tl l:=by
 obtain ⟨a,b⟩:=nE d
 unfold tl
 rw [go a.sp,iO b,aC,jd l [c] [] false false];rfl
theorem CC (p:List UInt8):eo p [40]=false:=by
 unfold eo
 have a:dw (au [40] 0)=false:=by decide +kernel
 have b:db (au [40] 0)=false:=by decide +kernel
 have c:(au [40] 0==39)=false:=by decide +kernel
 rw [a,b,c]
 simp only [Bool.and_false,Bool.false_or,Bool.or_false]
 have:(au p (p.length-1)==au [40] 0&&cls (au p (p.length-1))==7)=false:=by
  cases hb:(au p (p.length-1)==au [40] 0)
  ·rfl
  ·rw [beq_iff_eq] at hb
   rw [hb];decide +kernel
 rw [this];simp
theorem Sp.name {E:RE} {i:Nat} {s:List UInt8} {l:List (List UInt8)} (n:s.length<=100) (f:¬s=[91,93]) (g:¬s=[123,125]) (h:Sp E i (gq s::l)):NmTk (E.at i) s/\Sg E (i+1) (iQ (gq s) false l):=by
 obtain ⟨r,t,h⟩:=h
 obtain ⟨k,j⟩:=oX s n
 rcases j with ⟨a,_⟩ | ⟨_,_,o,p,b⟩
 ·rcases a with a | a
  ·exact absurd a f
  ·exact absurd a g
 rw [go k.sp,iO o] at h
 refine ⟨?_,h.2⟩
 have c:=h.1.1
 have d:=h.1.2.1
 rcases b with ⟨q,b⟩ | ⟨m,b⟩
 ·rw [b] at c d
  exact ⟨.inl c,d⟩
 ·rw [b] at c d
  exact ⟨.inr ⟨c,fun e=>by subst e;revert m;decide +kernel⟩,d⟩
theorem np {s:List UInt8} {l:List (List UInt8)} (f:s.length<=100) (b:¬s=[91,93]) (c:¬s=[123,125]):tl (gq s::l)=1+tl l:=by
 obtain ⟨e,d⟩:=oX s f
 rcases d with ⟨a,_⟩ | ⟨_,_,g,h,i⟩
 ·rcases a with a | a
  ·exact absurd a b
  ·exact absurd a c
 unfold tl
 rw [go e.sp,iO g,aC,jd l _ [] false false];rfl
theorem Sp.two {E:RE} {i:Nat} {a b:UInt8} {l:List (List UInt8)} (d:(a=91/\b=93)\/(a=123/\b=125)) (h:Sp E i (gq [a,b]::l)):PuTk (E.at i) a/\PuTk (E.at (i+1)) b/\Sg E (i+2) (iQ [a,b] false l):=by
 obtain ⟨m,n,h⟩:=h
 have e:gq [a,b]=[a,b]:=by rcases d with ⟨rfl,rfl⟩ | ⟨rfl,rfl⟩ <;> decide +kernel
 have j:eB [a,b]=[[a],[b]]:=by rcases d with ⟨rfl,rfl⟩ | ⟨rfl,rfl⟩ <;> rfl
 have k:¬[a,b]=[32]:=by simp
 rw [e,go k,nJ j] at h
 have f:=(kk (c:=a) (by rcases d with ⟨rfl,rfl⟩ | ⟨rfl,rfl⟩ <;> simp)).2
 have g:=(kk (c:=b) (by rcases d with ⟨rfl,rfl⟩ | ⟨rfl,rfl⟩ <;> simp)).2
 exact ⟨⟨by have:=h.1.1;rw [f] at this;exact this,by have:=h.1.2.1;rw [f] at this;exact this⟩,⟨by have:=h.2.1.1;rw [g] at this;exact this,by have:=h.2.1.2.1;rw [g] at this;exact this⟩,h.2.2⟩
theorem uJ {a b:UInt8} {l:List (List UInt8)} (c:(a=91/\b=93)\/(a=123/\b=125)):tl (gq [a,b]::l)=2+tl l:=by
 have e:gq [a,b]=[a,b]:=by rcases c with ⟨rfl,rfl⟩ | ⟨rfl,rfl⟩ <;> decide +kernel
 have d:eB [a,b]=[[a],[b]]:=by rcases c with ⟨rfl,rfl⟩ | ⟨rfl,rfl⟩ <;> rfl
 unfold tl
 rw [e,go (by simp),nJ d,aC,jd l _ [] false false];rfl
theorem uQ {E:RE} {i:Nat} {p:List UInt8} {l:List (List UInt8)} (h:Sg E i (iQ p false ([40]::l))):opn (E.at i)=true/\Sp E (i+1) l:=by
 obtain ⟨e,f⟩:=nE (c:=40) (.inl rfl)
 rw [go e.sp,iO f,CC] at h
 have g:=(kk (c:=40) (.inl rfl)).2
 refine ⟨?_,_,_,h.2⟩
 have a:=h.1.1
 have b:=h.1.2.1
 have d:=h.1.2.2.2
 rw [g] at a b
 unfold Hb.opn isP
 rw [a,b,d];rfl
theorem Sp.var {E:RE} {i:Nat} {u:Nat} {l:List (List UInt8)} (d:u<=9223372036854775807) (h:Sp E i (pV u::l)):(E.at i).r.kind=3/\(E.at i).r.text=pV u/\Sp E (i+1) l:=by
 obtain ⟨e,f,h⟩:=h
 obtain ⟨_,a,b,c⟩:=yK u d
 rw [go b.sp,iO c] at h
 exact ⟨by have:=h.1.1;rw [a] at this;exact this,by have:=h.1.2.1;rw [a] at this;exact this,_,_,h.2⟩
theorem DD {u:Nat} {l:List (List UInt8)} (c:u<=9223372036854775807):tl (pV u::l)=1+tl l:=by
 obtain ⟨_,d,a,b⟩:=yK u c
 unfold tl
 rw [go a.sp,iO b,aC,jd l _ [] false false];rfl
theorem Sp.nat {E:RE} {i:Nat} {u:Nat} {l:List (List UInt8)} (e:u<=9223372036854775807) (h:Sp E i (pI u::l)):(E.at i).r.kind=4/\(E.at i).r.n=u/\Sp E (i+1) l:=by
 obtain ⟨f,g,h⟩:=h
 obtain ⟨c,b,d⟩:=vw u e
 rw [go c.sp,iO d] at h
 have a:=(nr u (by omega)).2
 rw [<-b] at a
 exact ⟨by have:=h.1.1;rw [a] at this;exact this,by have:=h.1.2.2.1;rw [a] at this;rw [this];unfold KY;rw [if_neg (by omega)],_,_,h.2⟩
theorem DG {u:Nat} {l:List (List UInt8)} (c:u<=9223372036854775807):tl (pI u::l)=1+tl l:=by
 obtain ⟨a,d,b⟩:=vw u c
 unfold tl
 rw [go a.sp,iO b,aC,jd l _ [] false false];rfl
theorem Sp.neg {E:RE} {i:Nat} {u:Nat} {l:List (List UInt8)} (d:0<u) (c:u<=9223372036854775808) (h:Sp E i (pI (-(u:Int))::l)):NmTk (E.at i) [45]/\(E.at (i+1)).r.kind=4/\(E.at (i+1)).r.n=KY u/\(E.at (i+1)).lay=false/\Sp E (i+2) l:=by
 obtain ⟨j,k,h⟩:=h
 obtain ⟨e,g,f⟩:=zj u d c
 rw [go e.sp,nJ f] at h
 have b:=(nr u c).2
 have a:=tP.2
 exact ⟨⟨.inl (by have:=h.1.1;rw [a] at this;exact this),by have:=h.1.2.1;rw [a] at this;exact this⟩,by have:=h.2.1.1;rw [b] at this;exact this,by have:=h.2.1.2.2.1;rw [b] at this;exact this,h.2.1.2.2.2,_,_,h.2.2⟩
theorem DF {u:Nat} {l:List (List UInt8)} (a:0<u) (d:u<=9223372036854775808):tl (pI (-(u:Int))::l)=2+tl l:=by
 obtain ⟨b,e,c⟩:=zj u a d
 unfold tl
 rw [go b.sp,nJ c,aC,jd l _ [] false false];rfl
theorem vO {T:List OpR} {s:ByteArray} {c:Int} {op:OpR} (h:dt T s c=some op):op∈T/\op.name.toList=s.toList/\cO op.typ=c/\oj op=true:=by
 unfold dt at h
 split at h
 ·rename_i d
  have b:=List.mem_of_find?_eq_some h
  have a:=List.find?_some h
  unfold nK at a
  simp only [aE,beq_iff_eq] at a
  exact ⟨b,by simpa using a.1,by simpa using a.2,pG d _ b⟩
 ·cases h
theorem xG {op:OpR} (h:oj op=true):1<=op.prec/\op.prec<=1200/\¬op.name.toList=[91,93]/\¬op.name.toList=[123,125]/\(op.name.toList=[44]->op.typ=2/\op.prec=1000)/\(op.name.toList=[124]->cO op.typ=2/\1001<=op.prec):=by
 unfold oj Kc at h
 split at h
 ·cases h
 ·rename_i b
  simp only [gi,decide_eq_true_iff,beq_iff_eq,not_or] at b
  split at h
  ·cases h
  ·rename_i a
   simp only [gi,beq_iff_eq,not_or] at a
   refine ⟨by omega,by omega,a.1,a.2,fun e=>?_,fun e=>?_⟩
   ·rw [if_pos (by simpa using e)] at h
    simpa using h
   ·rw [if_neg (by rw [e];decide),if_pos (by simpa using e)] at h
    simpa using h
theorem Ii {t:Int} (h:cO t=1):t=4\/t=5:=by unfold cO at h;grind
theorem Ba {t:Int} (h:cO t=2):t=1\/t=2\/t=3:=by unfold cO at h;grind
theorem CN {t:Int} (h:cO t=3):t=6\/t=7:=by unfold cO at h;grind
theorem uP {op:OpR} (h:1<=op.prec/\op.prec<=1200):0<=fX op/\fX op<=op.prec/\0<=dv op/\dv op<=op.prec:=by
 unfold fX dv
 grind
theorem AW {T:List OpR} {s:ByteArray} {c:Int} (h:has T s c=true):dt T s c=some (cQ T s c):=by
 unfold has at h
 unfold cQ
 cases hf:dt T s c with
 | none=>rw [hf] at h;cases h
 | some op=>rfl
theorem pj {T:List OpR} {s:ByteArray} (d:bF T=true) (h:kN T s=false) (c:Int):has T s c=false:=by
 cases hh:has T s c
 ·rfl
 ·exfalso
  obtain ⟨a,b,_,_⟩:=vO (AW hh)
  unfold kN at h
  rw [d,di,List.any_eq_false] at h
  have:=h _ a
  unfold isNm at this
  rw [b] at this
  simp at this
def bl (l:List ByteArray):List (List UInt8):=l.map fun b=>b.data.toList
theorem fw (a b:List ByteArray):bl (a++b)=bl a++bl b:=List.map_append
theorem bQ (a:ByteArray) (b:List ByteArray):bl (a::b)=a.data.toList::bl b:=rfl
theorem ga:bl []=[]:=rfl
def NOk (t:Tm):Prop:=dH t=true /\ -9223372036854775808<=t.num/\t.num<=9223372036854775807
structure Cx (o:WO) (T:List OpR) (S:Tm->WR) (E:RE) (ρ:Int->Int):Prop where
 q:o.q=true
 nu:o.nu=false
 val:bF T=true
 ops:E.P=T
 st:∀t:Tm,Tm.All NOk t->t.kind=3->S t=mx o T S t
 var:∀i,i<E.T.length->∀u:Int,(E.at i).r.kind=3->(E.at i).r.text=pV u->((cq E.T i).num (pV u):Int)=ρ u
theorem NOk.kinds {t:Tm} (h:NOk t):t.kind=0\/t.kind=1\/t.kind=2\/t.kind=3:=by
 have h:=h.1
 unfold dH at h
 by_cases a:t.kind=0
 ·exact .inl a
 by_cases b:t.kind=1
 ·exact .inr (.inl b)
 by_cases c:t.kind=2
 ·exact .inr (.inr (.inl c))
 by_cases d:t.kind=3
 ·exact .inr (.inr (.inr d))
 rw [if_neg a,if_neg b,if_neg c,if_neg d] at h
 cases h
theorem uD {s:ByteArray} {l:List UInt8} (h:s.toList=l):s=⟨l.toArray⟩:=by
 rw [Lib.toList_data] at h
 apply ByteArray.ext
 rw [<-h]
theorem ib (s:ByteArray):(⟨s.data.toList.toArray⟩:ByteArray)=s:=by
 apply ByteArray.ext;simp
theorem NOk.var {t:Tm} (h:NOk t) (k:t.kind=0):0<=t.num/\t.num<=1099511627776/\t.name=⟨#[]⟩/\t.args=[]:=by
 have h:=h.1
 unfold dH at h
 rw [if_pos k] at h
 simp only [aE,decide_eq_true_iff,beq_iff_eq] at h
 exact ⟨h.1.1.1,h.1.1.2,uD h.1.2,ez.1 h.2⟩
theorem NOk.int {t:Tm} (h:NOk t) (k:t.kind=1):t.name=⟨#[]⟩/\t.args=[]:=by
 have h:=h.1
 unfold dH at h
 rw [if_neg (by omega),if_pos k] at h
 simp only [aE,beq_iff_eq] at h
 exact ⟨uD h.1,ez.1 h.2⟩
theorem NOk.atom {t:Tm} (h:NOk t) (k:t.kind=2):t.num=0/\t.name.data.toList.length<=100/\t.args=[]:=by
 have h:=h.1
 unfold dH at h
 rw [if_neg (by omega),if_neg (by omega),if_pos k] at h
 simp only [aE,decide_eq_true_iff,beq_iff_eq] at h
 exact ⟨h.1.1,h.1.2,ez.1 h.2⟩
theorem NOk.str {t:Tm} (h:NOk t) (k:t.kind=3):t.num=0/\t.name.data.toList.length<=100/\0<t.args.length/\t.args.length<=8:=by
 have h:=h.1
 unfold dH at h
 rw [if_neg (by omega),if_neg (by omega),if_neg (by omega),if_pos k] at h
 simp only [aE,decide_eq_true_iff,beq_iff_eq] at h
 exact ⟨h.1.1.1,h.1.1.2,h.1.2,h.2⟩
theorem GC {ρ:Int->Int} {t:Tm} (h:NOk t) (k:t.kind=0):fT ρ t=KX (ρ t.num):=by
 obtain ⟨_,_,a,b⟩:=h.var k
 rw [jz,k,a,b,if_pos rfl];rfl
theorem GF {ρ:Int->Int} {t:Tm} (h:NOk t) (k:t.kind=1):fT ρ t=Cw t.num:=by
 obtain ⟨a,b⟩:=h.int k
 rw [jz,k,a,b,if_neg (by decide)];rfl
theorem xe {ρ:Int->Int} {t:Tm} (h:NOk t) (k:t.kind=2):fT ρ t=yB t.name:=by
 obtain ⟨a,_,b⟩:=h.atom k
 rw [jz,k,a,b,if_neg (by decide)];rfl
theorem lX {ρ:Int->Int} {t:Tm} (h:NOk t) (k:t.kind=3):fT ρ t=mw t.name (t.args.map (fT ρ)):=by
 obtain ⟨a,_⟩:=h.str k
 rw [jz,k,a,if_neg (by decide)];rfl
def Nx (E:RE) (m:Nat):Prop:=opn (E.at m)=false/\¬(E.at m).r.kind=4
theorem PuTk.nx {E:RE} {m:Nat} {c:UInt8} (h:PuTk (E.at m) c) (a:¬c=40):Nx E m:=by
 refine ⟨?_,by rw [h.1];decide⟩
 unfold opn
 rw [h.notP a];rfl
theorem NmTk.nx {E:RE} {m:Nat} {s:List UInt8} (h:NmTk (E.at m) s):Nx E m:=by
 refine ⟨h.opn,?_⟩
 rcases h.1 with h | h
 ·rw [h];decide
 ·rw [h.1];decide
theorem PuTk.alone {E:RE} {m:Nat} {c:UInt8} (h:PuTk (E.at m) c) (a:¬c=40/\¬c=91/\¬c=123):gc E m=true:=by
 unfold gc
 rw [if_neg (by rw [h.1];decide),if_pos h.1,h.2]
 simp [a]
theorem PuTk.stop {E:RE} {m:Nat} {c:UInt8} {L:Int} (h:PuTk (E.at m) c) (b:¬c=44/\¬c=124):Stop E m L:=by
 intro a
 unfold gA at a
 simp only at a
 rw [h.notNam,h.notP b.1,h.notP b.2,if_pos (by rfl)] at a
 cases a
theorem Aq {E:RE} {m:Nat} {c:UInt8} (h:PuTk (E.at m) c) (f:c=44\/c=124):Stop E m 999:=by
 intro d
 have o:(E.at m).txt=⟨#[c]⟩:=by unfold NextR.txt;rw [h.2]
 unfold gA at d |-
 simp only at d |-
 have n:(!fH (E.at m)&&(!isP (E.at m) [44] && !isP (E.at m) [124]))=false:=by
  rcases f with rfl|rfl
  ·rw [h.isP];simp
  ·rw [h.isP];simp
 rw [n,if_neg (by simp)] at d |-
 have g:∀k op,dt E.P (E.at m).txt k=some op->999<op.prec:=by
  intro k op b
  obtain ⟨_,a,_,i⟩:=vO b
  rw [o] at a
  obtain ⟨_,_,_,_,j,l⟩:=xG i
  have e:(⟨#[c]⟩:ByteArray).toList=[c]:=by rw [Lib.toList_data]
  rw [e] at a
  rcases f with rfl|rfl
  ·have:=(j a).2;omega
  ·have:=(l a).2;omega
 by_cases a:kQ E.P (E.at m).txt 2=true
 ·rw [if_pos a]
  unfold kQ at a
  cases b:dt E.P (E.at m).txt 2 with
  | none=>rw [b] at a;cases a
  | some op=>exact g 2 op b
 ·rw [if_neg a] at d |-
  unfold kQ at d
  cases b:dt E.P (E.at m).txt 3 with
  | none=>simp only [b] at d;cases d
  | some op=>exact g 3 op b
inductive Hd:List UInt8->Prop
 | br (c:UInt8) (h:c=40\/c=91\/c=123):Hd [c]
 | nm (s:List UInt8) (h:s.length<=100):Hd (gq s)
 | nat (u:Nat) (h:u<=9223372036854775807):Hd (pI u)
 | neg (u:Nat) (h0:0<u) (h:u<=9223372036854775808):Hd (pI (-(u:Int)))
 | var (u:Nat) (h:u<=9223372036854775807):Hd (pV u)
theorem JC {n:Int} (h:-9223372036854775808<=n/\n<=9223372036854775807):Hd (pI n):=by
 by_cases a:0<=n
 ·have e:n=(n.toNat:Int):=by omega
  rw [e];exact .nat _ (by omega)
 ·have e:n=-((-n).toNat:Int):=by omega
  rw [e];exact .neg _ (by omega) (by omega)
def JG (p:List UInt8):Bool:=match p with | d::_=>decide (48<=d.toNat)&&decide (d.toNat<=57) | []=>false
theorem Hd.facts {E:RE} {i:Nat} {p:List UInt8} {l:List (List UInt8)} (o:Hd p) (h:Sp E i (p::l)) :
  isP (E.at i) [93]=false/\isP (E.at i) [125]=false/\(isP (E.at i) [40]=true->p=[40])/\((E.at i).r.kind=4->JG p=true):=by
 cases o with
 | br c hc=>
  obtain ⟨b,_⟩:=h.solo (by rcases hc with rfl|rfl|rfl <;> simp)
  refine ⟨b.notP (by rcases hc with rfl|rfl|rfl <;> decide),b.notP (by rcases hc with rfl|rfl|rfl <;> decide),fun a=>?_,fun a=>by rw [b.1] at a;cases a⟩
  by_cases e:c=40
  ·rw [e]
  ·rw [b.notP e] at a;cases a
 | nm s hs=>
  by_cases g:s=[91,93]
  ·subst g
   obtain ⟨b,_⟩:=h.two (.inl ⟨rfl,rfl⟩)
   exact ⟨b.notP (by decide),b.notP (by decide),fun a=>(by rw [b.notP (by decide)] at a;cases a),fun a=>by rw [b.1] at a;cases a⟩
  by_cases j:s=[123,125]
  ·subst j
   obtain ⟨b,_⟩:=h.two (.inr ⟨rfl,rfl⟩)
   exact ⟨b.notP (by decide),b.notP (by decide),fun a=>(by rw [b.notP (by decide)] at a;cases a),fun a=>by rw [b.1] at a;cases a⟩
  obtain ⟨b,_⟩:=h.name hs g j
  exact ⟨b.notP _,b.notP _,fun a=>(by rw [b.notP] at a;cases a),fun a=>absurd a b.nx.2⟩
 | nat u hu=>
  obtain ⟨b,_,_⟩:=h.nat hu
  have f:∀x,isP (E.at i) x=false:=fun x=>by unfold isP;rw [b];rfl
  refine ⟨f _,f _,fun a=>(by rw [f] at a;cases a),fun _=>?_⟩
  obtain ⟨_,e,_⟩:=vw u hu
  obtain ⟨d,r,n,k,m⟩:=pt u
  rw [e,n]
  show (decide (48<=d.toNat)&&decide (d.toNat<=57))=true
  rw [decide_eq_true k,decide_eq_true m];rfl
 | neg u h0 hu=>
  obtain ⟨b,_⟩:=h.neg h0 hu
  exact ⟨b.notP _,b.notP _,fun a=>(by rw [b.notP] at a;cases a),fun a=>absurd a b.nx.2⟩
 | var u hu=>
  obtain ⟨b,_,_⟩:=h.var hu
  have f:∀x,isP (E.at i) x=false:=fun x=>by unfold isP;rw [b];rfl
  exact ⟨f _,f _,fun a=>(by rw [f] at a;cases a),fun a=>by rw [b] at a;cases a⟩
theorem Jb {E:RE} {i:Nat} {p:List UInt8} {l:List (List UInt8)} (b:¬p=[32]) (h:Sg E i (iQ [] true (p::l))):(E.at i).lay=true:=by
 rw [go b,Bool.true_or] at h
 have a:=wQ p
 unfold iw at h
 cases hs:eB p with
 | nil=>exact absurd hs a
 | cons t r=>
  rw [hs] at h
  exact h.1.2.2.2
section
variable {o:WO} {T:List OpR} {S:Tm->WR} {E:RE} {ρ:Int->Int}
theorem ww (n:Int):(s1 95++kV n).data.toList=pV n:=by
 show (s1 95++kV n).data.toList=95::gQ n
 unfold s1 kV
 simp
theorem mT (a:Cx o T S E ρ) (s:ByteArray):(jo o s).data.toList=gq s.data.toList:=by
 unfold jo
 rw [if_pos a.q]
theorem qP (l:List ByteArray):brk l true=s1 40::(l++[s1 41]):=by unfold brk;rw [if_pos rfl]
theorem qQ (l:List ByteArray):brk l false=l:=by unfold brk;rw [if_neg (by simp)]
def HdL (l:List ByteArray):Prop:=∃p r,l=p::r/\Hd p.data.toList
theorem HdL.app {l k:List ByteArray} (h:HdL l):HdL (l++k):=by
 obtain ⟨p,r,rfl,h⟩:=h
 exact ⟨p,r++k,rfl,h⟩
theorem HdL.brk {l:List ByteArray} {b:Bool} (h:HdL l):HdL (brk l b):=by
 cases b
 ·rw [qQ];exact h
 ·rw [qP];exact ⟨_,_,rfl,.br 40 (.inl rfl)⟩
theorem qe (f:Cx o T S E ρ) {t:Tm} (h:NOk t) (k:t.kind=3->HdL (S t).1) (m:Int) (b:Bool):HdL (bo o T S t m b):=by
 unfold bo
 by_cases a:t.kind=0
 ·rw [if_pos a]
  obtain ⟨g,i,_⟩:=h.var a
  have e:t.num=(t.num.toNat:Int):=by omega
  exact ⟨_,_,rfl,by rw [ww,e];exact .var _ (by omega)⟩
 rw [if_neg a]
 by_cases d:t.kind=1
 ·rw [if_pos d]
  exact ⟨_,_,rfl,by rw [uo];exact JC h.2⟩
 rw [if_neg d]
 by_cases c:t.kind=2
 ·rw [if_pos c]
  exact HdL.brk ⟨_,_,rfl,by rw [mT f];exact .nm _ (h.atom c).2.1⟩
 rw [if_neg c]
 have j:=h.kinds
 exact HdL.brk (k (by omega))
theorem yc (a:Cx o T S E ρ) {t:Tm} (h:NOk t) (k:t.kind=3->HdL (S t).1) (op:OpR):HdL (dC o T S t op):=by
 unfold dC
 by_cases c:t.kind=3
 ·rw [if_pos c];exact HdL.brk (k c)
 ·rw [if_neg c];exact qe a h k _ _
def AL (T:List OpR) (E:RE) (l:List ByteArray):Prop:=∀i r,Sp E i (bl l++r)->pW T (hd l)=false->gc E i=false
theorem lU {i:Nat} {c:UInt8} (h:PuTk (E.at i) c) (a:c=40\/c=91\/c=123):gc E i=false:=by
 unfold gc
 rw [if_neg (by rw [h.1];decide),if_pos h.1,h.2]
 rcases a with rfl|rfl|rfl <;> decide
theorem Bf {i:Nat} (h:(E.at i).r.kind=3\/(E.at i).r.kind=4):gc E i=false:=by
 have a:fH (E.at i)=false:=by
  unfold fH
  rcases h with h | h <;> rw [h] <;> rfl
 unfold gc
 rw [if_neg (by omega),if_neg (by omega),a]
 simp
theorem pB {i:Nat} {s:List UInt8} (h:NmTk (E.at i) s) (a:kQ E.P ⟨s.toArray⟩ 1=true\/(kQ E.P ⟨s.toArray⟩ 2=false/\kQ E.P ⟨s.toArray⟩ 3=false)\/opn (E.at (i+1))=true):gc E i=false:=by
 have b:¬(E.at i).r.kind=7/\¬(E.at i).r.kind=6:=by
  rcases h.1 with h | h
  ·rw [h];decide
  ·rw [h.1];decide
 unfold gc
 rw [if_neg b.1,if_neg b.2,h.nam,h.txt]
 rcases a with a | a | a
 ·rw [a];simp
 ·rw [a.1,a.2];simp
 ·rw [a];simp
theorem AL.brk {l:List ByteArray} {b:Bool} (h:AL T E l):AL T E (brk l b):=by
 cases b
 ·rw [qQ];exact h
 ·rw [qP]
  intro i r a _
  rw [bQ,ai] at a
  exact lU (a.solo (.inl rfl)).1 (.inl rfl)
theorem AL.app {l k:List ByteArray} (b:HdL l) (h:AL T E l):AL T E (l++k):=by
 intro i r a c
 rw [fw,bG] at a
 obtain ⟨p,x,rfl,_⟩:=b
 exact h i _ a c
theorem mU {i:Nat} {s:List UInt8} {l:List (List UInt8)} (e:s.length<=100) (h:Sp E i (gq s::l)) :
  (∃a b,((a=91/\b=93)\/(a=123/\b=125))/\s=[a,b]/\PuTk (E.at i) a/\PuTk (E.at (i+1)) b/\Sg E (i+2) (iQ [a,b] false l))\/(¬s=[91,93]/\¬s=[123,125]/\NmTk (E.at i) s/\Sg E (i+1) (iQ (gq s) false l)):=by
 by_cases c:s=[91,93]
 ·subst c
  exact .inl ⟨91,93,.inl ⟨rfl,rfl⟩,rfl,h.two (.inl ⟨rfl,rfl⟩)⟩
 by_cases d:s=[123,125]
 ·subst d
  exact .inl ⟨123,125,.inr ⟨rfl,rfl⟩,rfl,h.two (.inr ⟨rfl,rfl⟩)⟩
 exact .inr ⟨c,d,h.name e c d⟩
theorem Iq (c:Cx o T S E ρ) {s:ByteArray} (g:s.data.toList.length<=100) (e:kN T s=false):AL T E [jo o s]:=by
 intro i r h _
 rw [bQ,mT c,ai] at h
 rcases mU g h with ⟨a,b,f,_,d,_⟩ | ⟨_,_,d,_⟩
 ·exact lU d (by rcases f with h | h <;> simp [h])
 ·refine pB d (.inr (.inl ?_))
  rw [ib,c.ops]
  exact ⟨pj c.val e 2,pj c.val e 3⟩
theorem Ib (u:Nat):mr (kV (-(u:Int))) 1=true\/u=0:=by
 by_cases b:u=0
 ·exact .inr b
 ·left
  have e:(kV (-(u:Int))).data.toList=45::aP u:=by
   rw [uo];unfold pI gQ;rw [if_pos (by omega)];simp
  obtain ⟨d,r,a,g,h⟩:=pt u
  have f:(kV (-(u:Int))).size=r.length+2:=by
   rw [<-ByteArray.size_data,<-Array.length_toList,e,a];rfl
  unfold mr
  rw [e,a,f,decide_eq_true (by omega)]
  have c:ie (45::d::r) 1=(d.toNat:Int):=rfl
  rw [c,decide_eq_true (by omega),decide_eq_true (by omega)];rfl
theorem JW (c:Cx o T S E ρ) {n:Int} (h:-9223372036854775808<=n/\n<=9223372036854775807):AL T E [kV n]:=by
 intro i r b a
 rw [bQ,uo,ai] at b
 by_cases j:0<=n
 ·have e:n=(n.toNat:Int):=by omega
  rw [e] at b
  exact Bf (.inr (b.nat (by omega)).1)
 ·have e:n=-((-n).toNat:Int):=by omega
  rw [e] at b
  obtain ⟨d,_⟩:=b.neg (by omega) (by omega)
  have hd:mr (kV n) 1=true:=by
   rcases Ib (-n).toNat with hd | hd
   ·rw [<-e] at hd;exact hd
   ·omega
  refine pB d ?_
  have f:ie (kV n).data.toList 0=45:=by
   rw [uo];unfold pI gQ;rw [if_pos (by omega)];rfl
  have g:0<(kV n).size:=by
   unfold mr at hd
   simp only [aE,decide_eq_true_iff] at hd
   omega
  change pW T (kV n)=false at a
  unfold pW at a
  rw [decide_eq_true g,f,hd] at a
  simp only [beq_self_eq_true,di,fW,Bool.or_eq_false_iff,Bool.not_eq_false'] at a
  rw [c.ops]
  rcases a with a | a
  ·exact .inr (.inl a)
  ·exact .inl a
theorem yE (g:Cx o T S E ρ) {t:Tm} (h:NOk t) (k:t.kind=3->AL T E (S t).1) (m:Int):AL T E (bo o T S t m true):=by
 unfold bo
 by_cases c:t.kind=0
 ·rw [if_pos c]
  obtain ⟨j,l,_⟩:=h.var c
  have e:t.num=(t.num.toNat:Int):=by omega
  intro i r a _
  rw [bQ,ww,e,ai] at a
  exact Bf (.inl (a.var (by omega)).1)
 rw [if_neg c]
 by_cases f:t.kind=1
 ·rw [if_pos f]
  exact JW g h.2
 rw [if_neg f]
 by_cases d:t.kind=2
 ·rw [if_pos d,di]
  by_cases b:kN T t.name=true
  ·rw [b,qP]
   intro i r a _
   rw [bQ,ai] at a
   exact lU (a.solo (.inl rfl)).1 (.inl rfl)
  ·rw [Bool.not_eq_true] at b
   rw [b,qQ]
   exact Iq g (h.atom d).2.1 b
 rw [if_neg d]
 have n:=h.kinds
 exact AL.brk (k (by omega))
theorem Bg (a:Cx o T S E ρ) {t:Tm} (h:NOk t) (k:t.kind=3->AL T E (S t).1) (op:OpR):AL T E (dC o T S t op):=by
 unfold dC
 by_cases c:t.kind=3
 ·rw [if_pos c];exact AL.brk (k c)
 ·rw [if_neg c];exact yE a h k _
theorem sB (a:Cx o T S E ρ) (t:Tm):iD o t=false:=by unfold iD;rw [a.nu];rfl
theorem zN (e:Cx o T S E ρ):∀t:Tm,Tm.All NOk t->t.kind=3->HdL (S t).1/\AL T E (S t).1:=Tm.ind fun t J p G=>by
 have I:=p.here
 obtain ⟨_,w,H,_⟩:=I.str G
 have D:∀j,j<t.args.length->NOk (t.arg j)/\((t.arg j).kind=3->HdL (S (t.arg j)).1/\AL T E (S (t.arg j)).1):=by
  intro j F
  rw [Tm.arg_get t j F]
  have v:=aQ F
  exact ⟨(p.sub _ v).here,J _ v (p.sub _ v)⟩
 have x:∀(c:UInt8) (l:List ByteArray),c=40\/c=91\/c=123->HdL (s1 c::l)/\AL T E (s1 c::l):=by
  intro c l u
  refine ⟨⟨_,_,rfl,.br c u⟩,fun i r f _=>?_⟩
  rw [bQ,ai] at f
  exact lU (f.solo (by rcases u with rfl|rfl|rfl <;> simp)).1 u
 have C:Hd (jo o t.name).data.toList:=by rw [mT e];exact .nm _ w
 rw [e.st t p G]
 unfold mx
 rw [sB e,if_neg (by simp)]
 by_cases y:(t.isNm [46]&&t.args.length==2)=true
 ·rw [if_pos y];exact x 91 _ (.inr (.inl rfl))
 rw [if_neg y]
 by_cases z:(!o.ig&&(t.isNm [123,125]&&t.args.length==1))=true
 ·rw [if_pos z];exact x 123 _ (.inr (.inr rfl))
 rw [if_neg z]
 by_cases A:(!o.ig&&(has T t.name 2&&t.args.length==2))=true
 ·rw [if_pos A]
  obtain ⟨d,g⟩:=D 0 H
  have m:=yc e d (fun k=>(g k).1) (cQ T t.name 2)
  have q:=Bg e d (fun k=>(g k).2) (cQ T t.name 2)
  exact ⟨m.app.app,AL.app m.app (AL.app m q)⟩
 rw [if_neg A]
 by_cases n:(!o.ig&&(has T t.name 1&&t.args.length==1))=true
 ·rw [if_pos n]
  refine ⟨⟨_,_,rfl,C⟩,fun i r f _=>?_⟩
  rw [bQ,mT e,ai] at f
  simp only [aE] at n
  rcases mU w f with ⟨a,b,s,_,d,_⟩ | ⟨_,_,d,_⟩
  ·exact lU d (by rcases s with h | h <;> simp [h])
  ·refine pB d (.inl ?_)
   rw [ib,e.ops];exact n.2.1
 rw [if_neg n]
 by_cases B:(!o.ig&&(has T t.name 3&&t.args.length==1))=true
 ·rw [if_pos B]
  obtain ⟨d,g⟩:=D 0 H
  have m:=yc e d (fun k=>(g k).1) (cQ T t.name 3)
  have q:=Bg e d (fun k=>(g k).2) (cQ T t.name 3)
  exact ⟨m.app,AL.app m q⟩
 rw [if_neg B]
 refine ⟨⟨_,_,rfl,C⟩,fun i r f _=>?_⟩
 rw [bQ,mT e,ai,bQ] at f
 rcases mU w f with ⟨a,b,s,_,d,_⟩ | ⟨_,_,d,g⟩
 ·exact lU d (by rcases s with h | h <;> simp [h])
 ·exact pB d (.inr (.inr (uQ g).1))
end
section
variable {o:WO} {T:List OpR} {S:Tm->WR} {E:RE} {ρ:Int->Int}
def Dg (E:RE) (ρ:Int->Int) (t:Tm) (l:List ByteArray) (op:OpR):Prop :=
 ∀(i f:Nat) (most:Int) (r:List (List UInt8)),Sp E i (bl l++r)->i+tl (bl l)<E.T.length->tl (bl l)<=f->Nx E (i+tl (bl l))->op.prec<=most ->
  (cO op.typ=1\/cO op.typ=2->Stop E (i+tl (bl l)) (dv op))->Rch E f most i (fT ρ t) op.prec (i+tl (bl l))
def Kf (E:RE) (ρ:Int->Int) (t:Tm) (l:List ByteArray) (max:Int) (a:Bool):Prop :=
 ∀(i f:Nat) (r:List (List UInt8)),Sp E i (bl l++r)->i+tl (bl l)<E.T.length->tl (bl l)<=f->Nx E (i+tl (bl l))->Stop E (i+tl (bl l)) max->(a=false->gc E (i+tl (bl l))=true) ->
  ∃p,ly E (f+1) max i=.ok (fT ρ t,p,i+tl (bl l))
theorem kF:tl []=0:=rfl
theorem uK (l:List ByteArray):tl (bl (s1 40::(l++[s1 41])))=tl (bl l)+2:=by
 rw [bQ,fw,show (s1 40).data.toList=[40] from rfl,iB (.inl rfl),kh,bQ,show (s1 41).data.toList=[41] from rfl,iB (.inr (.inl rfl)),ga,kF]
 omega
theorem rS {t:Tm} {l:List ByteArray} (h:Kf E ρ t l 1200 false) {i f:Nat} {r:List (List UInt8)} {most:Int} (d:Sp E i (bl (s1 40::(l++[s1 41]))++r)) (k:i+tl (bl (s1 40::(l++[s1 41])))<E.T.length) (j:tl (bl (s1 40::(l++[s1 41])))<=f) :
  Rch E f most i (fT ρ t) 0 (i+tl (bl (s1 40::(l++[s1 41])))):=by
 rw [uK] at k j |-
 rw [bQ,fw,ai,bG] at d
 obtain ⟨e,b⟩:=d.solo (.inl rfl)
 obtain ⟨_,c⟩:=b.app
 rw [bQ,ai] at c
 obtain ⟨a,_⟩:=c.solo (.inr (.inl rfl))
 obtain ⟨f,rfl⟩:∃g,f=g+1:=⟨f-1,by omega⟩
 obtain ⟨p,m⟩:=h (i+1) f _ b (by omega) (by omega) (a.nx (by decide)) (a.stop (by decide)) (fun _=>a.alone (by decide))
 have:=GV (most:=most) e m a.isP
 rw [show i+1+tl (bl l)+1=i+(tl (bl l)+2) by omega] at this
 exact Rch.opd this (by omega)
theorem kl (j:Cx o T S E ρ) {t:Tm} (h:NOk t) (k:t.kind=2) {i f:Nat} {r:List (List UInt8)} {most:Int} (n:Sp E i (bl [jo o t.name]++r)) (d:Nx E (i+tl (bl [jo o t.name]))) (c:gc E (i+tl (bl [jo o t.name]))=true\/has T t.name 1=false) :
  Rch E f most i (fT ρ t) 0 (i+tl (bl [jo o t.name])):=by
 obtain ⟨_,m,_⟩:=h.atom k
 rw [bQ,mT j,ga] at d c |-
 rw [bQ,mT j,ga,ai] at n
 rw [xe h k]
 rcases mU m n with ⟨a,b,l,e,g,q,_⟩ | ⟨u,v,g,_⟩
 ·rw [e,uJ l,kF] at d c |-
  have:=vD (S:=ly E f) (most:=most) l g q d.1
  have p:(⟨#[a,b]⟩:ByteArray)=t.name:=by
   rw [<-ib t.name,e]
  rw [p] at this
  exact Rch.opd this (by omega)
 ·rw [np m u v,kF] at d c |-
  have s:zc E (E.at i) most (i+1)=false:=by
   unfold zc
   rw [g.txt,ib,j.ops]
   rcases c with c | c
   ·rw [show i+1=i+(1+0) from rfl,c];simp
   ·rw [show kQ T t.name 1=false from c];rfl
  have:=EJ (S:=ly E f) (most:=most) g d.1 d.2 s
  rw [ib] at this
  exact Rch.opd this (by omega)
theorem Eh (g:Cx o T S E ρ) {t:Tm} (h:NOk t) (k:t.kind=0) {i f:Nat} {r:List (List UInt8)} {most:Int} (a:Sp E i (bl [s1 95++kV t.num]++r)) (d:i+tl (bl [s1 95++kV t.num])<E.T.length) :
  Rch E f most i (fT ρ t) 0 (i+tl (bl [s1 95++kV t.num])):=by
 obtain ⟨l,m,_⟩:=h.var k
 have e:t.num=(t.num.toNat:Int):=by omega
 rw [bQ,ww,ga] at d |-
 rw [bQ,ww,ga,ai] at a
 rw [e,DD (by omega),kF] at d |-
 rw [e] at a
 obtain ⟨b,c,_⟩:=a.var (by omega)
 have j:=g.var i (by omega) _ b c
 have:=GT (S:=ly E f) (most:=most) b
 rw [c,j,<-e,<-GC h k] at this
 exact Rch.opd this (by omega)
theorem Ej {t:Tm} (h:NOk t) (k:t.kind=1) {i f:Nat} {r:List (List UInt8)} {most:Int} (a:Sp E i (bl [kV t.num]++r)) :
  Rch E f most i (fT ρ t) 0 (i+tl (bl [kV t.num])):=by
 rw [bQ,uo,ga] at a |-
 rw [ai] at a
 rw [GF h k]
 have m:=h.2
 by_cases l:0<=t.num
 ·have e:t.num=(t.num.toNat:Int):=by omega
  rw [e] at a |-
  obtain ⟨b,c,_⟩:=a.nat (by omega)
  rw [DG (by omega),kF]
  have:=GX (S:=ly E f) (most:=most) b (by omega)
  rw [c] at this
  exact Rch.opd this (by omega)
 ·have e:t.num=-((-t.num).toNat:Int):=by omega
  rw [e] at a |-
  obtain ⟨b,c,d,g,_⟩:=a.neg (by omega) (by omega)
  rw [DF (by omega) (by omega),kF]
  have:=GW (S:=ly E f) (most:=most) b c g
  have j:(if (E.at (i+1)).r.n=-9223372036854775808 then (E.at (i+1)).r.n else -(E.at (i+1)).r.n)=-((-t.num).toNat:Int):=by
   rw [d]
   unfold KY
   split <;> split <;> omega
  rw [j] at this
  exact Rch.opd this (by omega)
theorem Rch.fin {f:Nat} {max:Int} {i:Nat} {t:Tm} {p:Int} {m:Nat} (h:Rch E f max i t p m) (b:m<E.T.length) (a:Stop E m max):∃p,ly E (f+1) max i=.ok (t,p,m):=⟨p,h.done (by omega) a⟩
def OpFitQ (op:OpR):Prop:=op=op0\/(1<=op.prec/\op.prec<=1200)
theorem OpFitQ.le {op:OpR} (h:OpFitQ op):op.prec<=1200/\dv op<=op.prec/\0<=op.prec:=by
 rcases h with rfl | h
 ·decide
 ·have:=uP h;omega
theorem mQ {t:Tm} (h:NOk t) (max:Int) (a:Bool) :
  (t.kind=0/\bo o T S t max a=[s1 95++kV t.num])\/(t.kind=1/\bo o T S t max a=[kV t.num]) \/
  (t.kind=2/\((bo o T S t max a=[jo o t.name]/\(a=false\/kN T t.name=false))\/bo o T S t max a=s1 40::([jo o t.name]++[s1 41]))) \/
  (t.kind=3/\((bo o T S t max a=(S t).1/\(S t).2.prec<=max)\/bo o T S t max a=s1 40::((S t).1++[s1 41]))):=by
 unfold bo
 by_cases b:t.kind=0
 ·rw [if_pos b];exact .inl ⟨b,rfl⟩
 rw [if_neg b]
 by_cases c:t.kind=1
 ·rw [if_pos c];exact .inr (.inl ⟨c,rfl⟩)
 rw [if_neg c]
 by_cases d:t.kind=2
 ·rw [if_pos d]
  refine .inr (.inr (.inl ⟨d,?_⟩))
  cases hb:(a&&kN T t.name)
  ·rw [qQ]
   exact .inl ⟨rfl,(fW.1 hb)⟩
  ·rw [qP];exact .inr rfl
 rw [if_neg d]
 refine .inr (.inr (.inr ⟨by have:=h.kinds;omega,?_⟩))
 cases hb:decide (max<(S t).2.prec)
 ·rw [qQ]
  rw [decide_eq_false_iff_not] at hb
  exact .inl ⟨rfl,by omega⟩
 ·rw [qP];exact .inr rfl
theorem uc (n:Cx o T S E ρ) {t:Tm} (h:NOk t) (k:t.kind=3->Dg E ρ t (S t).1 (S t).2/\OpFitQ (S t).2) {max s:Int} (x:max<=s) {u opd':Bool} (w:opd'=true->u=true):Kf E ρ t (bo o T S t max u) s opd':=by
 intro i f r d a j l b m
 rcases mQ (o:=o) (T:=T) (S:=S) h max u with ⟨c,e⟩ | ⟨c,e⟩ | ⟨c,⟨e,g⟩ | e⟩ | ⟨c,⟨e,g⟩ | e⟩ <;> rw [e] at d a j l b m |-
 ·exact (Eh n h c d a).fin a b
 ·exact (Ej h c d).fin a b
 ·refine (kl n h c d l ?_).fin a b
  rcases g with g | g
  ·refine .inl (m ?_)
   cases opd'
   ·rfl
   ·rw [w rfl] at g;cases g
  ·exact .inr (pj n.val g 1)
 ·refine (rS (fun i f r d a j l b m=>?_) d a j).fin a b
  exact (kl n h c d l (.inl (m rfl))).fin a b
 ·obtain ⟨p,q⟩:=k c
  have v:=q.le
  exact (p i f s r d a j l (by omega) (fun _=>b.mono (by omega))).fin a b
 ·obtain ⟨p,q⟩:=k c
  have v:=q.le
  refine (rS (fun i f r d a j l b m=>?_) d a j).fin a b
  exact (p i f 1200 r d a j l (by omega) (fun _=>b.mono (by omega))).fin a b
theorem lH (a:Cx o T S E ρ) {t:Tm} (h:NOk t) (k:t.kind=3->Dg E ρ t (S t).1 (S t).2/\OpFitQ (S t).2) (max:Int) (opd:Bool):Kf E ρ t (bo o T S t max opd) max opd:=uc a h k (Int.le_refl _) id
theorem zH {t:Tm} (h:NOk t) (op:OpR) :
  (t.kind=0/\dC o T S t op=[s1 95++kV t.num])\/(t.kind=1/\dC o T S t op=[kV t.num]) \/
  (t.kind=2/\((dC o T S t op=[jo o t.name]/\kN T t.name=false)\/dC o T S t op=s1 40::([jo o t.name]++[s1 41]))) \/
  (t.kind=3/\((dC o T S t op=(S t).1/\(S t).2.prec<=fX op/\¬(((op.typ=3\/op.typ=7)/\((S t).2.typ=2\/(S t).2.typ=4))/\(S t).2.prec=op.prec))\/dC o T S t op=s1 40::((S t).1++[s1 41]))):=by
 by_cases b:t.kind=3
 ·refine .inr (.inr (.inr ⟨b,?_⟩))
  unfold dC
  rw [if_pos b]
  cases a:(decide (fX op<(S t).2.prec)||((op.typ==3||op.typ==7)&&((S t).2.typ==2||(S t).2.typ==4))&&(S t).2.prec==op.prec)
  ·rw [qQ]
   rw [Bool.or_eq_false_iff,decide_eq_false_iff_not] at a
   refine .inl ⟨rfl,by omega,fun f=>?_⟩
   have d:=a.2
   rw [<-Bool.not_eq_true] at d
   apply d
   simp only [aE,gi,beq_iff_eq]
   exact f
  ·rw [qP];exact .inr rfl
 ·have e:dC o T S t op=bo o T S t (fX op) true:=by unfold dC;rw [if_neg b]
  rw [e]
  rcases mQ (o:=o) (T:=T) (S:=S) h (fX op) true with h | h | ⟨c,⟨h,a⟩ | h⟩ | h
  ·exact .inl h
  ·exact .inr (.inl h)
  ·refine .inr (.inr (.inl ⟨c,.inl ⟨h,?_⟩⟩))
   rcases a with a | a
   ·cases a
   ·exact a
  ·exact .inr (.inr (.inl ⟨c,.inr h⟩))
  ·exact absurd h.1 b
theorem DY {op:OpR} (h:1<=op.prec/\op.prec<=1200) (a:cO op.typ=1\/cO op.typ=2) (b:¬op.typ=2) (c:¬op.typ=4):dv op<op.prec:=by
 have d:op.typ=1\/op.typ=3\/op.typ=5:=by
  rcases a with a | a
  ·rcases Ii a with a | a
   ·exact absurd a c
   ·exact .inr (.inr a)
  ·rcases Ba a with a | a | a
   ·exact .inl a
   ·exact absurd a b
   ·exact .inr (.inl a)
 unfold dv
 rw [if_neg (by omega),if_pos d]
 omega
theorem yQ {op:OpR} (h:1<=op.prec/\op.prec<=1200) (a:fX op=op.prec):op.typ=3\/op.typ=7:=by
 unfold fX at a
 rw [if_neg (by omega)] at a
 split at a
 ·omega
 ·split at a
  ·rename_i b;exact b
  ·omega
theorem AH (j:Cx o T S E ρ) {t:Tm} (h:NOk t) (k:t.kind=3->Dg E ρ t (S t).1 (S t).2/\OpFitQ (S t).2) (op:OpR) (y:1<=op.prec/\op.prec<=1200) {i f:Nat} {most:Int} {r:List (List UInt8)}
  (a:Sp E i (bl (dC o T S t op)++r)) (b:i+tl (bl (dC o T S t op))<E.T.length) (d:tl (bl (dC o T S t op))<=f) (g:Nx E (i+tl (bl (dC o T S t op)))) (x:gA E (i+tl (bl (dC o T S t op)))=(op,true)) (F:op.prec<=most) :
  ∃p,p<=fX op/\Rch E f most i (fT ρ t) p (i+tl (bl (dC o T S t op))):=by
 have G:=uP y
 rcases zH (o:=o) (T:=T) (S:=S) h op with ⟨c,e⟩ | ⟨c,e⟩ | ⟨c,⟨e,q⟩ | e⟩ | ⟨c,⟨e,q,v⟩ | e⟩ <;> rw [e] at a b d g x |-
 ·exact ⟨0,by omega,Eh j h c a b⟩
 ·exact ⟨0,by omega,Ej h c a⟩
 ·exact ⟨0,by omega,kl j h c a g (.inr (pj j.val q 1))⟩
 ·refine ⟨0,by omega,rS (fun i f r a b d g l u=>?_) a b d⟩
  exact (kl j h c a g (.inl (u rfl))).fin b l
 ·obtain ⟨m,n⟩:=k c
  have C:=n.le
  refine ⟨_,q,m i f most r a b d g (by omega) (fun B=>?_)⟩
  intro _
  rw [x]
  show dv (S t).2<op.prec
  by_cases D:(S t).2.prec<op.prec
  ·omega
  ·have w:(S t).2.prec=op.prec:=by omega
   have s:=yQ y (by omega)
   have:=DY (op:=(S t).2) (by omega) B (fun z=>v ⟨⟨s,.inl z⟩,w⟩) (fun A=>v ⟨⟨s,.inr A⟩,w⟩)
   omega
 ·obtain ⟨m,n⟩:=k c
  have C:=n.le
  refine ⟨0,by omega,rS (fun i f r a b d g l u=>?_) a b d⟩
  exact (m i f 1200 r a b d g (by omega) (fun _=>l.mono (by omega))).fin b l
theorem rR (d:Cx o T S E ρ):∀(l:List Tm),¬l=[]->(∀t∈l,Kf E ρ t (cF o T S t) 999 false)->∀(i f:Nat) (r:List (List UInt8)),
  Sp E i (bl (cY (cF o T S) l)++r)->i+tl (bl (cY (cF o T S) l))<E.T.length->tl (bl (cY (cF o T S) l))<=f->Nx E (i+tl (bl (cY (cF o T S) l)))->Stop E (i+tl (bl (cY (cF o T S) l))) 999->gc E (i+tl (bl (cY (cF o T S) l)))=true->isP (E.at (i+tl (bl (cY (cF o T S) l)))) [44]=false ->
  FR E (ly E (f+1)) i (l.map (fT ρ)) (i+tl (bl (cY (cF o T S) l)))
 | [],h,_,_,_,_,_,_,_,_,_,_,_=>absurd rfl h
 | [t],_,hB,i,f,r,hs,hm,hf,a,hst,ha,hc=>by
  have e:cY (cF o T S) [t]=cF o T S t:=by unfold cY;simp
  rw [e] at hs hm hf a hst ha hc |-
  exact ⟨hB t (aJ.2 rfl) i f r hs hm hf a hst (fun _=>ha),hc⟩
 | t::u::l,_,hB,i,f,r,hs,hm,hf,a,hst,ha,hc=>by
  have e:cY (cF o T S) (t::u::l)=cF o T S t++(s1 44::cY (cF o T S) (u::l)):=by unfold cY;simp
  have j:tl (bl (cY (cF o T S) (t::u::l)))=tl (bl (cF o T S t))+(1+tl (bl (cY (cF o T S) (u::l)))):=by
   rw [e,fw,kh,bQ,show (s1 44).data.toList=[44] from rfl,iB (by simp)]
  rw [j] at hm hf a hst ha hc |-
  rw [e,fw,bG] at hs
  obtain ⟨_,c⟩:=hs.app
  rw [bQ,ai] at c
  obtain ⟨b,k⟩:=c.solo (by simp)
  have g:i+tl (bl (cF o T S t))+1+tl (bl (cY (cF o T S) (u::l)))=i+(tl (bl (cF o T S t))+(1+tl (bl (cY (cF o T S) (u::l))))):=by omega
  refine ⟨i+tl (bl (cF o T S t)),hB t (aY ..) i f _ hs (by omega) (by omega) (b.nx (by decide)) (Aq b (.inl rfl)) (fun _=>b.alone (by decide)),b.isP,?_⟩
  have:=rR d (u::l) (by simp) (fun x a=>hB x (List.mem_cons_of_mem _ a)) (i+tl (bl (cF o T S t))+1) f r k
  rw [g] at this
  exact this hm (by omega) a hst ha hc
end
theorem yC {t:Tm} (h:t.args.length=2):t.args=[t.arg 0,t.arg 1]:=by
 obtain ⟨a,b,e⟩:∃a b,t.args=[a,b]:=by
  match t.args,h with
  | [a,b],_=>exact ⟨a,b,rfl⟩
 unfold Tm.arg
 rw [e];rfl
theorem th {t:Tm} (h:t.args.length=1):t.args=[t.arg 0]:=by
 obtain ⟨a,e⟩:∃a,t.args=[a]:=List.length_eq_one_iff.1 h
 unfold Tm.arg
 rw [e];rfl
theorem Fi {l:List ByteArray} (h:HdL l):1<=tl (bl l):=by
 obtain ⟨p,r,rfl,h⟩:=h
 rw [bQ]
 generalize p.data.toList=q at h
 cases h with
 | br c hc=>rw [iB (by rcases hc with rfl|rfl|rfl <;> simp)];omega
 | nm s hs=>
  by_cases a:s=[91,93]
  ·subst a;rw [uJ (.inl ⟨rfl,rfl⟩)];omega
  by_cases b:s=[123,125]
  ·subst b;rw [uJ (.inr ⟨rfl,rfl⟩)];omega
  rw [np hs a b];omega
 | nat u hu=>rw [DG hu];omega
 | neg u h0 hu=>rw [DF h0 hu];omega
 | var u hu=>rw [DD hu];omega
section
variable {o:WO} {T:List OpR} {S:Tm->WR} {E:RE} {ρ:Int->Int}
structure OpN (T:List OpR) (s:ByteArray) (c:Int):Prop where
 fit:1<=(cQ T s c).prec/\(cQ T s c).prec<=1200
 cls:cO (cQ T s c).typ=c
 name:(cQ T s c).name=s
 n1:¬s.data.toList=[91,93]
 n2:¬s.data.toList=[123,125]
 two:s.data.toList=[44]\/s.data.toList=[124]->c=2
 mem:cQ T s c∈T
theorem lq {s:ByteArray} {c:Int} (h:has T s c=true):OpN T s c:=by
 obtain ⟨k,l,a,m⟩:=vO (AW h)
 obtain ⟨b,d,f,g,i,j⟩:=xG m
 have e:(cQ T s c).name.toList=s.data.toList:=by rw [l,Lib.toList_data]
 refine ⟨⟨b,d⟩,a,?_,fun x=>f (e.trans x),fun x=>g (e.trans x),fun x=>?_,k⟩
 ·rw [<-ib s];exact uD e
 ·rcases x with x | x
  ·have:=(i (e.trans x)).1
   rw [this] at a
   rw [<-a];decide
  ·rw [<-a];exact (j (e.trans x)).1
theorem Jv {s:ByteArray} (c:bF T=true) (h:has T s 3=true):has T s 2=false:=by
 cases h2:has T s 2
 ·rfl
 ·exfalso
  have a:=lq h
  have b:=lq h2
  exact xK c _ b.mem _ a.mem (by rw [a.name,b.name]) ⟨b.cls,a.cls⟩
theorem Jm (i:Cx o T S E ρ) {s:ByteArray} (k:s.data.toList.length<=100) (j:has T s 2=true) {m:Nat} {r:List (List UInt8)} (h:Sp E m ((jm o s).data.toList::r)) :
  gA E m=(cQ T s 2,true)/\Nx E m/\Sp E (m+1) r/\tl ((jm o s).data.toList::r)=1+tl r:=by
 have f:=lq j
 have g:(E.at m).txt=s->(fH (E.at m)=true\/isP (E.at m) [44]=true\/isP (E.at m) [124]=true)->gA E m=(cQ T s 2,true):=by
  intro n d
  unfold gA
  simp only
  have l:(!fH (E.at m)&&(!isP (E.at m) [44] && !isP (E.at m) [124]))=false:=by
   rcases d with d | d | d <;> rw [d] <;> simp
  rw [l,if_neg (by simp),n,i.ops,if_pos (show kQ T s 2=true from j)]
  rfl
 unfold jm at h |-
 by_cases c:(s.toList==[44]||s.toList==[124])=true
 ·rw [if_pos c] at h |-
  rw [Lib.toList_data] at c
  simp only [gi,beq_iff_eq] at c
  have e:s.data.toList=[44]\/s.data.toList=[124]:=c
  rcases e with e | e
  ·rw [e] at h |-
   obtain ⟨a,b⟩:=h.solo (by simp)
   exact ⟨g (by unfold NextR.txt;rw [a.2,<-e,ib]) (.inr (.inl a.isP)),a.nx (by decide),b,iB (by simp) r⟩
  ·rw [e] at h |-
   obtain ⟨a,b⟩:=h.solo (by simp)
   exact ⟨g (by unfold NextR.txt;rw [a.2,<-e,ib]) (.inr (.inr a.isP)),a.nx (by decide),b,iB (by simp) r⟩
 ·rw [if_neg c,mT i] at h |-
  obtain ⟨a,b⟩:=h.name k f.n1 f.n2
  exact ⟨g (by rw [a.txt,ib]) (.inl a.nam),a.nx,⟨_,_,b⟩,np k f.n1 f.n2⟩
theorem EH (b:Cx o T S E ρ) {s:ByteArray} (e:s.data.toList.length<=100) (c:has T s 3=true) {m:Nat} {r:List (List UInt8)} (h:Sp E m ((jo o s).data.toList::r)) :
  gA E m=(cQ T s 3,true)/\Nx E m/\tl ((jo o s).data.toList::r)=1+tl r:=by
 have a:=lq c
 rw [mT b] at h |-
 obtain ⟨d,_⟩:=h.name e a.n1 a.n2
 refine ⟨?_,d.nx,np e a.n1 a.n2⟩
 unfold gA
 simp only
 rw [d.nam,d.txt,ib,b.ops,if_neg (by simp),if_neg (by rw [show kQ T s 2=false from Jv b.val c];simp),show kQ T s 3=true from c]
 rfl
theorem Ey {op:OpR} (h:cO op.typ=2):nQ op=false:=by
 unfold nQ
 rcases Ba h with h | h | h <;> rw [h] <;> rfl
theorem ze {op:OpR} (h:cO op.typ=3):nQ op=true:=by
 unfold nQ
 rcases CN h with h | h <;> rw [h] <;> rfl
def Sm (S:Tm->WR) (E:RE) (ρ:Int->Int) (t:Tm):Prop:=∀u:Tm,Tm.All NOk u->u.nodes<t.nodes->NOk u/\(u.kind=3->Dg E ρ u (S u).1 (S u).2/\OpFitQ (S u).2)
theorem rI {t:Tm} (h:Sm S E ρ t) (b:Tm.All NOk t) {j:Nat} (a:j<t.args.length):NOk (t.arg j)/\((t.arg j).kind=3->Dg E ρ (t.arg j) (S (t.arg j)).1 (S (t.arg j)).2/\OpFitQ (S (t.arg j)).2):=by
 refine h _ ?_ (t.nodes_arg j a)
 rw [Tm.arg_get t j a]
 exact b.sub _ (aQ a)
theorem Cd (c:Cx o T S E ρ) {t:Tm} (a:Tm.All NOk t) (k:t.kind=3) (v:Sm S E ρ t) (e:has T t.name 2=true) (F:t.args.length=2) :
  Dg E ρ t ((dC o T S (t.arg 0) (cQ T t.name 2)++[jm o t.name])++bo o T S (t.arg 1) (dv (cQ T t.name 2)) true) (cQ T t.name 2):=by
 have b:=lq e
 have G:=(a.here.str k).2.1
 obtain ⟨N,L⟩:=rI v a (show 0<t.args.length by omega)
 obtain ⟨O,M⟩:=rI v a (show 1<t.args.length by omega)
 intro i f most r d j D u l s
 rw [fw,fw,bG,bG] at d
 obtain ⟨_,n⟩:=d.app
 rw [bQ,ga,ai,am] at n
 obtain ⟨m,H,K,A⟩:=Jm c G e n
 have w:tl (bl ((dC o T S (t.arg 0) (cQ T t.name 2)++[jm o t.name])++bo o T S (t.arg 1) (dv (cQ T t.name 2)) true))=tl (bl (dC o T S (t.arg 0) (cQ T t.name 2)))+(1+tl (bl (bo o T S (t.arg 1) (dv (cQ T t.name 2)) true))):=by
  have y:tl ((jm o t.name).data.toList::[])=1:=by
   have B:=kh [(jm o t.name).data.toList] (bl (bo o T S (t.arg 1) (dv (cQ T t.name 2)) true)++r)
   rw [ai,am,A] at B
   omega
  rw [fw,fw,kh,kh,bQ,ga,y]
  omega
 rw [w] at j D u s |-
 obtain ⟨f,rfl⟩:∃g,f=g+1:=⟨f-1,by omega⟩
 obtain ⟨p,I,C⟩:=AH (f:=f+1) c N L (cQ T t.name 2) b.fit d (by omega) (by omega) H m l
 have z:i+tl (bl (dC o T S (t.arg 0) (cQ T t.name 2)))+1+tl (bl (bo o T S (t.arg 1) (dv (cQ T t.name 2)) true))=i+(tl (bl (dC o T S (t.arg 0) (cQ T t.name 2)))+(1+tl (bl (bo o T S (t.arg 1) (dv (cQ T t.name 2)) true)))):=by omega
 have h:=lH c O M (dv (cQ T t.name 2)) true (i+tl (bl (dC o T S (t.arg 0) (cQ T t.name 2)))+1) f r K
 rw [z] at h
 obtain ⟨q,J⟩:=h j (by omega) u (s (.inr b.cls)) (fun x=>by cases x)
 have:=C.infix (by omega) m (Ey b.cls) l I J (by omega)
 rw [lX a.here k,yC F,bR,bR,ek]
 rw [b.name] at this
 exact this
theorem El (d:Cx o T S E ρ) {t:Tm} (a:Tm.All NOk t) (k:t.kind=3) (C:Sm S E ρ t) (e:has T t.name 3=true) (v:t.args.length=1) :
  Dg E ρ t (dC o T S (t.arg 0) (cQ T t.name 3)++[jo o t.name]) (cQ T t.name 3):=by
 have b:=lq e
 have x:=(a.here.str k).2.1
 obtain ⟨F,D⟩:=rI C a (show 0<t.args.length by omega)
 intro i f most r c w u B g A
 rw [fw,bG] at c
 obtain ⟨_,j⟩:=c.app
 rw [bQ,ga,ai,am] at j
 obtain ⟨h,y,n⟩:=EH d x e j
 have l:tl (bl (dC o T S (t.arg 0) (cQ T t.name 3)++[jo o t.name]))=tl (bl (dC o T S (t.arg 0) (cQ T t.name 3)))+1:=by
  have m:tl ((jo o t.name).data.toList::[])=1:=by
   have q:=kh [(jo o t.name).data.toList] r
   rw [ai,am,n] at q
   omega
  rw [fw,kh,bQ,ga,m]
 rw [l] at w u B A |-
 obtain ⟨p,z,s⟩:=AH (f:=f) d F D (cQ T t.name 3) b.fit c (by omega) (by omega) y h g
 have:=s.postfix (by omega) h (ze b.cls) g z
 rw [lX a.here k,th v,bR,ek]
 rw [b.name] at this
 exact this
theorem KR {s:ByteArray} (h:JG s.data.toList=true):mr s 0=true:=by
 cases hs:s.data.toList with
 | nil=>rw [hs] at h;cases h
 | cons d l=>
  rw [hs] at h
  have b:s.size=l.length+1:=by rw [<-ByteArray.size_data,<-Array.length_toList,hs];rfl
  unfold mr
  rw [hs,b,decide_eq_true (by omega)]
  have a:ie (d::l) 0=(d.toNat:Int):=rfl
  rw [a]
  simp only [JG,aE,decide_eq_true_iff] at h
  rw [decide_eq_true (by omega),decide_eq_true (by omega)];rfl
theorem Jx (l:List ByteArray):pW T (hd (s1 40::l))=false:=by
 show pW T (s1 40)=false
 unfold pW
 have:ie (s1 40).data.toList 0=40:=rfl
 rw [this];simp
theorem GI (a:Cx o T S E ρ) {t:Tm} (p:Tm.All NOk t) (k:t.kind=3) (ih:Sm S E ρ t) (C:has T t.name 1=true) (hl:t.args.length=1) :
  Dg E ρ t (jo o t.name::((if tu t.name (iL o T S (t.arg 0) (cQ T t.name 1))=true then [s1 32] else [])++iL o T S (t.arg 0) (cQ T t.name 1))) (cQ T t.name 1):=by
 have b:=lq C
 have J:=(p.here.str k).2.1
 obtain ⟨v,K⟩:=rI ih p (show 0<t.args.length by omega)
 have D:Tm.All NOk (t.arg 0):=by
  rw [Tm.arg_get t 0 (by omega)];exact p.sub _ (aQ _)
 have a6:=b.fit
 have a7:=uP b.fit
 have a2:=qe a v (fun k=>(zN a _ D k).1) (dv (cQ T t.name 1)) true
 have a0:=yE (E:=E) a v (fun k=>(zN a _ D k).2) (dv (cQ T t.name 1))
 intro i f most r l j s u a4 n
 -- the argument's pieces
 have Z:∃P,iL o T S (t.arg 0) (cQ T t.name 1)=P/\HdL P/\AL T E P/\pW T (hd P)=false/\Kf E ρ (t.arg 0) P (dv (cQ T t.name 1)) true:=by
  refine ⟨_,rfl,?_⟩
  show HdL (brk (bo o T S (t.arg 0) (dv (cQ T t.name 1)) true) (pW T (hd (bo o T S (t.arg 0) (dv (cQ T t.name 1)) true))))/\_
  unfold iL
  simp only
  refine ⟨a2.brk,a0.brk,?_⟩
  cases hb:pW T (hd (bo o T S (t.arg 0) (dv (cQ T t.name 1)) true))
  ·rw [qQ]
   exact ⟨hb,lH a v K _ _⟩
  ·rw [qP]
   refine ⟨Jx _,fun i f r l j s u n ha=>?_⟩
   exact (rS (uc a v K (by omega) (fun h=>by cases h)) l j s).fin j n
 obtain ⟨P,L,X,V,Y,W⟩:=Z
 rw [L] at l j s u n |-
 obtain ⟨p0,P1,w,y⟩:=id X
 have R:¬p0.data.toList=[32]:=by
  intro e
  rw [e] at y
  have U:HdL [s1 32]:=⟨_,_,rfl,y⟩
  have h5:=Fi U
  have:tl (bl [s1 32])=0:=by rw [bQ,ga,show (s1 32).data.toList=[32] from rfl,DE,kF]
  omega
 rw [bQ,mT a,ai] at l
 obtain ⟨G,d⟩:=l.name J b.n1 b.n2
 have N:tl (bl (jo o t.name::((if tu t.name P=true then [s1 32] else [])++P)))=1+tl (bl P):=by
  rw [bQ,mT a,np J b.n1 b.n2,fw]
  split
  ·rw [bQ,ga,show (s1 32).data.toList=[32] from rfl,ai,am,DE]
  ·rw [ga,am]
 rw [N] at j s u n |-
 have hT:Sp E (i+1) (bl P++r)/\opn (E.at (i+1))=false/\¬(t.name.data.toList=[45]/\(E.at (i+1)).r.kind=4/\(E.at (i+1)).lay=false):=by
  by_cases c:tu t.name P=true
  ·rw [if_pos c,fw,bQ,ga,show (s1 32).data.toList=[32] from rfl,ai,am,ai,iQ,if_pos rfl] at d
   have I:(E.at (i+1)).lay=true:=by
    rw [w,bQ,ai] at d
    exact Jb R d
   refine ⟨⟨_,_,d⟩,?_,fun h=>?_⟩
   ·unfold opn;rw [I];simp
   ·rw [I] at h;cases h.2.2
  ·rw [if_neg c,am] at d
   have m:Sp E (i+1) (bl P++r):=⟨_,_,d⟩
   have H:=m
   rw [w,bQ,ai] at H
   obtain ⟨_,_,O,Q⟩:=y.facts H
   rw [w] at c
   unfold tu at c
   simp only [gi,aE,beq_iff_eq,not_or,not_and] at c
   obtain ⟨z,A⟩:=c
   rw [Lib.toList_data] at z A
   refine ⟨m,?_,fun h=>?_⟩
   ·unfold opn
    cases hb:isP (E.at (i+1)) [40]
    ·rfl
    ·exact absurd (O hb) z
   ·exact A h.1 (KR (Q h.2.1))
 obtain ⟨m,a5,a3⟩:=hT
 have a1:=V (i+1) r m Y
 have hp:zc E (E.at i) most (i+1)=true:=by
  unfold zc
  rw [G.txt,ib,a.ops,show kQ T t.name 1=true from C,a1,decide_eq_true (by exact a4)]
  rfl
 obtain ⟨f,rfl⟩:∃g,f=g+1:=⟨f-1,by omega⟩
 have F:=W (i+1) f r m
 have M:i+1+tl (bl P)=i+(1+tl (bl P)):=by omega
 rw [M] at F
 obtain ⟨q,hq⟩:=F j (by omega) u (n (.inl b.cls)) (fun x=>by cases x)
 have B:(dt E.P ⟨t.name.data.toList.toArray⟩ 1).getD op0=cQ T t.name 1:=by rw [ib,a.ops];rfl
 have:=GU (most:=most) G a5 a3 hp (by rw [B];exact hq)
 rw [B,ib] at this
 rw [lX p.here k,th hl,bR,ek]
 exact Rch.opd this (by omega)
end
end Hb
