/- Parts of the proof. -/
import Derived.Test.YtlikcjbjibhjgaaGreatDoorR03
import Derived.Test.YtlikcjbjibhjgaaGreatDoorR15
import Derived.Test.YtlikcjbjibhjgaaGreatDoorR05
import Derived.Test.YtlikcjbjibhjgaaGreatDoorR01
import Derived.Test.YtlikcjbjibhjgaaGreatDoorR02
import Derived.Deep.DeepMust
import Derived.Deep.RegionHeld3
import Derived.RegionTactic
import Derived.BigRegion
set_option maxHeartbeats 12800000
set_option maxRecDepth 100000
open Go renaming Calls -> aJ, World -> ai, bodyPost_ret -> ay, heap_setCell_other -> aS
open Go.Ending renaming returned -> aw
open Go.IntKind renaming i64 -> ae
open Go.Proofs.Tryz renaming prog -> ah, underlying106 -> bU
open Go.RowKit renaming Below -> ax
open Go.RowKit.Below renaming refl -> aj
open Go.Value renaming agg -> aN, bool -> am, int -> ab, pointer -> au, string -> aa
open Go.World renaming cell?_alloc_new -> aq, cell?_of_block -> bG
open Int renaming eq_ofNat_of_zero_le -> bJ, toNat_natCast -> aD
open List renaming getElem?_append_left -> eI, getElem?_eq_getElem -> ba, length_append -> aB, length_drop -> aH, mem_singleton -> aG, take_succ_eq_append_getElem -> aO
open Nat renaming le_refl -> ag, le_trans -> aI, lt_of_lt_of_le -> aC, lt_or_ge -> cS, zero_le -> bp
namespace Hb
open Go Go.RowKit
structure FlR where
 q:Int
 u:Int
 c:Bool
 d:Bool
def MA (f:FlR):Value:=aN #[ab ae f.q,ab ae f.u,am f.c,am f.d]
def Ci (f:FlR):Bool:=decide (1<=f.q)&&(decide (f.q<=3)&&(f.u==1||f.u==2))
def Dq:FlR:=⟨1,1,false,false⟩
def wF (s:ByteArray):Tm:=.mk 2 0 s []
end Hb
namespace Go.Proofs.YtlikcjbjibhjgaaGreatDoor
open Go.RowKit Hb
theorem Fi (w:ai):aJ ah 13 #[] w fun e w'=>e=aw (MA Dq)/\ax w.heap.size w w':=by
 have a:=(aj w.heap.size w).alloc (ag _) (.cells #[ab ae 1,ab ae 1,am false,am false] 29)
 go_enter Tryz.func13,Tryz.ntmps13
 go_wp2_with fail
 exact ay (v:=MA Dq) (by simp [results,Tryz.results13,go_sem,MA,Dq]) rfl ⟨rfl,a⟩
theorem KN (f:FlR) (w:ai):aJ ah 56 #[MA f] w fun e w'=>e=aw (am (Ci f))/\ax w.heap.size w w':=by
 have h:=(aj w.heap.size w).alloc (ag _) (.cells #[ab ae f.q,ab ae f.u,am f.c,am f.d] 29)
 have g:Hid (Ci f=(decide (1<=f.q)&&(decide (f.q<=3)&&(f.u==1||f.u==2)))):=zq rfl
 unfold MA
 generalize Ci f=r at *
 generalize f.q=q at *
 generalize f.u=u at *
 have a:(q<1)\/(3<q)\/(1<=q/\q<=3):=by omega
 have b:u=1\/u=2\/(¬u=1/\¬u=2):=by omega
 rcases a with a | a | ⟨a,i⟩ <;> rcases b with rfl|rfl | ⟨b,j⟩
 all_goals
  go_enter Tryz.func56,Tryz.ntmps56
  go_wp2_with fail
  go_ret
  refine ⟨bN ?_,h⟩
  rw [g.out]
  simp [*] <;> omega
theorem fi (c:Int) (b:Bool) (h:jv c=b) (w:ai) :
  aJ ah 80 #[ab ae c] w fun e w'=>e=aw (am b)/\w=w':=by subst h;exact kg c w
theorem oB (A:Option Addr) (n C:Nat) (l:List (Int×Int)) (w:ai) (t:n=l.length) (E:n<=maxLen) (u:Pairs w A l) :
  aJ ah 57 #[.slice A n C] w fun e w'=>e=aw (am (jz l))/\ax w.heap.size w w':=by
 unfold maxLen at E
 have r:=zq t
 clear t
 have s:=zq u
 clear u
 go_enter Tryz.func57,Tryz.ntmps57
 go_wp2
 go_loopw [7] (fun i wr=>∃k:Nat,k<=n/\i=ab ae k/\ax w.heap.size w wr/\Hid (∀j,j<k->nL l j=true)) (fun i _=>n-(intOf i).toNat)
 case atStart=>exact ⟨0,bp _,rfl,aj _ _,fun j m=>absurd m (by omega)⟩
 case round=>
  obtain ⟨k,H,rfl,f,p⟩:=hrel
  by_cases I:k<n
  ·have J:=f.size
   have o:k<l.length:=by have:=r.out;omega
   obtain ⟨b,K,rfl,G,y,z⟩:=(s.out.below f) k o
   rw [sM _ _ o] at y
   rw [xA _ _ o] at z
   have g:=zq (EJ l k o)
   cases q1:jv (rz l k)
   ·have a:=zq q1
    have c:=zq (Mm l k q1)
    clear q1
    go_wp2
    go_quiet ((go_at_call 80;first | with_reducible exact kR (fi _ _ a.out _) | with_reducible exact kR (fi _ _ d.out _)))
    go_wp2
    go_ret
    exact ⟨bN (g.out c.out).symm,dS (f.alloc (by omega) _) _⟩
   have a:=zq q1
   clear q1
   cases q2:jv (si l k)
   ·have d:=zq q2
    have c:=zq (Ml l k a.out q2)
    clear q2
    go_wp2
    go_quiet ((go_at_call 80;first | with_reducible exact kR (fi _ _ a.out _) | with_reducible exact kR (fi _ _ d.out _)))
    go_wp2
    go_ret
    exact ⟨bN (g.out c.out).symm,dS (f.alloc (by omega) _) _⟩
   have d:=zq q2
   clear q2
   cases q3:(rz l k==si l k)
   ·by_cases D:0<k
    ·obtain ⟨F,L,q,_,B,_⟩:=(s.out.below f) (k-1) (by omega)
     injection q with q
     injection q with e1 e2
     subst e1 e2
     rw [sM _ _ (by omega)] at B
     by_cases v:rz l (k-1)<rz l k
     ·have c:=zq (Mi l k a.out d.out q3 v)
      go_wp2
      go_quiet ((go_at_call 80;first | with_reducible exact kR (fi _ _ a.out _) | with_reducible exact kR (fi _ _ d.out _)))
      go_wp2
      go_roundw
      case rel=>exact ⟨k+1,by omega,by go_num,dS (f.alloc (by omega) _) _,fun j m=>by
       rcases cS j k with h | h
       ·exact p.out j h
       ·have:j=k:=by omega
        subst this;exact c.out⟩
      case measure=>simp [intOf];omega
     ·have c:=zq (Mh l k a.out d.out q3 D v)
      go_wp2
      go_quiet ((go_at_call 80;first | with_reducible exact kR (fi _ _ a.out _) | with_reducible exact kR (fi _ _ d.out _)))
      go_wp2
      go_ret
      exact ⟨bN (g.out c.out).symm,dS (f.alloc (by omega) _) _⟩
    ·have c:=zq (Mj l k (by omega) a.out d.out q3)
     have hd:decide ((0:Int)<(k:Int))=false:=by simp;omega
     go_wp2
     go_quiet ((go_at_call 80;first | with_reducible exact kR (fi _ _ a.out _) | with_reducible exact kR (fi _ _ d.out _)))
     go_wp2
     go_roundw
     case rel=>exact ⟨k+1,by omega,by go_num,dS (f.alloc (by omega) _) _,fun j m=>by
      rcases cS j k with h | h
      ·exact p.out j h
      ·have:j=k:=by omega
       subst this;exact c.out⟩
     case measure=>simp [intOf];omega
   ·have c:=zq (Mk l k a.out d.out q3)
    go_wp2
    go_quiet ((go_at_call 80;first | with_reducible exact kR (fi _ _ a.out _) | with_reducible exact kR (fi _ _ d.out _)))
    go_wp2
    go_ret
    exact ⟨bN (g.out c.out).symm,dS (f.alloc (by omega) _) _⟩
  ·have x:=zq (Bi l (fun j m=>p.out j (by have:=r.out;omega)))
   go_wp2
   go_ret
   exact ⟨bN x.out.symm,f⟩
end Go.Proofs.YtlikcjbjibhjgaaGreatDoor
namespace Go.Proofs.YtlikcjbjibhjgaaGreatDoor
open Go.RowKit Hb Go.Shelf
theorem Ds (w:ai):aJ ah 4 #[] w fun e w'=>∃g b,e=aw (aN #[.slice (some ⟨g,0,none⟩) 41 b,ab ae 1,ab ae 1,am false,am false,.slice none 0 0])/\ax w.heap.size w w'/\Tab w' (some ⟨g,0,none⟩) 41 b defL:=by
 have q:Hid (ax w.heap.size w (w.alloc (.cells #[.slice none 0 0,ab ae 0,ab ae 0,am false,am false,.slice none 0 0] 32))):=zq ((aj _ _).alloc (ag _) _)
 have y:Hid (Bk (w.alloc (.cells #[.slice none 0 0,ab ae 0,ab ae 0,am false,am false,.slice none 0 0] 32)) w.heap.size [.slice none 0 0,ab ae 0,ab ae 0,am false,am false,.slice none 0 0]):=zq (Bk.new w [.slice none 0 0,ab ae 0,ab ae 0,am false,am false,.slice none 0 0] 32)
 go_enter Tryz.func4,Tryz.ntmps4
 go_wp2_with fail
 refine (zw En _).mono ?_;rintro e T ⟨g,b,rfl,n,E⟩
 have r:=bz q n
 have z:=zq (y.out.call n)
 have A:=zq E
 clear n q y E
 go_wp2_with fail
 refine (Fi _).mono ?_;rintro e d ⟨rfl,m⟩
 have t:=bz r m
 have a:=zq (z.out.call m)
 have B:=zq (A.out.below m)
 clear m r z A
 unfold MA Dq
 dsimp only
 have U:d.cell? ⟨w.heap.size,0,none⟩=some (.slice none 0 0):=a.out.c 0 _ rfl
 have N:=a.out.f 0
 have V:d.cell? ⟨w.heap.size,1,none⟩=some (ab ae 0):=a.out.c 1 _ rfl
 have O:=a.out.f 1
 have W:d.cell? ⟨w.heap.size,2,none⟩=some (ab ae 0):=a.out.c 2 _ rfl
 have P:=a.out.f 2
 have X:d.cell? ⟨w.heap.size,3,none⟩=some (am false):=a.out.c 3 _ rfl
 have Q:=a.out.f 3
 have Y:d.cell? ⟨w.heap.size,4,none⟩=some (am false):=a.out.c 4 _ rfl
 have R:=a.out.f 4
 have Z:d.cell? ⟨w.heap.size,5,none⟩=some (.slice none 0 0):=a.out.c 5 _ rfl
 have S:=a.out.f 5
 have h:Hid (Bk ((((((d.setCell ⟨w.heap.size,0,none⟩ (.slice (some ⟨g,0,none⟩) 41 b)).setCell ⟨w.heap.size,1,none⟩ (ab ae 1)).setCell ⟨w.heap.size,2,none⟩ (ab ae 1)).setCell ⟨w.heap.size,3,none⟩ (am false)).setCell ⟨w.heap.size,4,none⟩ (am false)).setCell ⟨w.heap.size,5,none⟩ (.slice none 0 0)) w.heap.size [.slice (some ⟨g,0,none⟩) 41 b,ab ae 1,ab ae 1,am false,am false,.slice none 0 0]):=zq ((((((a.out.set 0 (.slice (some ⟨g,0,none⟩) 41 b)).set 1 (ab ae 1)).set 2 (ab ae 1)).set 3 (am false)).set 4 (am false)).set 5 (.slice none 0 0))
 have u:Hid (ax w.heap.size w ((((((d.setCell ⟨w.heap.size,0,none⟩ (.slice (some ⟨g,0,none⟩) 41 b)).setCell ⟨w.heap.size,1,none⟩ (ab ae 1)).setCell ⟨w.heap.size,2,none⟩ (ab ae 1)).setCell ⟨w.heap.size,3,none⟩ (am false)).setCell ⟨w.heap.size,4,none⟩ (am false)).setCell ⟨w.heap.size,5,none⟩ (.slice none 0 0))):=zq ((((((t.out.setCell (p:=⟨_,_,none⟩) (ag _) _).setCell (p:=⟨_,_,none⟩) (ag _) _).setCell (p:=⟨_,_,none⟩) (ag _) _).setCell (p:=⟨_,_,none⟩) (ag _) _).setCell (p:=⟨_,_,none⟩) (ag _) _).setCell (p:=⟨_,_,none⟩) (ag _) _)
 have C:Hid (Tab ((((((d.setCell ⟨w.heap.size,0,none⟩ (.slice (some ⟨g,0,none⟩) 41 b)).setCell ⟨w.heap.size,1,none⟩ (ab ae 1)).setCell ⟨w.heap.size,2,none⟩ (ab ae 1)).setCell ⟨w.heap.size,3,none⟩ (am false)).setCell ⟨w.heap.size,4,none⟩ (am false)).setCell ⟨w.heap.size,5,none⟩ (.slice none 0 0)) (some ⟨g,0,none⟩) 41 b defL):=zq (rm (L:=[(w.heap.size,[.slice none 0 0,ab ae 0,ab ae 0,am false,am false,.slice none 0 0])]) ⟨by kernel_rfl,B.out,fun _=>.inr ⟨_,rfl⟩⟩ ⟨fun x o=>by rw [aG.1 o];exact a.out,by simp⟩ (fun x o=>by
  rw [aG.1 o]
  intro i s x
  rcases i with _ | _ | _ | _ | _ | _ | i <;> simp) (by simp) (fun k F=>by
  have j:=F _ (aG.2 rfl)
  rw [aS _ _ _ _ j,aS _ _ _ _ j,aS _ _ _ _ j,aS _ _ _ _ j,aS _ _ _ _ j,aS _ _ _ _ j]))
 obtain ⟨l,D⟩:=lz (((((((d.setCell ⟨w.heap.size,0,none⟩ (.slice (some ⟨g,0,none⟩) 41 b)).setCell ⟨w.heap.size,1,none⟩ (ab ae 1)).setCell ⟨w.heap.size,2,none⟩ (ab ae 1)).setCell ⟨w.heap.size,3,none⟩ (am false)).setCell ⟨w.heap.size,4,none⟩ (am false)).setCell ⟨w.heap.size,5,none⟩ (.slice none 0 0)))
 rw [<-D.out] at h u C
 clear t a B
 go_wp2_with fail
 rw [<-D.out]
 have G:l.cell? ⟨w.heap.size,0,none⟩=some (.slice (some ⟨g,0,none⟩) 41 b):=h.out.c 0 _ rfl
 have H:l.cell? ⟨w.heap.size,1,none⟩=some (ab ae 1):=h.out.c 1 _ rfl
 have I:l.cell? ⟨w.heap.size,2,none⟩=some (ab ae 1):=h.out.c 2 _ rfl
 have J:l.cell? ⟨w.heap.size,3,none⟩=some (am false):=h.out.c 3 _ rfl
 have K:l.cell? ⟨w.heap.size,4,none⟩=some (am false):=h.out.c 4 _ rfl
 have M:l.cell? ⟨w.heap.size,5,none⟩=some (.slice none 0 0):=h.out.c 5 _ rfl
 exact ay (v:=aN #[.slice (some ⟨g,0,none⟩) 41 b,ab ae 1,ab ae 1,am false,am false,.slice none 0 0]) (by simp [results,Tryz.results4,go_sem,G,H,I,J,K,M]) rfl ⟨g,b,rfl,u.out,C.out⟩
end Go.Proofs.YtlikcjbjibhjgaaGreatDoor
namespace Hb
open Go Go.RowKit
def NY:NextR:=⟨dR 0,false,0⟩
def wO (T:List NextR) (i:Nat):NextR:=T.getD (min i (T.length-1)) NY
def NextR.txt (t:NextR):ByteArray:=⟨t.r.text.toArray⟩
def isP (t:NextR) (s:List UInt8):Bool:=t.r.kind==6&&t.r.text==s
def ge (t:NextR):Bool:=t.r.kind==1||t.r.kind==2
def opn (t:NextR):Bool:=isP t [40] && !t.lay
structure VS where
 c:Nat
 m:List (List UInt8×Nat)
 o:List Nat
def VS.look (v:VS) (x:List UInt8):Option Nat:=(v.m.find? fun p=>p.1==x).map (·.2)
def VS.num (v:VS) (x:List UInt8):Nat:=if x=[95] then v.c else (v.look x).getD v.c
def VS.old (v:VS) (x:List UInt8):Bool:=decide (¬x=[95])&&(v.look x).isSome
def VS.step (v:VS) (x:List UInt8):VS:=⟨if v.old x=true then v.c else v.c+1,if v.old x=true\/x=[95] then v.m else v.m++[(x,v.c)],v.o++[v.num x]⟩
def vs0:VS:=⟨0,[],[]⟩
def qB (t:NextR):Bool:=t.r.kind==3
def pw (T:List NextR):VS:=(T.filter qB).foldl (fun v t=>v.step t.r.text) vs0
def cM (T:List NextR) (n:Nat):VS:=pw (T.take n)
structure RE where
 T:List NextR
 P:List OpR
 q:Int
def nC (s:ByteArray) (l:List Tm):Tm:=.mk 3 0 s l
def AB (s:ByteArray):Tm:=.mk 2 0 s []
def Fc (n:Int):Tm:=.mk 1 n ⟨#[]⟩ []
def NH (n:Int):Tm:=.mk 0 n ⟨#[]⟩ []
def sB (l:List Tm) (a:Tm):Tm:=l.foldr (fun x t=>nC ⟨#[46]⟩ [x,t]) a
def rD:Tm:=AB ⟨#[91,93]⟩
def MM (q:Int) (c:UInt8):Tm:=if q=1 then Fc c.toNat else AB ⟨#[c]⟩
def Lt (q:Int) (s:List UInt8):Tm:=if q=3 then AB ⟨s.toArray⟩ else sB (s.map (MM q)) rD
abbrev RR (α:Type):=Except Nat α
abbrev PT:=Int->Nat->RR (Tm×Int×Nat)
def RE.at (E:RE) (n:Nat):NextR:=wO E.T n
def ts (E:RE) (S:PT):Nat->Nat->RR (List Tm×Nat)
 | 0,n=>.error n
 | k+1,n=>match S 999 n with
  | .error e=>.error e
  | .ok (t,_,m)=>if isP (E.at m) [44]=true then (match ts E S k (m+1) with
    | .error e=>.error e
    | .ok (l,i)=>.ok (t::l,i))
   else .ok ([t],m)
def rt (E:RE) (S:PT) (n:Nat):RR (List Tm×Nat):=ts E S E.T.length n
def im {α:Type} (E:RE) (s:List UInt8) (n:Nat) (a:α):RR (α×Nat):=if isP (E.at n) s=true then .ok (a,n+1) else .error n
def mc (E:RE) (S:PT) (s:ByteArray) (n:Nat):RR (Option Tm×Nat) :=
 if opn (E.at n)=true then (match rt E S (n+1) with
  | .error e=>.error e
  | .ok (l,m)=>im E [41] m (some (nC s l)))
 else .ok (none,n)
def lJ (P:List OpR) (s:ByteArray) (c:Int):Bool:=(dt P s c).isSome
def gE (E:RE) (n:Nat):Bool :=
 if (E.at n).r.kind=7 then true
 else if (E.at n).r.kind=6 then decide (¬(E.at n).r.text=[40])&&(decide (¬(E.at n).r.text=[91])&&decide (¬(E.at n).r.text=[123]))
 else if (!ge (E.at n)||opn (E.at (n+1)))=true then false
 else !lJ E.P (E.at n).txt 1&&(lJ E.P (E.at n).txt 2||lJ E.P (E.at n).txt 3)
def na (E:RE) (t:NextR) (n:Nat):Bool:=t.r.kind==1&&(t.r.text==[45]&&((E.at n).r.kind==4 && !(E.at n).lay))
def Bj (E:RE) (t:NextR) (most:Int) (n:Nat):Bool:=lJ E.P t.txt 1&&(decide (((dt E.P t.txt 1).getD op0).prec<=most) && !gE E n)
def tO (E:RE) (S:PT) (t:NextR) (most:Int) (n:Nat):RR (Tm×Int×Nat) :=
 match mc E S t.txt n with
 | .error e=>.error e
 | .ok (some u,m)=>.ok (u,0,m)
 | .ok (none,_)=>
  if na E t n=true then .ok (Fc (if (E.at n).r.n=-9223372036854775808 then (E.at n).r.n else -(E.at n).r.n),0,n+1)
  else if Bj E t most n=true then (match S (dB ((dt E.P t.txt 1).getD op0)) n with
   | .error e=>.error e
   | .ok (u,_,m)=>.ok (nC t.txt [u],((dt E.P t.txt 1).getD op0).prec,m))
  else .ok (AB t.txt,0,n)
def kw (E:RE) (S:PT) (s:ByteArray) (n:Nat):RR (Tm×Nat) :=
 match mc E S s n with
 | .error e=>.error e
 | .ok (some u,m)=>.ok (u,m)
 | .ok (none,m)=>.ok (AB s,m)
def qd (E:RE) (S:PT) (n:Nat):RR (Tm×Nat) :=
 if isP (E.at n) [124]=true then (match S 999 (n+1) with
  | .error e=>.error e
  | .ok (t,_,m)=>.ok (t,m))
 else .ok (rD,n)
def zM (E:RE) (S:PT) (n:Nat):RR (Tm×Nat) :=
 match rt E S n with
 | .error e=>.error e
 | .ok (l,m)=>(match qd E S m with
  | .error e=>.error e
  | .ok (t,i)=>im E [93] i (sB l t))
def Kn (E:RE) (S:PT) (s:List UInt8) (F:Tm->Tm) (n:Nat):RR (Tm×Nat) :=
 match S 1200 n with
 | .error e=>.error e
 | .ok (t,_,m)=>im E s m (F t)
def ny (E:RE) (S:PT) (s:List UInt8) (n:Nat):RR (Tm×Nat) :=
 if s=[40] then Kn E S [41] id n
 else if s=[91]/\isP (E.at n) [93]=true then kw E S ⟨#[91,93]⟩ (n+1)
 else if s=[123]/\isP (E.at n) [125]=true then kw E S ⟨#[123,125]⟩ (n+1)
 else if s=[91] then zM E S n
 else Kn E S [125] (fun t=>nC ⟨#[123,125]⟩ [t]) n
def ot (t:NextR):Bool:=isP t [40]||(isP t [91]||isP t [123])
def kS (E:RE) (S:PT) (most:Int) (n:Nat):RR (Tm×Int×Nat) :=
 let t:=E.at n
 if t.r.kind=4/\0<=t.r.n then .ok (Fc t.r.n,0,n+1)
 else if t.r.kind=3 then .ok (NH ((cM E.T n).num t.r.text),0,n+1)
 else if t.r.kind=5 then .ok (Lt E.q t.r.text,0,n+1)
 else if ot t=true then (match ny E S t.r.text (n+1) with
  | .error e=>.error e
  | .ok (u,m)=>.ok (u,0,m))
 else if ge t=true then tO E S t most (n+1)
 else .error n
def hQ (E:RE) (n:Nat):OpR×Bool :=
 let t:=E.at n
 if (!ge t&&(!isP t [44] && !isP t [124]))=true then (op0,false)
 else if lJ E.P t.txt 2=true then ((dt E.P t.txt 2).getD op0,true)
 else ((dt E.P t.txt 3).getD op0,lJ E.P t.txt 3)
def vW (o:OpR×Bool) (most a:Int):Bool:=!o.2||(decide (most<o.1.prec)||decide (gi o.1<a))
def ph (o:OpR):Bool:=o.typ==6||o.typ==7
def km (E:RE) (S:PT) (most:Int):Nat->Tm->Int->Nat->RR (Tm×Int×Nat)
 | 0,_,_,n=>.error n
 | k+1,t,prec,n=>
  if vW (hQ E n) most prec=true then .ok (t,prec,n)
  else if ph (hQ E n).1=true then km E S most k (nC (hQ E n).1.name [t]) (hQ E n).1.prec (n+1)
  else match S (dB (hQ E n).1) (n+1) with
   | .error e=>.error e
   | .ok (u,_,m)=>km E S most k (nC (hQ E n).1.name [t,u]) (hQ E n).1.prec m
def DS (E:RE) (S:PT) (most:Int) (n:Nat):RR (Tm×Int×Nat) :=
 match kS E S most n with
 | .error e=>.error e
 | .ok (t,p,m)=>km E S most E.T.length t p m
def mv (E:RE):Nat->PT
 | 0=>fun _ n=>.error n
 | f+1=>DS E (mv E f)
def rj (E:RE):RR (Tm×Nat) :=
 match mv E E.T.length 1200 0 with
 | .error e=>.error e
 | .ok (t,_,m)=>if (E.at m).r.kind=7 then .ok (t,m) else .error m
theorem RE.at_get (E:RE) {n:Nat} (h:n<E.T.length):E.at n=E.T[n]:=by
 unfold RE.at wO
 rw [show min n (E.T.length-1)=n by omega,List.getD_eq_getElem?_getD,ba h];rfl
theorem ll (T:List NextR):cM T 0=vs0:=by unfold cM;simp [pw]
theorem vg {T:List NextR} {n:Nat} (h:n<T.length):cM T (n+1)=if qB T[n]=true then (cM T n).step T[n].r.text else cM T n:=by
 unfold cM pw
 rw [aO h,List.filter_append,List.foldl_append]
 cases hv:qB T[n] <;> simp [hv]
theorem Jv {E:RE} {n:Nat} (h:n<E.T.length) (a:qB (E.at n)=false):cM E.T (n+1)=cM E.T n:=by
 rw [vg h,<-E.at_get h,a];rfl
theorem Ju {E:RE} {n:Nat} (h:n<E.T.length) (a:qB (E.at n)=true):cM E.T (n+1)=(cM E.T n).step (E.at n).r.text:=by
 rw [vg h,<-E.at_get h,a];rfl
theorem gI {t:NextR} {s:List UInt8} (h:isP t s=true):qB t=false:=by
 unfold isP at h;unfold qB;simp at h |-;omega
theorem Dn {t:NextR} (h:ge t=true):qB t=false:=by
 unfold ge at h;unfold qB;simp at h |-;omega
theorem qA {t:NextR} {k:Int} (h:t.r.kind=k) (a:k≠3):qB t=false:=by
 unfold qB;simp;omega
structure VS.Ok (v:VS):Prop where
 co:v.c<=v.o.length
 mo:v.m.length<=v.o.length
 lt:∀p∈v.m,p.2<v.c
theorem LP:vs0.Ok:=⟨Nat.le_refl _,ag _,fun p a=>by cases a⟩
theorem VS.look_lt {v:VS} (h:v.Ok) {x:List UInt8} {k:Nat} (a:v.look x=some k):k<v.c:=by
 unfold VS.look at a
 obtain ⟨p,b,e⟩:=Option.map_eq_some_iff.1 a
 have:=h.lt p (List.mem_of_find?_eq_some b)
 omega
theorem VS.step_ok {v:VS} (h:v.Ok) (x:List UInt8):(v.step x).Ok:=by
 have d:=h.co
 have f:=h.mo
 unfold VS.step
 refine ⟨?_,?_,?_⟩
 ·simp only [aB,List.length_singleton];split <;> omega
 ·simp only [aB,List.length_singleton];split <;> (try simp only [aB,List.length_singleton]) <;> omega
 ·intro p a
  simp only at a |-
  split at a
  ·have:=h.lt p a
   split <;> omega
  ·rename_i b
   have c:¬v.old x=true:=fun e=>b (.inl e)
   rw [if_neg c]
   rcases List.mem_append.1 a with a | a
   ·have:=h.lt p a;omega
   ·rw [aG] at a;subst a;exact Nat.lt_succ_self _
theorem VS.step_len (v:VS) (x:List UInt8):(v.step x).o.length=v.o.length+1:=by simp [VS.step]
theorem VS.num_le {v:VS} (h:v.Ok) (x:List UInt8):v.num x<=v.c:=by
 unfold VS.num
 split
 ·exact ag _
 ·cases hk:v.look x with
  | none=>exact ag _
  | some k=>have:=VS.look_lt h hk;simp;omega
theorem VS.look_old {v:VS} {x:List UInt8} (h:v.old x=true):¬x=[95]/\∃k,v.look x=some k:=by
 unfold VS.old at h
 simp at h
 exact ⟨h.1,Option.isSome_iff_exists.1 h.2⟩
theorem VS.look_snoc (v:VS) (x:List UInt8) (k:Nat) (c:Nat) (o:List Nat) (a:v.look x=none) (y:List UInt8):VS.look ⟨c,v.m++[(x,k)],o⟩ y=if y=x then some k else v.look y:=by
 unfold VS.look at *
 simp only
 rw [List.find?_append]
 by_cases e:y=x
 ·subst e
  rw [Option.map_eq_none_iff] at a
  rw [a,if_pos rfl]
  simp
 ·rw [if_neg e]
  have:((x,k).1==y)=false:=by simp;exact fun h=>e h.symm
  cases (v.m.find? fun p=>p.1==y) <;> simp [this]
end Hb
namespace Hb
def qI (a0:Nat) (L:List NextR):Nat->Nat
 | 0=>a0
 | k+1=>match L[k]? with | some r=>r.r.end_.toNat | none=>0
theorem vX (a0:Nat) (L:List NextR) (r:NextR) (k:Nat) (h:k<=L.length):qI a0 (L++[r]) k=qI a0 L k:=by
 cases k with
 | zero=>rfl
 | succ k=>simp only [qI];rw [eI (by omega)]
theorem Ck (a0:Nat) (L:List NextR) (r:NextR):qI a0 (L++[r]) (L.length+1)=r.r.end_.toNat:=by
 simp [qI]
def Chain (m l:List UInt8) (a0:Nat) (L:List NextR) (a:Prop):Prop :=
 ∀i r,L[i]? = some r->bF m l (qI a0 L i)=r/\r.r.err=0/\(r.r.kind=7↔(i+1=L.length/\a))/\qI a0 L i<=l.length
theorem Chain.snoc {m l:List UInt8} {a0:Nat} {L:List NextR} (h:Chain m l a0 L False) (a:Nat) (k:a=qI a0 L L.length) (q:a<=l.length) (n:(bF m l a).r.err=0) (p:Prop) (o:(bF m l a).r.kind=7↔p) :
  Chain m l a0 (L++[bF m l a]) p:=by
 intro i r b
 rcases Nat.lt_trichotomy i L.length with c | c | c
 ·rw [eI c] at b
  obtain ⟨e,f,g,j⟩:=h i r b
  rw [vX _ _ _ _ (by omega)]
  refine ⟨e,f,⟨fun d=>?_,fun d=>?_⟩,j⟩
  ·exact absurd (g.1 d).2 id
  ·have:=d.1;simp at this;omega
 ·subst c
  simp at b
  subst b
  rw [vX _ _ _ _ (by omega),<-k]
  refine ⟨rfl,n,?_,q⟩
  rw [o];simp
 ·rw [List.getElem?_eq_none (by simp;omega)] at b;cases b
theorem uI (m l:List UInt8) (i:m.length=l.length) (a0:Nat):∀(f:Nat) (a:Nat) (b:List NextR),Chain m l a0 b False->a=qI a0 b b.length->a<=l.length ->
  ((rT f m l a b).err=0->(rT f m l a b).where_=0/\(rT f m l a b).l≠[]/\Chain m l a0 (rT f m l a b).l True)/\(¬(rT f m l a b).err=0->(rT f m l a b).l=[])
 | 0,a,b,_,_,_=>⟨fun h=>absurd h (by show ¬(99:Int)=0;decide),fun _=>rfl⟩
 | f+1,a,b,hc,ha,hl=>by
  rw [mS]
  by_cases g:(bF m l a).r.err=14/\b≠[]
  ·rw [if_pos g];exact ⟨fun h=>absurd h (by show ¬(7:Int)=0;decide),fun _=>rfl⟩
  rw [if_neg g]
  by_cases c:(bF m l a).r.err=0
  ·rw [if_neg (by simpa using c)]
   obtain ⟨p,e,_,n,j,o,k,_,_⟩:=zH m l i a hl c
   by_cases d:(bF m l a).r.kind=7
   ·rw [if_pos d]
    exact ⟨fun _=>⟨rfl,by simp,hc.snoc a ha hl c True (by simp [d])⟩,fun h=>absurd rfl h⟩
   ·rw [if_neg d]
    refine uI m l i a0 f _ _ (hc.snoc a ha hl c False (by simp [d])) ?_ ?_
    ·rw [aB];exact (Ck _ _ _).symm
    ·rw [j];simpa using k
  ·rw [if_pos (by simpa using c)]
   exact ⟨fun h=>absurd h c,fun _=>rfl⟩
theorem Cw (m l:List UInt8) (c:m.length=l.length) (a:Nat) (b:a<=l.length) :
  ((pZ m l a).err=0->(pZ m l a).where_=0/\(pZ m l a).l≠[]/\Chain m l a (pZ m l a).l True)/\(¬(pZ m l a).err=0->(pZ m l a).l=[]) :=
 uI m l c a _ a [] (fun i r h=>by simp at h) rfl b
end Hb
namespace Hb
open Go Go.RowKit
structure Fits (B:Nat) (r:LexR):Prop where
 txt:r.text.length<=B+100
 num:-9223372036854775808<=r.n/\r.n<=9223372036854775807
 nam:r.kind=1\/r.kind=2\/r.kind=3->r.text.length<=100
theorem Dh {k:Int} (c:Int) (e:k=c) (a:c≠1/\c≠2/\c≠3) {P:Prop}:k=1\/k=2\/k=3->P:=fun h=>absurd h (by omega)
theorem rF (q:Int) (a:0<=q/\q<=255):∀(f:Nat) (l:List UInt8) (t:List UInt8) (k:Nat),kd f l q=some (t,k)->t.length<=k
 | 0,_,_,_,h=>by cases h
 | f+1,l,t,k,h=>by
  unfold kd at h
  by_cases e:av l 0=q/\¬av l 1=q
  ·rw [if_pos e] at h;injection h with h;injection h with e1 e2;subst e1;exact bp _
  rw [if_neg e] at h
  by_cases g:av l 0=92/\av l 1=10
  ·rw [if_pos g] at h
   cases hi:kd f (l.drop 2) q with
   | none=>rw [hi] at h;cases h
   | some x=>
    obtain ⟨d,b⟩:=x
    have:=rF q a f (l.drop 2) d b hi
    rw [hi] at h;injection h with h;injection h with e1 e2;subst e1 e2
    simp only;omega
  rw [if_neg g] at h
  cases hs:cO l q with
  | none=>rw [hs] at h;cases h
  | some ck=>
   obtain ⟨c,j⟩:=ck
   have i:=fa l q c j a hs
   rw [hs] at h
   simp only [] at h
   cases hi:kd f (l.drop j) q with
   | none=>rw [hi] at h;cases h
   | some x=>
    obtain ⟨d,b⟩:=x
    have:=rF q a f (l.drop j) d b hi
    rw [hi] at h;injection h with h;injection h with e1 e2;subst e1 e2
    simp only [List.length_cons];omega
theorem mZ (B:Nat) (c:Int) (t:List UInt8) (a e:Int) (h:(dM c t a e).err=0):Fits B (dM c t a e):=by
 unfold dM at *
 by_cases b:100<t.length
 ·rw [if_pos b] at h;exact absurd h (by decide)
 ·rw [if_neg b];exact ⟨by simp only;omega,⟨by simp,by simp⟩,fun _=>by simp only;omega⟩
theorem zS (B:Nat) (b:Int) (t:List UInt8) (a e:Int) (h:(intR b t a e).err=0):Fits B (intR b t a e):=by
 unfold intR at *
 by_cases c:db b t<=9223372036854775808
 ·rw [if_pos c]
  refine ⟨by simp,?_,Dh 4 rfl (by decide)⟩
  simp only
  split <;> omega
 ·rw [if_neg c] at h;exact absurd h (by decide)
theorem Gc (m l:List UInt8) (p:Nat) (h:(cC m l p).err=0):Fits l.length (cC m l p):=by
 unfold cC at *
 by_cases a0:av m p=47/\av m (p+1)=42
 ·rw [if_pos a0] at h;exact absurd h (by decide)
 rw [if_neg a0] at *
 by_cases d:cls (av m p)=2\/cls (av m p)=3
 ·rw [if_pos d] at *;exact mZ _ _ _ _ _ h
 rw [if_neg d] at *
 by_cases e:cls (av m p)=4
 ·rw [if_pos e] at *
  unfold jP at *
  by_cases a:av m p=48/\av m (p+1)=39
  ·rw [if_pos a] at *
   cases hq:cO (l.drop (p+2)) 39 with
   | none=>rw [hq] at h;exact absurd h (by show ¬(7:Int)=0;decide)
   | some ck=>
    obtain ⟨c,k⟩:=ck
    have o:=fa _ _ _ _ (by decide) hq
    exact ⟨by simp,by simp only;omega,Dh 4 rfl (by decide)⟩
  rw [if_neg a] at *
  by_cases b:0<cF m p/\0<ch (cq (cF m p)) (m.drop (p+2))
  ·rw [if_pos b] at *;exact zS _ _ _ _ _ h
  ·rw [if_neg b] at *;exact zS _ _ _ _ _ h
 rw [if_neg e] at *
 by_cases f:cls (av m p)=5
 ·rw [if_pos f] at *
  unfold nI at *
  by_cases a:av m p=46/\jH (av m (p+1))=true
  ·rw [if_pos a];exact ⟨by simp,⟨by simp,by simp⟩,Dh 7 rfl (by decide)⟩
  ·rw [if_neg a] at *;exact mZ _ _ _ _ _ h
 rw [if_neg f] at *
 by_cases g:cls (av m p)=6
 ·rw [if_pos g] at *;exact mZ _ _ _ _ _ h
 rw [if_neg g] at *
 by_cases i:cls (av m p)=7
 ·rw [if_pos i] at *
  unfold iD at *
  by_cases a:av m p=34
  ·rw [if_pos a] at *
   cases hi:lg (l.drop (p+1)) 34 with
   | none=>rw [hi] at h;exact absurd h (by show ¬(7:Int)=0;decide)
   | some x=>
    obtain ⟨t,k⟩:=x
    have j:=mM 34 (by decide) _ _ _ _ hi
    have n:=rF 34 (by decide) _ _ _ _ hi
    rw [aH] at j
    exact ⟨by simp only [nQ];omega,⟨by simp [nQ],by simp [nQ]⟩,Dh 5 rfl (by decide)⟩
  rw [if_neg a] at *
  by_cases b:av m p=39
  ·rw [if_pos b] at *
   cases hi:lg (l.drop (p+1)) 39 with
   | none=>rw [hi] at h;exact absurd h (by show ¬(7:Int)=0;decide)
   | some x=>rw [hi] at h;exact mZ _ _ _ _ _ h
  ·rw [if_neg b] at h;exact absurd h (by decide)
 ·rw [if_neg i] at h;exact absurd h (by decide)
theorem EW (m l:List UInt8) (a:Nat) (h:(bF m l a).r.err=0):Fits l.length (bF m l a).r:=by
 unfold bF at *
 by_cases c:a+bS (m.drop a)=l.length
 ·simp only [if_pos c] at h;exact absurd h (by decide)
 simp only [if_neg c] at *
 by_cases b:(cC m l (a+bS (m.drop a))).err=0
 ·simp only [if_pos b] at *;exact Gc _ _ _ b
 ·simp only [if_neg b] at h;exact absurd h b
theorem AD (m l:List UInt8):∀(f:Nat) (a:Nat) (b:List NextR),(rT f m l a b).l.length<=b.length+f
 | 0,_,_=>bp _
 | f+1,a,b=>by
  rw [mS]
  iterate 2
   split
   ·exact bp _
  split
  ·simp
  ·have:=AD m l f (bF m l a).r.end_.toNat (b++[bF m l a])
   simp at this;omega
structure ToksOk (B:Nat) (T:List NextR):Prop where
 len:T.length<=B+1
 pos:0<T.length
 last:∀i (h:i<T.length),T[i].r.kind=7↔i+1=T.length
 fits:∀t∈T,Fits B t.r
theorem Fz (m l:List UInt8) (g:m.length=l.length) (a:Nat) (f:a<=l.length) (h:(pZ m l a).err=0):ToksOk l.length (pZ m l a).l:=by
 obtain ⟨_,j,d⟩:=(Cw m l g a f).1 h
 refine ⟨by have:=AD m l (l.length+1) a [];simp at this;exact this,List.length_pos_iff.2 j,fun i b=>?_,fun t k=>?_⟩
 ·have:=(d i _ (ba b)).2.2.1
  simpa using this
 ·obtain ⟨i,b⟩:=List.mem_iff_getElem?.1 k
  obtain ⟨c,e,_⟩:=d i t b
  rw [<-c]
  exact EW _ _ _ (by rw [c];exact e)
end Hb
namespace Go.Proofs.YtlikcjbjibhjgaaGreatDoor
open Go.RowKit Hb
structure Lex (w:ai) (b:Nat) (s:ByteArray) (tab:Int->Int) (at_:Int):Prop where
 lt:b<w.heap.size
 c0:w.cell? ⟨b,0,none⟩=some (aa s)
 ct:∀c:Nat,c<256->w.cell? ⟨b,1+c,none⟩=some (ab ae (tab c))
 ca:w.cell? ⟨b,257,none⟩=some (ab ae at_)
 fr:∀o,w.frozen? ⟨b,o,none⟩=false
 sz:s.size<=16384
 tb:DI tab
theorem Lex.same {w w':ai} {b:Nat} {s:ByteArray} {e:Int->Int} {d:Int} (h:Lex w b s e d) (g:w.heap.size<=w'.heap.size) (a:w'.heap[b]? = w.heap[b]?):Lex w' b s e d where
 lt:=aC h.lt g
 c0:=(bG (w:=w) a).trans h.c0
 ct:=fun c f=>(bG (w:=w) a).trans (h.ct c f)
 ca:=(bG (w:=w) a).trans h.ca
 fr:=fun o=>(World.frozen?_of_block (w:=w) a).trans (h.fr o)
 sz:=h.sz
 tb:=h.tb
theorem Lex.below {w w':ai} {b:Nat} {s:ByteArray} {c:Int->Int} {at_:Int} (h:Lex w b s c at_) {B:Nat} (a:ax B w w') (d:b<B):Lex w' b s c at_:=h.same a.size (a.block b d)
theorem Lex.drewN {w:ai} {b:Nat} {s:ByteArray} {a:Int->Int} {at_:Int} (h:Lex w b s a at_) (n:Nat):Lex (w.drewN n) b s a at_:=h.same (ag _) rfl
theorem Lex.tabc {w:ai} {b:Nat} {s:ByteArray} {a:Int->Int} {f:Int} (h:Lex w b s a f) (k:Nat) (c:k<s.size):w.cell? ⟨b,1+s[k].toNat,none⟩=some (ab ae (av (cU a s.data.toList) k)):=by
 have d:k<s.data.toList.length:=by simpa using c
 have e:(a (iK s.data.toList k))=av (cU a s.data.toList) k:=by
  rw [MF a h.tb _ _ d,fq _ _ (by rw [dK];exact d)]
 rw [h.ct s[k].toNat s[k].toNat_lt,kA s k c,e]
theorem bt (b:Nat) (s:ByteArray) (a:Int->Int) (d i:Int) (w:ai) (h:Lex w b s a d) (f:0<=i) :
  aJ ah 88 #[au (some ⟨b,0,none⟩),ab ae i] w fun e w'=>e=aw (ab ae (av (cU a s.data.toList) i.toNat))/\ax w.heap.size w w':=by
 obtain ⟨k,rfl⟩:=bJ f
 have o:=h.sz
 have j:=h.c0
 by_cases g:k<s.size
 ·have l:=h.tabc k g
  have m:=jR s.data.toList k
  have n:(s[k].toNat:Int)<256:=by have:=s[k].toNat_lt;omega
  go_enter Tryz.func88,Tryz.ntmps88
  go_wp2
  go_quiet (fail)
  go_wp2
  go_ret
  exact ⟨dn rfl,dS (aj _ _) _⟩
 ·have c:=zq (ko (cU a s.data.toList) k (by rw [dK];simp;omega))
  go_enter Tryz.func88,Tryz.ntmps88
  go_wp2
  go_ret
  exact ⟨dn c.out.symm,aj _ _⟩
theorem bK (b:Nat) (s:ByteArray) (g:Int->Int) (d i:Int) (w:ai) (h:Lex w b s g d) (f:0<=i) :
  aJ ah 124 #[au (some ⟨b,0,none⟩),ab ae i] w fun e w'=>e=aw (ab ae (av s.data.toList i.toNat))/\w=w':=by
 obtain ⟨k,rfl⟩:=bJ f
 have o:=h.sz
 have j:=h.c0
 by_cases c:k<s.size
 ·have l:=kA s k c
  have a:=zq (fq s.data.toList k (by simpa using c))
  have m:=jR s.data.toList k
  have n:=kh s.data.toList k
  go_enter Tryz.func124,Tryz.ntmps124
  go_wp2
  go_ret
  exact ⟨dn a.out.symm,rfl⟩
 ·have a:=zq (ko s.data.toList k (by simp;omega))
  go_enter Tryz.func124,Tryz.ntmps124
  go_wp2
  go_ret
  exact ⟨dn a.out.symm,rfl⟩
theorem vL (c:Int) (w:ai) :
  aJ ah 116 #[ab ae c] w fun e w'=>e=aw (am (ie c))/\ax w.heap.size w w':=by
 go_enter Tryz.func116,Tryz.ntmps116
 go_wp2
 go_ret
 exact ⟨bN (by unfold ie;simp [bne]),aj _ _⟩
theorem vM (c:Int) (w:ai) :
  aJ ah 123 #[ab ae c] w fun e w'=>e=aw (am (dC c))/\ax w.heap.size w w':=by
 go_enter Tryz.func123,Tryz.ntmps123
 go_wp2_with (go_at_call 79;refine (cZ _ _).mono ?_;rintro e w' ⟨rfl,a⟩)
 go_ret
 exact ⟨bN rfl,a⟩
theorem vO (c:Int) (w:ai) :
  aJ ah 117 #[ab ae c] w fun e w'=>e=aw (am (dI c))/\ax w.heap.size w w':=by
 go_enter Tryz.func117,Tryz.ntmps117
 go_wp2_with (go_at_call 79;refine (cZ _ _).mono ?_;rintro e w' ⟨rfl,a⟩)
 all_goals (go_ret;exact ⟨bN (by grind [dI]),a⟩)
theorem vN (c a:Int) (g:Nat) (w:ai) (b:w.cell? ⟨g,0,none⟩=some (ab ae a)) :
  aJ ah 160 #[ab ae c,au (some ⟨g,0,none⟩)] w fun e w'=>e=aw (am (ii c a))/\ax w.heap.size w w':=by
 go_enter Tryz.func160,Tryz.ntmps160
 go_wp2_with (go_at_call 159;refine (eY _ _ _).mono ?_;rintro e w' ⟨rfl,rfl⟩)
 go_ret
 exact ⟨bN rfl,aj _ _⟩
theorem Ev (b:Nat) (s:ByteArray) (a:Int->Int) (t i:Int) (w:ai) (h:Lex w b s a t) (u:0<=i) :
  aJ ah 115 #[au (some ⟨b,0,none⟩),ab ae i,.func (.func 116) #[] #[]] w fun e w'=>e=aw (ab ae (i+ch (ie) ((cU a s.data.toList).drop i.toNat)))/\ax w.heap.size w w':=by
 obtain ⟨n,rfl⟩:=bJ u
 have C:=h.sz
 have r:=zq h
 have x:=h.lt
 clear h
 rw [aD]
 go_enter Tryz.func115,Tryz.ntmps115
 go_wp2
 go_loopw [1] (fun i wr=>∃k:Nat,i=ab ae k/\ax w.heap.size w wr/\Hid (k+ch (ie) ((cU a s.data.toList).drop k)=n+ch (ie) ((cU a s.data.toList).drop n))) (fun i _=>s.size-(intOf i).toNat)
 case atStart=>exact ⟨n,rfl,aj _ _,rfl⟩
 case round=>
  obtain ⟨k,rfl,d,g⟩:=hrel
  have L:=r.out.below d x
  have A:=L.c0
  have B:=d.size
  by_cases v:k<s.size
  ·have m:k<(cU a s.data.toList).length:=by rw [dK];simpa using v
   have o:=zq (fq (cU a s.data.toList) k m)
   cases hq:(ie) (av (cU a s.data.toList) k)
   ·have c:=zq (sF (ie) (cU a s.data.toList) k m (by rw [<-o.out];exact hq))
    have j:=zq hq
    clear hq
    go_wp2_with (first | (go_at_call 88;refine (bt _ _ _ _ _ _ L (by omega)).mono ?_;rintro e y ⟨rfl,f⟩;rw [aD]) | (go_at_call 116;refine (vL _ _).mono ?_;rintro e z ⟨rfl,l⟩;rw [show ie (av (cU a s.data.toList) k)=false from j.out]))
    go_ret
    exact ⟨dn (by have p:=g.out;have q:=c.out;omega),d.trans ((f.mono (by omega)).trans (l.mono (by have:=f.size;omega)))⟩
   ·have c:=zq (qg (ie) (cU a s.data.toList) k m (by rw [<-o.out];exact hq))
    have j:=zq hq
    clear hq
    go_wp2_with (first | (go_at_call 88;refine (bt _ _ _ _ _ _ L (by omega)).mono ?_;rintro e y ⟨rfl,f⟩;rw [aD]) | (go_at_call 116;refine (vL _ _).mono ?_;rintro e z ⟨rfl,l⟩;rw [show ie (av (cU a s.data.toList) k)=true from j.out]))
    go_roundw
    case rel=>exact ⟨k+1,by go_num,d.trans ((f.mono (by omega)).trans (l.mono (by have:=f.size;omega))),by have p:=g.out;have q:=c.out;show _=_;omega⟩
    case measure=>simp [intOf];omega
  ·have c:=zq (qh (ie) (cU a s.data.toList) k (by rw [dK];simp;omega))
   go_wp2
   go_ret
   exact ⟨dn (by have p:=g.out;have q:=c.out;omega),d⟩
theorem CP (b:Nat) (s:ByteArray) (a:Int->Int) (t i:Int) (w:ai) (h:Lex w b s a t) (u:0<=i) :
  aJ ah 115 #[au (some ⟨b,0,none⟩),ab ae i,.func (.func 123) #[] #[]] w fun e w'=>e=aw (ab ae (i+ch (dC) ((cU a s.data.toList).drop i.toNat)))/\ax w.heap.size w w':=by
 obtain ⟨n,rfl⟩:=bJ u
 have C:=h.sz
 have r:=zq h
 have x:=h.lt
 clear h
 rw [aD]
 go_enter Tryz.func115,Tryz.ntmps115
 go_wp2
 go_loopw [1] (fun i wr=>∃k:Nat,i=ab ae k/\ax w.heap.size w wr/\Hid (k+ch (dC) ((cU a s.data.toList).drop k)=n+ch (dC) ((cU a s.data.toList).drop n))) (fun i _=>s.size-(intOf i).toNat)
 case atStart=>exact ⟨n,rfl,aj _ _,rfl⟩
 case round=>
  obtain ⟨k,rfl,d,g⟩:=hrel
  have L:=r.out.below d x
  have A:=L.c0
  have B:=d.size
  by_cases v:k<s.size
  ·have m:k<(cU a s.data.toList).length:=by rw [dK];simpa using v
   have o:=zq (fq (cU a s.data.toList) k m)
   cases hq:(dC) (av (cU a s.data.toList) k)
   ·have c:=zq (sF (dC) (cU a s.data.toList) k m (by rw [<-o.out];exact hq))
    have j:=zq hq
    clear hq
    go_wp2_with (first | (go_at_call 88;refine (bt _ _ _ _ _ _ L (by omega)).mono ?_;rintro e y ⟨rfl,f⟩;rw [aD]) | (go_at_call 123;refine (vM _ _).mono ?_;rintro e z ⟨rfl,l⟩;rw [show dC (av (cU a s.data.toList) k)=false from j.out]))
    go_ret
    exact ⟨dn (by have p:=g.out;have q:=c.out;omega),d.trans ((f.mono (by omega)).trans (l.mono (by have:=f.size;omega)))⟩
   ·have c:=zq (qg (dC) (cU a s.data.toList) k m (by rw [<-o.out];exact hq))
    have j:=zq hq
    clear hq
    go_wp2_with (first | (go_at_call 88;refine (bt _ _ _ _ _ _ L (by omega)).mono ?_;rintro e y ⟨rfl,f⟩;rw [aD]) | (go_at_call 123;refine (vM _ _).mono ?_;rintro e z ⟨rfl,l⟩;rw [show dC (av (cU a s.data.toList) k)=true from j.out]))
    go_roundw
    case rel=>exact ⟨k+1,by go_num,d.trans ((f.mono (by omega)).trans (l.mono (by have:=f.size;omega))),by have p:=g.out;have q:=c.out;show _=_;omega⟩
    case measure=>simp [intOf];omega
  ·have c:=zq (qh (dC) (cU a s.data.toList) k (by rw [dK];simp;omega))
   go_wp2
   go_ret
   exact ⟨dn (by have p:=g.out;have q:=c.out;omega),d⟩
theorem Ew (b:Nat) (s:ByteArray) (a:Int->Int) (t i:Int) (w:ai) (h:Lex w b s a t) (u:0<=i) :
  aJ ah 115 #[au (some ⟨b,0,none⟩),ab ae i,.func (.func 117) #[] #[]] w fun e w'=>e=aw (ab ae (i+ch (dI) ((cU a s.data.toList).drop i.toNat)))/\ax w.heap.size w w':=by
 obtain ⟨n,rfl⟩:=bJ u
 have C:=h.sz
 have r:=zq h
 have x:=h.lt
 clear h
 rw [aD]
 go_enter Tryz.func115,Tryz.ntmps115
 go_wp2
 go_loopw [1] (fun i wr=>∃k:Nat,i=ab ae k/\ax w.heap.size w wr/\Hid (k+ch (dI) ((cU a s.data.toList).drop k)=n+ch (dI) ((cU a s.data.toList).drop n))) (fun i _=>s.size-(intOf i).toNat)
 case atStart=>exact ⟨n,rfl,aj _ _,rfl⟩
 case round=>
  obtain ⟨k,rfl,d,g⟩:=hrel
  have L:=r.out.below d x
  have A:=L.c0
  have B:=d.size
  by_cases v:k<s.size
  ·have m:k<(cU a s.data.toList).length:=by rw [dK];simpa using v
   have o:=zq (fq (cU a s.data.toList) k m)
   cases hq:(dI) (av (cU a s.data.toList) k)
   ·have c:=zq (sF (dI) (cU a s.data.toList) k m (by rw [<-o.out];exact hq))
    have j:=zq hq
    clear hq
    go_wp2_with (first | (go_at_call 88;refine (bt _ _ _ _ _ _ L (by omega)).mono ?_;rintro e y ⟨rfl,f⟩;rw [aD]) | (go_at_call 117;refine (vO _ _).mono ?_;rintro e z ⟨rfl,l⟩;rw [show dI (av (cU a s.data.toList) k)=false from j.out]))
    go_ret
    exact ⟨dn (by have p:=g.out;have q:=c.out;omega),d.trans ((f.mono (by omega)).trans (l.mono (by have:=f.size;omega)))⟩
   ·have c:=zq (qg (dI) (cU a s.data.toList) k m (by rw [<-o.out];exact hq))
    have j:=zq hq
    clear hq
    go_wp2_with (first | (go_at_call 88;refine (bt _ _ _ _ _ _ L (by omega)).mono ?_;rintro e y ⟨rfl,f⟩;rw [aD]) | (go_at_call 117;refine (vO _ _).mono ?_;rintro e z ⟨rfl,l⟩;rw [show dI (av (cU a s.data.toList) k)=true from j.out]))
    go_roundw
    case rel=>exact ⟨k+1,by go_num,d.trans ((f.mono (by omega)).trans (l.mono (by have:=f.size;omega))),by have p:=g.out;have q:=c.out;show _=_;omega⟩
    case measure=>simp [intOf];omega
  ·have c:=zq (qh (dI) (cU a s.data.toList) k (by rw [dK];simp;omega))
   go_wp2
   go_ret
   exact ⟨dn (by have p:=g.out;have q:=c.out;omega),d⟩
theorem JR (b:Nat) (s:ByteArray) (d:Int->Int) (C i:Int) (a:Int) (g:Nat) (w:ai) (h:Lex w b s d C) (D:0<=i) (E:g<w.heap.size) (x:w.cell? ⟨g,0,none⟩=some (ab ae a)) :
  aJ ah 115 #[au (some ⟨b,0,none⟩),ab ae i,.func (.func 160) #[] #[au (some ⟨g,0,none⟩)]] w fun e w'=>e=aw (ab ae (i+ch (fun c=>ii c a) ((cU d s.data.toList).drop i.toNat)))/\ax w.heap.size w w':=by
 obtain ⟨r,rfl⟩:=bJ D
 have M:=h.sz
 have B:=zq h
 have G:=h.lt
 clear h
 rw [aD]
 have A:=zq x
 clear x
 go_enter Tryz.func115,Tryz.ntmps115
 go_wp2
 go_loopw [1] (fun i wr=>∃k:Nat,i=ab ae k/\ax w.heap.size w wr/\Hid (k+ch (fun c=>ii c a) ((cU d s.data.toList).drop k)=r+ch (fun c=>ii c a) ((cU d s.data.toList).drop r))) (fun i _=>s.size-(intOf i).toNat)
 case atStart=>exact ⟨r,rfl,aj _ _,rfl⟩
 case round=>
  obtain ⟨k,rfl,j,m⟩:=hrel
  have L:=B.out.below j G
  have J:=L.c0
  have K:=j.size
  have y:=(j.cell (p:=⟨g,0,none⟩) E).trans A.out
  have z:g<wr.heap.size:=by omega
  by_cases F:k<s.size
  ·have q:k<(cU d s.data.toList).length:=by rw [dK];simpa using F
   have t:=zq (fq (cU d s.data.toList) k q)
   cases hq:(fun c=>ii c a) (av (cU d s.data.toList) k)
   ·have l:=zq (sF (fun c=>ii c a) (cU d s.data.toList) k q (by rw [<-t.out];exact hq))
    have n:=zq hq
    clear hq
    go_wp2_with (first | (go_at_call 88;refine (bt _ _ _ _ _ _ L (by omega)).mono ?_;rintro e H ⟨rfl,f⟩;rw [aD]) | (go_at_call 160;go_must (refine (vN _ a g _ ((f.cell (p:=⟨g,0,none⟩) z).trans y)).mono ?_);rintro e I ⟨rfl,o⟩;rw [show ii (av (cU d s.data.toList) k) a=false from n.out]))
    go_ret
    exact ⟨dn (by have u:=m.out;have v:=l.out;omega),j.trans ((f.mono (by omega)).trans (o.mono (by have:=f.size;omega)))⟩
   ·have l:=zq (qg (fun c=>ii c a) (cU d s.data.toList) k q (by rw [<-t.out];exact hq))
    have n:=zq hq
    clear hq
    go_wp2_with (first | (go_at_call 88;refine (bt _ _ _ _ _ _ L (by omega)).mono ?_;rintro e H ⟨rfl,f⟩;rw [aD]) | (go_at_call 160;go_must (refine (vN _ a g _ ((f.cell (p:=⟨g,0,none⟩) z).trans y)).mono ?_);rintro e I ⟨rfl,o⟩;rw [show ii (av (cU d s.data.toList) k) a=true from n.out]))
    go_roundw
    case rel=>exact ⟨k+1,by go_num,j.trans ((f.mono (by omega)).trans (o.mono (by have:=f.size;omega))),by have u:=m.out;have v:=l.out;show _=_;omega⟩
    case measure=>simp [intOf];omega
  ·have l:=zq (qh (fun c=>ii c a) (cU d s.data.toList) k (by rw [dK];simp;omega))
   go_wp2
   go_ret
   exact ⟨dn (by have u:=m.out;have v:=l.out;omega),j⟩
theorem pP:(Tryz.prog.info? 5).map (fun i=>(i.zero,i.size,i.bytes))=some (some (ab .u8 0),1,1):=by kernel_rfl
theorem DX (l:List UInt8) (k:Nat) (h:k<l.length):l.take (k+1)=l.take k++[(iK l k).toNat.toUInt8]:=by
 rw [aO h,<-iJ _ _ h];simp
theorem te (l:List UInt8) (i k:Nat) (h:i+k<l.length):(l.drop i).take (k+1)=(l.drop i).take k++[(iK l (i+k)).toNat.toUInt8]:=by
 rw [DX _ _ (by simp;omega),Az]
theorem jC (b:Nat) (s:ByteArray) (c:Int->Int) (r i j:Int) (w:ai) (h:Lex w b s c r) (t:0<=i) (D:i<=j) (E:j<=s.size) :
  aJ ah 119 #[au (some ⟨b,0,none⟩),ab ae i,ab ae j] w fun e w'=>e=aw (aa ⟨(((cU c s.data.toList).drop i.toNat).take (j-i).toNat).toArray⟩)/\ax w.heap.size w w':=by
 obtain ⟨a,rfl⟩:=bJ t
 obtain ⟨n,A⟩:=bJ (show 0<=j-a by omega)
 obtain rfl:j=a+n:=by omega
 have I:=h.sz
 have o:=zq h
 have z:=h.lt
 clear h A
 rw [aD,show ((a:Int)+n-a).toNat=n by omega]
 go_enter Tryz.func119,Tryz.ntmps119
 go_wp2
 go_loopw [7,8] (fun v i wr=>∃k:Nat,k<=n/\i=ab ae (a+k:Nat)/\ax w.heap.size w wr/\wr.ownsRow w.heap.size 5 1 v k (Hb.byteCells (((cU c s.data.toList).drop a).take k))) (fun _ i _=>a+n-(intOf i).toNat)
 case atStart=>exact ⟨0,bp _,rfl,aj _ _,⟨by simp [Hb.byteCells],.inl ⟨rfl,rfl⟩⟩⟩
 case round=>
  obtain ⟨k,g,rfl,f,m⟩:=hrel
  have L:=o.out.below f z
  have C:=L.c0
  have H:=f.size
  by_cases G:k<n
  ·have l:a+k<(cU c s.data.toList).length:=by rw [dK];simp;omega
   have p:=zq (fq (cU c s.data.toList) (a+k) l)
   have q:=zq (te (cU c s.data.toList) a k l)
   have x:=jR (cU c s.data.toList) (a+k)
   have y:=kh (cU c s.data.toList) (a+k)
   go_wp2_with (first | (go_at_call 88;refine (bt _ _ _ _ _ _ L (by omega)).mono ?_;rintro e K ⟨rfl,d⟩;rw [show ((a:Int)+k).toNat=a+k by omega,p.out]) | (at_builtin;go_must (refine eV rfl _ _ 106 5 rfl bU pP w.heap.size _ _ _ rfl _ (m.kept (row:=none) ⟨d.os,d.tape,d.output,d.size,fun k g _=>d.block k g⟩ (by simp [Value.ownBlock];split <;> simp)) _ x y rfl rfl (by omega) (by have:=d.size;omega) ?_;intro J M B u)))
   go_roundw
   case rel=>exact ⟨k+1,by omega,by go_num,f.trans ((d.mono (by omega)).trans u),by rw [q.out];exact B⟩
   case measure=>simp [intOf];omega
  ·obtain rfl:k=n:=by omega
   have F:=qM (P:=ah) wr 106 9 5 bU Tryz.underlying5 Tryz.underlying9 _ _ k _ m
   go_wp2
   go_ret
   exact ⟨oM rfl,f⟩
theorem Eo (M:List UInt8) (k e X:Nat) (d:k+2<=e) (c:k+bS (M.drop k)=X) (b:bS (M.drop k)=(e-(k+2)+4)+bS (M.drop (k+(e-(k+2)+4)))):e+2+bS (M.drop (e+2))=X:=by
 have a:k+(e-(k+2)+4)=e+2:=by omega
 rw [a] at b;omega
theorem uD (M:List UInt8) (k e:Nat) (b:k+2<=e) (h:eE (M.drop (k+2))=(eE (M.drop e)).map (· + (e-(k+2)))) (a:eE (M.drop e)=(eE (M.drop (e+1))).map (· + 1)) :
  eE (M.drop (k+2))=(eE (M.drop (e+1))).map (· + (e+1-(k+2))):=by
 rw [h,a,Option.map_map]
 congr 1
 funext x
 simp;omega
theorem iT (b:Nat) (s:ByteArray) (K:Int->Int) (a0 i:Int) (w:ai) (h:Lex w b s K a0) (h0:0<=i) :
  aJ ah 81 #[au (some ⟨b,0,none⟩),ab ae i] w fun e w'=>e=aw (ab ae (i+bS ((cU K s.data.toList).drop i.toNat)))/\ax w.heap.size w w':=by
 obtain ⟨S,rfl⟩:=bJ h0
 have c4:=h.sz
 have V:=zq h
 have Y:=h.lt
 clear h
 rw [aD]
 have F:Hid ((cU K s.data.toList).length=s.size):=by show _=_;rw [dK];simp
 generalize X:cU K s.data.toList=M at *
 have d:=zq X
 clear X
 go_enter Tryz.func81,Tryz.ntmps81
 go_wp2_with fail
 go_loopw [1] (fun i wr=>∃k:Nat,i=ab ae k/\ax w.heap.size w wr/\Hid (k+bS (M.drop k)=S+bS (M.drop S))) (fun i _=>s.size-(intOf i).toNat)
 case atStart=>exact ⟨S,rfl,aj _ _,rfl⟩
 case round=>
  obtain ⟨k,rfl,l,t⟩:=hrel
  have L:=V.out.below l Y
  have W:=L.c0
  have hs:=l.size
  by_cases b6:k<s.size
  ·have n:k<M.length:=by rw [F.out];exact b6
   have b7:=dX M k
   have c1:0<=av M k:=by have:=dX M k;omega
   clear b7
   by_cases f:cls (av M k)=1
   ·have j:=zq (Gz M k n f)
    have b1:(cls (av M k)==1)=true:=by simp [f]
    clear f
    go_wp2_with fail
    refine (bt _ _ _ _ _ _ L (by omega)).mono ?_;rintro e G ⟨rfl,a⟩;rw [aD,d.out]
    go_wp2_with fail
    refine (cZ _ _).mono ?_;rintro e N ⟨rfl,c⟩
    go_wp2_with fail
    go_roundw
    case rel=>exact ⟨k+1,by go_num,l.trans ((a.mono (by omega)).trans (c.mono (by have:=a.size;omega))),by have D:=t.out;have E:=j.out;show _=_;omega⟩
    case measure=>simp [intOf];omega
   have b1:(cls (av M k)==1)=false:=by simp [f]
   by_cases g:av M k=37
   ·have j:=zq (Gy M k n f g)
    have c2:=lC ie (M.drop k) (by simp;omega) (by rw [bZ,Nat.add_zero,g];rfl)
    have b2:(av M k==37)=true:=by simp [g]
    have T:=zq g
    clear f g
    go_wp2_with fail
    refine (bt _ _ _ _ _ _ L (by omega)).mono ?_;rintro e G ⟨rfl,a⟩;rw [aD,d.out]
    go_wp2_with fail
    refine (cZ _ _).mono ?_;rintro e N ⟨rfl,c⟩
    have o:=(L.below a L.lt).below c (L.below a L.lt).lt
    go_wp2_with fail
    refine (Ev _ _ _ _ _ _ o (by omega)).mono ?_;rintro e w3 ⟨rfl,v⟩;rw [aD,d.out]
    go_wp2_with fail
    go_roundw
    case rel=>exact ⟨k+ch ie (M.drop k),by go_num,l.trans ((a.mono (by omega)).trans ((c.mono (by have:=a.size;omega)).trans (v.mono (by have:=a.size;have:=c.size;omega)))),by have D:=t.out;have E:=j.out;show _=_;omega⟩
    case measure=>simp [intOf];omega
   have b2:(av M k==37)=false:=by simp [g]
   by_cases z:av M k=47
   ·have b3:(av M k==47)=true:=by simp [z]
    have A1:=zq f
    have T:=zq g
    have U:=zq z
    clear f g z
    by_cases A:av M (k+1)=42
    ·have b4:(av M (k+1)==42)=true:=by simp [A]
     have O:=zq A
     clear A
     go_wp2_with fail
     refine (bt _ _ _ _ _ _ L (by omega)).mono ?_;rintro e G ⟨rfl,a⟩;rw [aD,d.out]
     go_wp2_with fail
     refine (cZ _ _).mono ?_;rintro e N ⟨rfl,c⟩
     have o:=(L.below a L.lt).below c (L.below a L.lt).lt
     go_wp2_with fail
     refine (bt _ _ _ _ _ _ o (by omega)).mono ?_;rintro e w3 ⟨rfl,v⟩;rw [show ((k:Int)+1).toNat=k+1 by omega,d.out]
     have L3:=o.below v o.lt
     have a9:ax w.heap.size w w3:=l.trans ((a.mono (by omega)).trans ((c.mono (by have:=a.size;omega)).trans (v.mono (by have:=a.size;have:=c.size;omega))))
     clear a c v o L W l
     go_wp2_with fail
     go_loopw [6] (fun x wx=>∃e:Nat,k+2<=e/\e<=s.size/\x=ab ae e/\ax w.heap.size w wx/\Hid (eE (M.drop (k+2))=(eE (M.drop e)).map (· + (e-(k+2))))) (fun x _=>s.size-(intOf x).toNat)
     case atStart=>
      have b5:k+2<=s.size:=by
       have:=dX M (k+1);have:=O.out;have:=F.out;omega
      exact ⟨k+2,ag _,b5,by go_num,a9,by show _=_;simp⟩
     case round=>
      obtain ⟨e,Q,b8,rfl,B,H⟩:=hrel
      have p:=V.out.below B Y
      have W:=p.c0
      have c3:=B.size
      by_cases b0:e<s.size
      ·have R:e<M.length:=by rw [F.out];exact b0
       by_cases q:av M e=42
       ·have a5:(av M e==42)=true:=by simp [q]
        have a6:(av M e != 42)=false:=by simp [q]
        have D1:=zq q
        clear q
        by_cases r:av M (e+1)=47
        ·have a7:(av M (e+1)==47)=true:=by simp [r]
         have a8:(av M (e+1) != 47)=false:=by simp [r]
         have u:=zq (An M e R D1.out r)
         have P:=zq (GB M k (e-(k+2)) n U.out O.out (by rw [H.out,u.out];simp))
         clear r
         go_wp2_with fail
         refine (bt _ _ _ _ _ _ p (by omega)).mono ?_;rintro I Z ⟨rfl,m⟩;rw [aD,d.out]
         have C:=p.below m p.lt
         go_wp2_with fail
         refine (bt _ _ _ _ _ _ C (by omega)).mono ?_;rintro I w5 ⟨rfl,J⟩;rw [show ((e:Int)+1).toNat=e+1 by omega,d.out]
         have L5:=C.below J C.lt
         have c5:=L5.c0
         have b9:((e:Int)==(s.size:Int))=false:=by simp;omega
         go_wp2_with fail
         go_roundw
         case rel=>exact ⟨e+2,by go_num,B.trans ((m.mono (by omega)).trans (J.mono (by have:=m.size;omega))),Eo M k e _ Q t.out P.out⟩
         case measure=>simp [intOf];omega
        ·have a7:(av M (e+1)==47)=false:=by simp [r]
         have a8:(av M (e+1) != 47)=true:=by simp [r]
         have u:=zq (uE M e R (fun y=>r y.2))
         clear r
         go_wp2_with fail
         refine (bt _ _ _ _ _ _ p (by omega)).mono ?_;rintro I Z ⟨rfl,m⟩;rw [aD,d.out]
         have C:=p.below m p.lt
         go_wp2_with fail
         refine (bt _ _ _ _ _ _ C (by omega)).mono ?_;rintro I w5 ⟨rfl,J⟩;rw [show ((e:Int)+1).toNat=e+1 by omega,d.out]
         go_wp2_with fail
         go_roundw
         case rel=>exact ⟨e+1,by omega,by omega,by go_num,B.trans ((m.mono (by omega)).trans (J.mono (by have:=m.size;omega))),uD M k e Q H.out u.out⟩
         case measure=>simp [intOf];omega
       ·have a5:(av M e==42)=false:=by simp [q]
        have a6:(av M e != 42)=true:=by simp [q]
        have u:=zq (uE M e R (fun y=>q y.1))
        clear q
        go_wp2_with fail
        refine (bt _ _ _ _ _ _ p (by omega)).mono ?_;rintro I Z ⟨rfl,m⟩;rw [aD,d.out]
        go_wp2_with fail
        go_roundw
        case rel=>exact ⟨e+1,by omega,by omega,by go_num,B.trans (m.mono (by omega)),uD M k e Q H.out u.out⟩
        case measure=>simp [intOf];omega
      ·obtain rfl:e=s.size:=by omega
       have u:=zq (Ao M s.size (by rw [F.out];exact ag _))
       have P:=zq (Ep M k n U.out O.out (by rw [H.out,u.out];rfl))
       go_wp2_with fail
       go_ret
       exact ⟨dn (by have D:=t.out;have E:=P.out;omega),B⟩
    ·have b4:(av M (k+1)==42)=false:=by simp [A]
     have j:=zq (CL M k n A1.out T.out (fun y=>A y.2))
     clear A
     go_wp2_with fail
     refine (bt _ _ _ _ _ _ L (by omega)).mono ?_;rintro e G ⟨rfl,a⟩;rw [aD,d.out]
     go_wp2_with fail
     refine (cZ _ _).mono ?_;rintro e N ⟨rfl,c⟩
     have o:=(L.below a L.lt).below c (L.below a L.lt).lt
     go_wp2_with fail
     refine (bt _ _ _ _ _ _ o (by omega)).mono ?_;rintro e w3 ⟨rfl,v⟩;rw [show ((k:Int)+1).toNat=k+1 by omega,d.out]
     go_wp2_with fail
     go_ret
     exact ⟨dn (by have D:=t.out;have E:=j.out;omega),l.trans ((a.mono (by omega)).trans ((c.mono (by have:=a.size;omega)).trans (v.mono (by have:=a.size;have:=c.size;omega))))⟩
   ·have b3:(av M k==47)=false:=by simp [z]
    have j:=zq (CL M k n f g (fun y=>z y.1))
    clear f g z
    go_wp2_with fail
    refine (bt _ _ _ _ _ _ L (by omega)).mono ?_;rintro e G ⟨rfl,a⟩;rw [aD,d.out]
    go_wp2_with fail
    refine (cZ _ _).mono ?_;rintro e N ⟨rfl,c⟩
    go_wp2_with fail
    go_ret
    exact ⟨dn (by have D:=t.out;have E:=j.out;omega),l.trans ((a.mono (by omega)).trans (c.mono (by have:=a.size;omega)))⟩
  ·have n:M.length<=k:=by rw [F.out];omega
   have HR:=zq (ko M k n)
   have j:=zq (GA M k n)
   go_wp2_with fail
   refine (bt _ _ _ _ _ _ L (by omega)).mono ?_;rintro e G ⟨rfl,a⟩;rw [aD,d.out,HR.out]
   go_wp2_with fail
   go_ret
   exact ⟨dn (by have D:=t.out;have E:=j.out;omega),l.trans (a.mono (by omega))⟩
theorem wN {w c d w3:ai} {B:Nat} (a:B<=w.heap.size) (b:ax w.heap.size w c) (e:ax c.heap.size c d) (f:ax d.heap.size d w3):ax B w w3 :=
 (b.mono a).trans ((e.mono (aI a b.size)).trans (f.mono (aI a (aI b.size e.size))))
theorem FY {w a w2:ai} {B:Nat} (b:B<=w.heap.size) (c:ax w.heap.size w a) (d:ax a.heap.size a w2):ax B w w2 :=
 (c.mono b).trans (d.mono (aI b c.size))
def bV (r:LexR):Value:=.tuple #[aN #[ab ae r.kind,aa ⟨r.text.toArray⟩,ab ae r.n,ab ae r.at_,ab ae r.end_,am false],ab ae r.err]
def gj (r:LexR) (e:Ending):Prop:=e=aw (bV r)
theorem mL (b:Nat) (s:ByteArray) (i:Int->Int) (a d c:Int) (t:List UInt8) (w:ai) (h:Lex w b s i a) (l:t.length<=9223372036854775807) :
  aJ ah 118 #[au (some ⟨b,0,none⟩),ab ae d,aa ⟨t.toArray⟩,ab ae c] w fun e w'=>gj (dM d t a c) e/\ax w.heap.size w w':=by
 have j:=h.ca
 have k:=h.lt
 by_cases g:100<t.length
 ·have f:=zq (show dM d t a c=dR 2 by unfold dM;rw [if_pos g])
  go_enter Tryz.func118,Tryz.ntmps118
  go_wp2
  refine ay (v:=.tuple #[aN #[ab ae 0,aa ⟨#[]⟩,ab ae 0,ab ae 0,ab ae 0,am false],ab ae 2]) (by simp [results,Tryz.results118,go_sem]) rfl ⟨?_,(aj _ _).alloc (ag _) _⟩
  rw [f.out];rfl
 ·have f:=zq (show dM d t a c=⟨d,t,0,a,c,0⟩ by unfold dM;rw [if_neg g])
  go_enter Tryz.func118,Tryz.ntmps118
  go_wp2
  refine ay (v:=.tuple #[aN #[ab ae d,aa ⟨t.toArray⟩,ab ae 0,ab ae a,ab ae c,am false],ab ae 0]) (by simp [results,Tryz.results118,go_sem]) rfl ⟨?_,(aj _ _).alloc (ag _) _⟩
  rw [f.out];rfl
def fm:Obj:=.cells #[ab ae 0,aa ⟨#[]⟩,ab ae 0,ab ae 0,ab ae 0,am false] 83
theorem lp {w w':ai} {B:Nat} (a:ax B (w.alloc fm) w') (h:w.heap.size<B) :
  w'.cell? ⟨w.heap.size,0,none⟩=some (ab ae 0)/\w'.cell? ⟨w.heap.size,1,none⟩=some (aa ⟨#[]⟩)/\w'.cell? ⟨w.heap.size,2,none⟩=some (ab ae 0)/\w'.cell? ⟨w.heap.size,3,none⟩=some (ab ae 0)/\w'.cell? ⟨w.heap.size,4,none⟩=some (ab ae 0)/\w'.cell? ⟨w.heap.size,5,none⟩=some (am false)/\∀o,w'.frozen? ⟨w.heap.size,o,none⟩=false:=by
 have e:∀o,w'.cell? ⟨w.heap.size,o,none⟩=(w.alloc fm).cell? ⟨w.heap.size,o,none⟩:=fun o=>a.cell (p:=⟨w.heap.size,o,none⟩) h
 have b:(w.alloc fm).heap[w.heap.size]? = some fm:=by show (w.heap.push _)[w.heap.size]? = _;simp
 refine ⟨?_,?_,?_,?_,?_,?_,fun o=>?_⟩
 ·rw [e];unfold fm;rw [aq];rfl
 ·rw [e];unfold fm;rw [aq];rfl
 ·rw [e];unfold fm;rw [aq];rfl
 ·rw [e];unfold fm;rw [aq];rfl
 ·rw [e];unfold fm;rw [aq];rfl
 ·rw [e];unfold fm;rw [aq];rfl
 ·rw [a.frozen (p:=⟨w.heap.size,o,none⟩) h]
  unfold World.frozen?;simp only [b];unfold fm;simp
theorem lM {w w':ai} {B g:Nat} (h:ax B w w') (i:B<=g) (a b c d e f:Value):ax B w ((((((w'.setCell ⟨g,0,none⟩ a).setCell ⟨g,1,none⟩ b).setCell ⟨g,2,none⟩ c).setCell ⟨g,3,none⟩ d).setCell ⟨g,4,none⟩ e).setCell ⟨g,5,none⟩ f) :=
 (((((h.setCell (p:=⟨g,_,none⟩) i _).setCell (p:=⟨g,_,none⟩) i _).setCell (p:=⟨g,_,none⟩) i _).setCell (p:=⟨g,_,none⟩) i _).setCell (p:=⟨g,_,none⟩) i _).setCell (p:=⟨g,_,none⟩) i _
theorem zN (b:Nat) (s:ByteArray) (d:Int->Int) (p:Nat) (w:ai) (h:Lex w b s d p) (T:p<=s.size) :
  aJ ah 83 #[au (some ⟨b,0,none⟩)] w fun e w'=>gj (pf (cU d s.data.toList) p) e/\ax w.heap.size w w':=by
 have G:=h.ca
 have B:=h.lt
 have U:=h.sz
 have t:=zq h
 clear h
 have H:Hid ((cU d s.data.toList).length=s.size):=by show _=_;rw [dK];simp
 have I:=fW dI ((cU d s.data.toList).drop p)
 rw [aH,H.out] at I
 generalize A:cU d s.data.toList=M at *
 have k:=zq A
 clear A
 have D:=zq (show pf M p=dM (ly (av M p)) ((M.drop p).take (ch dI (M.drop p))) p (p+ch dI (M.drop p)) from rfl)
 have m:=(aj w.heap.size w).alloc (ag _) fm
 have y:w.heap.size<(w.alloc fm).heap.size:=by simp
 cases b1:cls (av M p)==3
 all_goals
  have j:=zq b1
  clear b1
  go_enter Tryz.func83,Tryz.ntmps83
  go_wp2_with fail
  refine (bt _ _ _ _ _ _ (t.out.below m B) (by omega)).mono ?_;rintro e W ⟨rfl,f⟩;rw [aD,k.out]
  have l:=(t.out.below m B).below f (by simp;omega)
  go_wp2_with fail
  refine (cZ _ _).mono ?_;rintro e X ⟨rfl,g⟩
  have a:=l.below g l.lt
  have E:=a.ca
  have R:=j.out
  go_wp2_with fail
  refine (Ew _ _ _ _ _ _ a (by omega)).mono ?_;rintro e Y ⟨rfl,i⟩;rw [aD,k.out]
  have c:=a.below i a.lt
  have F:=c.ca
  go_wp2_with fail
  refine (jC _ _ _ _ _ _ _ c (by omega) (by omega) (by omega)).mono ?_;rintro e Z ⟨rfl,o⟩;rw [aD,k.out,show ((p:Int)+ch dI (M.drop p)-p).toNat=ch dI (M.drop p) by omega]
  have x:=c.below o c.lt
  go_wp2_with fail
  refine (mL _ _ _ _ _ _ _ _ x (by have:=List.length_take_le (ch dI (M.drop p)) (M.drop p);omega)).mono ?_;rintro e Q ⟨q,z⟩
  generalize C:dM _ _ _ _=r at q
  have u:=zq C
  clear C
  unfold gj bV at q;subst q
  have n:=(wN (ag _) f g i).trans (FY (by have:=f.size;have:=g.size;have:=i.size;omega) o z)
  obtain ⟨J,K,L,N,O,P,V⟩:=lp n y
  have S:w.heap.size<Q.heap.size:=aC y n.size
  clear f g i o z l a c x E F G
  go_wp2_with fail
  refine ay (v:=bV r) (by simp [bV,results,Tryz.results83,go_sem,J,K,L,N,O,P]) rfl ⟨?_,lM (m.trans (n.mono (by omega))) (ag _) _ _ _ _ _ _⟩
  rw [D.out];unfold ly;first | (rw [if_pos (by simpa using j.out),u.out];rfl) | (rw [if_neg (by simpa using j.out),u.out];rfl)
theorem tW (b:Nat) (s:ByteArray) (L:Int->Int) (p:Nat) (w:ai) (h:Lex w b s L p) (hp:p<=s.size) :
  aJ ah 85 #[au (some ⟨b,0,none⟩)] w fun e w'=>gj (nI (cU L s.data.toList) p) e/\ax w.heap.size w w':=by
 have V:=h.ca
 have A:=h.lt
 have a6:=h.sz
 have x:=zq h
 clear h
 have a0:Hid ((cU L s.data.toList).length=s.size):=by show _=_;rw [dK];simp
 have a5:=fW dC ((cU L s.data.toList).drop p)
 rw [aH,a0.out] at a5
 generalize Y:cU L s.data.toList=M at *
 have i:=zq Y
 clear Y
 have g:=(aj w.heap.size w).alloc (ag _) fm
 have k:w.heap.size<(w.alloc fm).heap.size:=by simp
 by_cases l:av M p=46
 ·have b1:(av M p==46)=true:=by simp [l]
  by_cases j:jH (av M (p+1))=true
  ·have H:=zq (show nI M p=⟨7,[46],0,p,p+1,0⟩ by unfold nI;rw [if_pos ⟨l,j⟩])
   have Z:=zq j
   clear l j
   have hd:decide (av M (p+1)<0)=true\/(decide (av M (p+1)<0)=false/\((av M (p+1)==37)=true\/((av M (p+1)==37)=false/\(cls (av M (p+1))==1)=true))):=by have:=Z.out;unfold jH at this;grind
   rcases hd with W | ⟨W,X | ⟨X,d3⟩⟩
   all_goals
    go_enter Tryz.func85,Tryz.ntmps85
    go_wp2_with fail
    refine (bt _ _ _ _ _ _ (x.out.below g A) (by omega)).mono ?_;rintro e w1 ⟨rfl,n⟩;rw [aD,i.out]
    have f:=(x.out.below g A).below n (by simp;omega)
    have U:=f.ca
    go_wp2_with fail
    refine (bt _ _ _ _ _ _ f (by omega)).mono ?_;rintro e w2 ⟨rfl,o⟩;rw [show ((p:Int)+1).toNat=p+1 by omega,i.out]
    have y:=f.below o f.lt
    have c2:=y.ca
    have a:ax (w.alloc fm).heap.size (w.alloc fm) w2:=FY (ag _) n o
    go_wp2_with (go_at_call 79;refine (cZ _ _).mono ?_;rintro e S ⟨rfl,z⟩;have N:=(z.cell (p:=⟨b,257,none⟩) y.lt).trans c2;have Q:=a.trans (z.mono (aI n.size o.size));clear a)
    first | (obtain ⟨B,C,D,E,F,G,R⟩:=lp Q k;have a3:w.heap.size<S.heap.size:=aC k Q.size) | (obtain ⟨B,C,D,E,F,G,R⟩:=lp a k;have a3:w.heap.size<w2.heap.size:=aC k a.size)
    go_region
    go_wp2_with fail
    refine ay (v:=bV ⟨7,[46],0,p,p+1,0⟩) (by simp [bV,results,Tryz.results85,go_sem,B,C,D,E,F,G]) rfl ⟨?_,?_⟩
    ·rw [H.out];rfl
    ·first | exact (lM (g.trans (Q.mono (by omega))) (ag _) _ _ _ _ _ _).drew | exact (lM (g.trans (a.mono (by omega))) (ag _) _ _ _ _ _ _).drew
  ·have H:=zq (show nI M p=dM 1 ((M.drop p).take (ch dC (M.drop p))) p (p+ch dC (M.drop p)) by unfold nI;rw [if_neg (fun h=>j h.2)])
   have W:decide (av M (p+1)<0)=false:=by unfold jH at j;grind
   have X:(av M (p+1)==37)=false:=by unfold jH at j;grind
   have d3:(cls (av M (p+1))==1)=false:=by unfold jH at j;grind
   clear l j
   go_enter Tryz.func85,Tryz.ntmps85
   go_wp2_with fail
   refine (bt _ _ _ _ _ _ (x.out.below g A) (by omega)).mono ?_;rintro e w1 ⟨rfl,n⟩;rw [aD,i.out]
   have f:=(x.out.below g A).below n (by simp;omega)
   have U:=f.ca
   go_wp2_with fail
   refine (bt _ _ _ _ _ _ f (by omega)).mono ?_;rintro e w2 ⟨rfl,o⟩;rw [show ((p:Int)+1).toNat=p+1 by omega,i.out]
   have y:=f.below o f.lt
   go_wp2_with fail
   refine (cZ _ _).mono ?_;rintro e S ⟨rfl,z⟩
   have c:=y.below z y.lt
   have a:=wN (ag _) n o z
   have N:=c.ca
   clear n o z f y U
   go_wp2_with fail
   refine (CP _ _ _ _ _ _ c (by omega)).mono ?_;rintro e w4 ⟨rfl,q⟩;rw [aD,i.out]
   have d:=c.below q c.lt
   have P:=d.ca
   go_wp2_with fail
   refine (jC _ _ _ _ _ _ _ d (by omega) (by omega) (by omega)).mono ?_;rintro e w5 ⟨rfl,t⟩;rw [aD,i.out,show ((p:Int)+ch dC (M.drop p)-p).toNat=ch dC (M.drop p) by omega]
   have I:=d.below t d.lt
   go_wp2_with fail
   refine (mL _ _ _ _ _ _ _ _ I (by have:=List.length_take_le (ch dC (M.drop p)) (M.drop p);omega)).mono ?_;rintro e T ⟨u,J⟩
   generalize K:dM _ _ _ _=r at u
   have O:=zq K
   clear K
   unfold gj bV at u;subst u
   have m:=a.trans (wN a.size q t J)
   obtain ⟨B,C,D,E,F,G,R⟩:=lp m k
   have a4:w.heap.size<T.heap.size:=aC k m.size
   clear q t J c d I N P V
   go_wp2_with fail
   refine ay (v:=bV r) (by simp [bV,results,Tryz.results85,go_sem,B,C,D,E,F,G]) rfl ⟨?_,lM (g.trans (m.mono (by omega))) (ag _) _ _ _ _ _ _⟩
   rw [H.out,O.out];rfl
 ·have b1:(av M p==46)=false:=by simp [l]
  have H:=zq (show nI M p=dM 1 ((M.drop p).take (ch dC (M.drop p))) p (p+ch dC (M.drop p)) by unfold nI;rw [if_neg (fun h=>l h.1)])
  clear l
  go_enter Tryz.func85,Tryz.ntmps85
  go_wp2_with fail
  refine (bt _ _ _ _ _ _ (x.out.below g A) (by omega)).mono ?_;rintro e S ⟨rfl,a⟩;rw [aD,i.out]
  have c:=(x.out.below g A).below a (by simp;omega)
  have N:=c.ca
  go_wp2_with fail
  refine (CP _ _ _ _ _ _ c (by omega)).mono ?_;rintro e w4 ⟨rfl,q⟩;rw [aD,i.out]
  have d:=c.below q c.lt
  have P:=d.ca
  go_wp2_with fail
  refine (jC _ _ _ _ _ _ _ d (by omega) (by omega) (by omega)).mono ?_;rintro e w5 ⟨rfl,t⟩;rw [aD,i.out,show ((p:Int)+ch dC (M.drop p)-p).toNat=ch dC (M.drop p) by omega]
  have I:=d.below t d.lt
  go_wp2_with fail
  refine (mL _ _ _ _ _ _ _ _ I (by have:=List.length_take_le (ch dC (M.drop p)) (M.drop p);omega)).mono ?_;rintro e T ⟨u,J⟩
  generalize K:dM _ _ _ _=r at u
  have O:=zq K
  clear K
  unfold gj bV at u;subst u
  have m:=a.trans (wN a.size q t J)
  obtain ⟨B,C,D,E,F,G,R⟩:=lp m k
  have a4:w.heap.size<T.heap.size:=aC k m.size
  clear q t J c d I N P V
  go_wp2_with fail
  refine ay (v:=bV r) (by simp [bV,results,Tryz.results85,go_sem,B,C,D,E,F,G]) rfl ⟨?_,lM (g.trans (m.mono (by omega))) (ag _) _ _ _ _ _ _⟩
  rw [H.out,O.out];rfl
end Go.Proofs.YtlikcjbjibhjgaaGreatDoor
