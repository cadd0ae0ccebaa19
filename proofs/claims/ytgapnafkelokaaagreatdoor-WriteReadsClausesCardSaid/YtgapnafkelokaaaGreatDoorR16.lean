/- Parts of the proof. -/
import Derived.Test.YtgapnafkelokaaaGreatDoorR14
import Derived.Test.YtgapnafkelokaaaGreatDoorR15
import Derived.Test.YtgapnafkelokaaaGreatDoorR12
import Derived.Test.YtgapnafkelokaaaGreatDoorR13
import Derived.Test.YtgapnafkelokaaaGreatDoorR01
import Derived.Test.YtgapnafkelokaaaGreatDoorR02
import Derived.Test.YtgapnafkelokaaaGreatDoorR04
import Derived.Deep.DeepMust
import Derived.Deep.RegionHeld3
import Derived.RegionTactic
import Derived.BigRegion
set_option maxHeartbeats 12800000
set_option maxRecDepth 100000
open Go renaming Calls -> aG, World -> aj, bodyPost_ret -> aw, execOp -> aV
open Go.Ending renaming returned -> av
open Go.IntKind renaming i64 -> ae
open Go.Proofs.Tryz renaming prog -> ah, underlying75 -> bU
open Go.RowKit renaming Below -> ay
open Go.RowKit.Below renaming refl -> ak
open Go.Value renaming agg -> aN, bool -> an, int -> ab, pointer -> ax, string -> aa
open Go.World renaming cell?_alloc_new -> aq, cell?_of_block -> cG
open Int renaming eq_ofNat_of_zero_le -> bA, toNat_natCast -> aD
open List renaming getElem?_append_left -> dT, getElem?_eq_getElem -> aT, length_append -> aC, length_drop -> aI, range -> aX, take_succ_eq_append_getElem -> aK
open Nat renaming le_refl -> ag, le_trans -> aH, lt_of_lt_of_le -> aB, zero_le -> bj
namespace Go.Proofs.YtgapnafkelokaaaGreatDoor
open Go.RowKit Hb
theorem rV (t u:Tm) (A B:Option Addr) (r n:Nat) (w:aj) (hT:TmsAt w.heap.size w A t.args) (hU:TmsAt w.heap.size w B u.args) (a3:bu t=true) (a4:bu u=true):aG ah 28 #[dR t A r,dR u B n] w fun e w'=>e=av (an (tF (iV t) (iV u)))/\ay w.heap.size w w':=by
 obtain ⟨q,HQ⟩:=lz (iV t)
 obtain ⟨p,HP⟩:=lz (iV u)
 have HT:=zq hT
 have HU:=zq hU
 have s:Hid (ay w.heap.size w ((w.alloc (.cells #[ab ae t.kind,ab ae t.num,aa t.name,.slice A t.args.length r] 24)).alloc (.cells #[ab ae u.kind,ab ae u.num,aa u.name,.slice B u.args.length n] 24))):=zq (((ak _ w).alloc (ag _) _).alloc (by simp) _)
 have x:Hid (Bks ((w.alloc (.cells #[ab ae t.kind,ab ae t.num,aa t.name,.slice A t.args.length r] 24)).alloc (.cells #[ab ae u.kind,ab ae u.num,aa u.name,.slice B u.args.length n] 24)) [(w.heap.size+1,[ab ae u.kind,ab ae u.num,aa u.name,.slice B u.args.length n]),(w.heap.size,[ab ae t.kind,ab ae t.num,aa t.name,.slice A t.args.length r])]):=zq (((Bks.nil w).new [ab ae t.kind,ab ae t.num,aa t.name,.slice A t.args.length r] 24 rfl).new [ab ae u.kind,ab ae u.num,aa u.name,.slice B u.args.length n] 24 (by simp))
 have b7:Hid (∀X,ay w.heap.size w X->aG ah 19 #[aN #[ab ae t.kind,ab ae t.num,aa t.name,.slice A t.args.length r]] X fun e w'=>e=av (an true)/\ay X.heap.size X w'):=zq fun X y=>by
  have h:=lY t A r X ((HT.out.keep y).mono y.size)
  rw [a3] at h
  exact h
 have b4:Hid (∀X,ay w.heap.size w X->aG ah 25 #[aN #[ab ae t.kind,ab ae t.num,aa t.name,.slice A t.args.length r]] X fun e w'=>∃a c,e=av (aN #[ab ae q.kind,ab ae q.num,aa q.name,.slice a q.args.length c])/\ay X.heap.size X w'/\kt X w' a q.args):=zq fun X y=>by rw [HQ.out];exact ua t A r X ((HT.out.keep y).mono y.size)
 have b8:Hid (∀X,ay w.heap.size w X->aG ah 19 #[aN #[ab ae u.kind,ab ae u.num,aa u.name,.slice B u.args.length n]] X fun e w'=>e=av (an true)/\ay X.heap.size X w'):=zq fun X y=>by
  have h:=lY u B n X ((HU.out.keep y).mono y.size)
  rw [a4] at h
  exact h
 have b5:Hid (∀X,ay w.heap.size w X->aG ah 25 #[aN #[ab ae u.kind,ab ae u.num,aa u.name,.slice B u.args.length n]] X fun e w'=>∃a c,e=av (aN #[ab ae p.kind,ab ae p.num,aa p.name,.slice a p.args.length c])/\ay X.heap.size X w'/\kt X w' a p.args):=zq fun X y=>by rw [HP.out];exact ua u B n X ((HU.out.keep y).mono y.size)
 have b6:Hid (∀X a c b d,TmsAt X.heap.size X a q.args->TmsAt X.heap.size X b p.args->aG ah 52 #[aN #[ab ae q.kind,ab ae q.num,aa q.name,.slice a q.args.length c],aN #[ab ae p.kind,ab ae p.num,aa p.name,.slice b p.args.length d]] X fun e w'=>e=av (an (tF q p))/\ay X.heap.size X w'):=zq fun X a c b d hq hp=>vu q p a b c d X hq hp
 rw [<-HQ.out,<-HP.out]
 clear hT hU a3 a4
 unfold dR at *
 go_enter Tryz.func28,Tryz.ntmps28
 go_wp2_with fail
 obtain ⟨C,a0⟩:=lz (((w.alloc (.cells #[ab ae t.kind,ab ae t.num,aa t.name,.slice A t.args.length r] 24)).alloc (.cells #[ab ae u.kind,ab ae u.num,aa u.name,.slice B u.args.length n] 24)))
 rw [<-a0.out] at s x |-
 clear a0
 rename_i K0 a2
 have a5:=x.out.cell 1 0 rfl rfl
 have a6:=x.out.cell 1 1 rfl rfl
 have a7:=x.out.cell 1 2 rfl rfl
 have a8:=x.out.cell 1 3 rfl rfl
 have a9:=x.out.cell 0 0 rfl rfl
 have b0:=x.out.cell 0 1 rfl rfl
 have b1:=x.out.cell 0 2 rfl rfl
 have b2:=x.out.cell 0 3 rfl rfl
 have G:w.heap.size<C.heap.size:=x.out.lt 1 rfl
 have H:w.heap.size+1<C.heap.size:=x.out.lt 0 rfl
 refine jM (w0:=C) [jO [] [0] (fun|[v]=>v=aN #[ab ae t.kind,ab ae t.num,aa t.name,.slice A t.args.length r]|_=>False),
  jO [0] [1] (fun|[v]=>v=an true|_=>False),
  dj [0,1] [2] (fun|[v]=>v=an true|_=>False),
  jO (aX 3) [3] (fun|[v]=>v=aN #[ab ae u.kind,ab ae u.num,aa u.name,.slice B u.args.length n]|_=>False),
  jO (aX 4) [4] (fun|[v]=>v=an true|_=>False),
  dj (aX 5) [5] (fun|[v]=>v=an true|_=>False),
  dj (aX 6) [6] (fun|[v]=>v=an true|_=>False),
  jO (aX 7) [7] (fun|[v]=>v=aN #[ab ae t.kind,ab ae t.num,aa t.name,.slice A t.args.length r]|_=>False),
  Mc (aX 8) 8 C.heap.size q,
  jO (aX 7) [9] (fun|[v]=>v=aN #[ab ae u.kind,ab ae u.num,aa u.name,.slice B u.args.length n]|_=>False),
  Mc (aX 10) 10 C.heap.size p,
  IC (aX 11) [11] (fun|[v]=>v=an (tF q p)|_=>False) (fun _ _ _=>True) (fun _ _ _ _ _ _ _ _ _=>trivial),
  dj (aX 12) [12] (fun|[v]=>v=an (tF q p)|_=>False),
  dj (aX 13) [13] (fun|[v]=>v=an (tF q p)|_=>False)]
  [some 5,some 6,some 7,some 8,some 9,some 10,some 11,some 12,some 13,some 14,some 15,some 16,some 17,some 4] (fun _=>True) (C.heap.size) (by kernel_rfl) (ag _) (by kernel_rfl) (by kernel_rfl) (by kernel_rfl) (fun j o l=>?srv0) (fun val Y N m HF=>?fin0)
 case srv0=>
  have c7:j<14:=(Array.getElem?_eq_some_iff.1 l).1
  rcases (show j=0\/j=1\/j=2\/j=3\/j=4\/j=5\/j=6\/j=7\/j=8\/j=9\/j=10\/j=11\/j=12\/j=13 by omega) with rfl|rfl|rfl|rfl|rfl|rfl|rfl|rfl|rfl|rfl|rfl|rfl|rfl|rfl
  ·cases l
   refine gX rfl rfl (fun _ _ _=>trivial) (fun val E X i k g=>?_)
   have e2:=i.t 2 (ax (some ⟨w.heap.size,0,none⟩)) rfl
   have I:X.cell? ⟨w.heap.size,0,none⟩=some (ab ae t.kind):=(k.cell (p:=⟨_,0,none⟩) G).trans a5
   have J:X.cell? ⟨w.heap.size,1,none⟩=some (ab ae t.num):=(k.cell (p:=⟨_,1,none⟩) G).trans a6
   have K:X.cell? ⟨w.heap.size,2,none⟩=some (aa t.name):=(k.cell (p:=⟨_,2,none⟩) G).trans a7
   have L:X.cell? ⟨w.heap.size,3,none⟩=some (.slice A t.args.length r):=(k.cell (p:=⟨_,3,none⟩) G).trans a8
   exact ⟨_,by simp [aV,go_sem,e2,I,J,K,L],rfl⟩
  ·cases l
   refine jX rfl rfl (fun _ _ _=>trivial) (fun val E X i k g=>?_)
   have e5:=i.t 5 (val 0) rfl
   have M:val 0=_:=g 0 (oz rfl)
   exact ⟨_,_,_,by simp [aV,go_sem,i.f,e5,M] <;> rfl,b7.out X (s.out.trans (k.mono s.out.size)),rfl⟩
  ·cases l
   refine bw rfl rfl (fun val E i g=>?_)
   have e6:=i.t 6 (val 1) rfl
   have O:val 1=_:=g 1 (oz rfl)
   exact ⟨_,fun X=>by simp [aV,go_sem,e6,O],rfl⟩
  ·cases l
   refine rF (true) rfl rfl (fun _ _ _=>trivial) (fun val g=>g 2 (oz rfl)) (fun _ val E X i k g=>?_) (fun h=>absurd rfl h)
   have e3:=i.t 3 (ax (some ⟨w.heap.size+1,0,none⟩)) rfl
   have I:X.cell? ⟨w.heap.size+1,0,none⟩=some (ab ae u.kind):=(k.cell (p:=⟨_,0,none⟩) H).trans a9
   have J:X.cell? ⟨w.heap.size+1,1,none⟩=some (ab ae u.num):=(k.cell (p:=⟨_,1,none⟩) H).trans b0
   have K:X.cell? ⟨w.heap.size+1,2,none⟩=some (aa u.name):=(k.cell (p:=⟨_,2,none⟩) H).trans b1
   have L:X.cell? ⟨w.heap.size+1,3,none⟩=some (.slice B u.args.length n):=(k.cell (p:=⟨_,3,none⟩) H).trans b2
   exact ⟨_,by simp [aV,go_sem,e3,I,J,K,L],rfl⟩
  ·cases l
   refine By (true) rfl rfl (fun _ _ _=>trivial) (fun val g=>g 2 (oz rfl)) (fun _ val E X i k g=>?_) (fun h=>absurd rfl h)
   have e8:=i.t 8 (val 3) rfl
   have S:val 3=_:=g 3 (oz rfl)
   exact ⟨_,_,_,by simp [aV,go_sem,i.f,e8,S] <;> rfl,b8.out X (s.out.trans (k.mono s.out.size)),rfl⟩
  ·cases l
   refine bw rfl rfl (fun val E i g=>?_)
   have e7:=i.t 7 (val 2) rfl
   have D:val 2=_:=g 2 (oz rfl)
   have e9:=i.t 9 (val 4) rfl
   have T:val 4=_:=g 4 (oz rfl)
   exact ⟨_,fun X=>by simp [aV,go_sem,i.c,e7,D,e9,T],rfl⟩
  ·cases l
   refine bw rfl rfl (fun val E i g=>?_)
   have b9:=i.t 10 (val 5) rfl
   have U:val 5=_:=g 5 (oz rfl)
   exact ⟨_,fun X=>by simp [aV,go_sem,b9,U],rfl⟩
  ·cases l
   refine rF (true) rfl rfl (fun _ _ _=>trivial) (fun val g=>g 6 (oz rfl)) (fun _ val E X i k g=>?_) (fun h=>absurd rfl h)
   have e2:=i.t 2 (ax (some ⟨w.heap.size,0,none⟩)) rfl
   have I:X.cell? ⟨w.heap.size,0,none⟩=some (ab ae t.kind):=(k.cell (p:=⟨_,0,none⟩) G).trans a5
   have J:X.cell? ⟨w.heap.size,1,none⟩=some (ab ae t.num):=(k.cell (p:=⟨_,1,none⟩) G).trans a6
   have K:X.cell? ⟨w.heap.size,2,none⟩=some (aa t.name):=(k.cell (p:=⟨_,2,none⟩) G).trans a7
   have L:X.cell? ⟨w.heap.size,3,none⟩=some (.slice A t.args.length r):=(k.cell (p:=⟨_,3,none⟩) G).trans a8
   exact ⟨_,by simp [aV,go_sem,e2,I,J,K,L],rfl⟩
  ·cases l
   refine rG rfl rfl (fun val g=>g 6 (oz rfl)) fun val E X N i F g hc=>?_
   have c1:=i.t 12 (val 7) rfl
   have W:val 7=_:=g 7 (oz rfl)
   exact ⟨_,_,by simp [aV,go_sem,i.f,c1,W] <;> rfl,(b4.out X (s.out.trans (F.bel.mono s.out.size))).mono fun e w' h=>by
    obtain ⟨a,c,he,k,hN⟩:=h
    exact ⟨_,he,k,⟨a,c,rfl⟩,fun N' _ D=>⟨a,c,rfl,hN.keep (fun _ _=>rfl) (fun b z=>⟨D b z.1 z.2,aH F.bel.size z.1⟩)⟩⟩⟩
  ·cases l
   refine rF (true) rfl rfl (fun _ _ _=>trivial) (fun val g=>g 6 (oz rfl)) (fun _ val E X i k g=>?_) (fun h=>absurd rfl h)
   have e3:=i.t 3 (ax (some ⟨w.heap.size+1,0,none⟩)) rfl
   have I:X.cell? ⟨w.heap.size+1,0,none⟩=some (ab ae u.kind):=(k.cell (p:=⟨_,0,none⟩) H).trans a9
   have J:X.cell? ⟨w.heap.size+1,1,none⟩=some (ab ae u.num):=(k.cell (p:=⟨_,1,none⟩) H).trans b0
   have K:X.cell? ⟨w.heap.size+1,2,none⟩=some (aa u.name):=(k.cell (p:=⟨_,2,none⟩) H).trans b1
   have L:X.cell? ⟨w.heap.size+1,3,none⟩=some (.slice B u.args.length n):=(k.cell (p:=⟨_,3,none⟩) H).trans b2
   exact ⟨_,by simp [aV,go_sem,e3,I,J,K,L],rfl⟩
  ·cases l
   refine rG rfl rfl (fun val g=>g 6 (oz rfl)) fun val E X N i F g hc=>?_
   have c3:=i.t 14 (val 9) rfl
   have h9:val 9=_:=g 9 (oz rfl)
   exact ⟨_,_,by simp [aV,go_sem,i.f,c3,h9] <;> rfl,(b5.out X (s.out.trans (F.bel.mono s.out.size))).mono fun e w' h=>by
    obtain ⟨a,c,he,k,hN⟩:=h
    exact ⟨_,he,k,⟨a,c,rfl⟩,fun N' _ D=>⟨a,c,rfl,hN.keep (fun _ _=>rfl) (fun b z=>⟨D b z.1 z.2,aH F.bel.size z.1⟩)⟩⟩⟩
  ·cases l
   refine rG rfl rfl (fun val g=>g 6 (oz rfl)) fun val E X N i F g hc=>?_
   obtain ⟨a,c,Z,ht⟩:∃a c,val 8=aN #[ab ae q.kind,ab ae q.num,aa q.name,.slice a q.args.length c]/\TmsK (fun b=>N b/\C.heap.size<=b) X a q.args:=hc 8 (oz rfl) rfl
   obtain ⟨b,d,P,hu⟩:∃a c,val 10=aN #[ab ae p.kind,ab ae p.num,aa p.name,.slice a p.args.length c]/\TmsK (fun b=>N b/\C.heap.size<=b) X a p.args:=hc 10 (oz rfl) rfl
   have c2:=i.t 13 (val 8) rfl
   have c4:=i.t 15 (val 10) rfl
   exact ⟨_,_,by simp [aV,go_sem,i.f,c2,c4,Z,P] <;> rfl,(b6.out X a c b d (TmsK.at' (ht.keep (fun _ _=>rfl) (fun b z=>F.lt b z.1))) (TmsK.at' (hu.keep (fun _ _=>rfl) (fun b z=>F.lt b z.1)))).mono fun e w' h=>⟨_,h.1,h.2,rfl,fun _ _ _=>trivial⟩⟩
  ·cases l
   refine bw rfl rfl (fun val E i g=>?_)
   have c0:=i.t 11 (val 6) rfl
   have V:val 6=_:=g 6 (oz rfl)
   have c5:=i.t 16 (val 11) rfl
   have Q:val 11=_:=g 11 (oz rfl)
   exact ⟨_,fun X=>by simp [aV,go_sem,i.c,c0,V,c5,Q],rfl⟩
  ·cases l
   refine bw rfl rfl (fun val E i g=>?_)
   have c6:=i.t 17 (val 12) rfl
   have R:val 12=_:=g 12 (oz rfl)
   exact ⟨_,fun X=>by simp [aV,go_sem,c6,R],rfl⟩
 case fin0=>
  have M:val 0=_:=m 0 (by decide)
  have O:val 1=_:=m 1 (by decide)
  have D:val 2=_:=m 2 (by decide)
  have S:val 3=_:=m 3 (by decide)
  have T:val 4=_:=m 4 (by decide)
  have U:val 5=_:=m 5 (by decide)
  have V:val 6=_:=m 6 (by decide)
  have W:val 7=_:=m 7 (by decide)
  obtain ⟨_,_,Z⟩:∃a c,val 8=aN #[ab ae q.kind,ab ae q.num,aa q.name,.slice a q.args.length c]:=m 8 (by decide)
  have h9:val 9=_:=m 9 (by decide)
  obtain ⟨_,_,P⟩:∃a c,val 10=aN #[ab ae p.kind,ab ae p.num,aa p.name,.slice a p.args.length c]:=m 10 (by decide)
  have Q:val 11=_:=m 11 (by decide)
  have R:val 12=_:=m 12 (by decide)
  have a1:val 13=_:=m 13 (by decide)
  have b3:=zq (s.out.trans (HF.bel.mono s.out.size))
  refine a2 _ _ ?_
  simp only [jK,List.set_cons_zero,List.set_cons_succ,Nat.reduceAdd,Nat.zero_add,M,O,D,S,T,U,V,W,Z,h9,P,Q,R,a1]
  clear m M O D S T U V W Z h9 P Q R a1 a2 HF
  go_wp2_with fail
  go_ret
  exact ⟨rfl,b3.out⟩
end Go.Proofs.YtgapnafkelokaaaGreatDoor
namespace Hb
open Go Go.RowKit
def Ll:NextR:=⟨dD 0,false,0⟩
def uI (T:List NextR) (i:Nat):NextR:=T.getD (min i (T.length-1)) Ll
def NextR.txt (t:NextR):ByteArray:=⟨t.r.text.toArray⟩
def isP (t:NextR) (s:List UInt8):Bool:=t.r.kind==6&&t.r.text==s
def fH (t:NextR):Bool:=t.r.kind==1||t.r.kind==2
def opn (t:NextR):Bool:=isP t [40] && !t.lay
structure VS where
 c:Nat
 m:List (List UInt8×Nat)
 o:List Nat
def VS.look (v:VS) (x:List UInt8):Option Nat:=(v.m.find? fun p=>p.1==x).map (·.2)
def VS.num (v:VS) (x:List UInt8):Nat:=if x=[95] then v.c else (v.look x).getD v.c
def VS.old (v:VS) (x:List UInt8):Bool:=decide (¬x=[95])&&(v.look x).isSome
def VS.step (v:VS) (x:List UInt8):VS:=⟨if v.old x=true then v.c else v.c+1,if v.old x=true\/x=[95] then v.m else v.m++[(x,v.c)],v.o++[v.num x]⟩
def vs0:VS:=⟨0,[],[]⟩
def qK (t:NextR):Bool:=t.r.kind==3
def qS (T:List NextR):VS:=(T.filter qK).foldl (fun v t=>v.step t.r.text) vs0
def cq (T:List NextR) (n:Nat):VS:=qS (T.take n)
structure RE where
 T:List NextR
 P:List OpR
 q:Int
def mw (s:ByteArray) (l:List Tm):Tm:=.mk 3 0 s l
def yB (s:ByteArray):Tm:=.mk 2 0 s []
def Cw (n:Int):Tm:=.mk 1 n ⟨#[]⟩ []
def KX (n:Int):Tm:=.mk 0 n ⟨#[]⟩ []
def qV (l:List Tm) (a:Tm):Tm:=l.foldr (fun x t=>mw ⟨#[46]⟩ [x,t]) a
def pU:Tm:=yB ⟨#[91,93]⟩
def JQ (q:Int) (c:UInt8):Tm:=if q=1 then Cw c.toNat else yB ⟨#[c]⟩
def IA (q:Int) (s:List UInt8):Tm:=if q=3 then yB ⟨s.toArray⟩ else qV (s.map (JQ q)) pU
abbrev RR (α:Type):=Except Nat α
abbrev PT:=Int->Nat->RR (Tm×Int×Nat)
def RE.at (E:RE) (n:Nat):NextR:=uI E.T n
def rM (E:RE) (S:PT):Nat->Nat->RR (List Tm×Nat)
 | 0,n=>.error n
 | k+1,n=>match S 999 n with
  | .error e=>.error e
  | .ok (t,_,m)=>if isP (E.at m) [44]=true then (match rM E S k (m+1) with
    | .error e=>.error e
    | .ok (l,i)=>.ok (t::l,i))
   else .ok ([t],m)
def pN (E:RE) (S:PT) (n:Nat):RR (List Tm×Nat):=rM E S E.T.length n
def gK {α:Type} (E:RE) (s:List UInt8) (n:Nat) (a:α):RR (α×Nat):=if isP (E.at n) s=true then .ok (a,n+1) else .error n
def ll (E:RE) (S:PT) (s:ByteArray) (n:Nat):RR (Option Tm×Nat) :=
 if opn (E.at n)=true then (match pN E S (n+1) with
  | .error e=>.error e
  | .ok (l,m)=>gK E [41] m (some (mw s l)))
 else .ok (none,n)
def kQ (P:List OpR) (s:ByteArray) (c:Int):Bool:=(dt P s c).isSome
def gc (E:RE) (n:Nat):Bool :=
 if (E.at n).r.kind=7 then true
 else if (E.at n).r.kind=6 then decide (¬(E.at n).r.text=[40])&&(decide (¬(E.at n).r.text=[91])&&decide (¬(E.at n).r.text=[123]))
 else if (!fH (E.at n)||opn (E.at (n+1)))=true then false
 else !kQ E.P (E.at n).txt 1&&(kQ E.P (E.at n).txt 2||kQ E.P (E.at n).txt 3)
def mf (E:RE) (t:NextR) (n:Nat):Bool:=t.r.kind==1&&(t.r.text==[45]&&((E.at n).r.kind==4 && !(E.at n).lay))
def zc (E:RE) (t:NextR) (most:Int) (n:Nat):Bool:=kQ E.P t.txt 1&&(decide (((dt E.P t.txt 1).getD op0).prec<=most) && !gc E n)
def sf (E:RE) (S:PT) (t:NextR) (most:Int) (n:Nat):RR (Tm×Int×Nat) :=
 match ll E S t.txt n with
 | .error e=>.error e
 | .ok (some u,m)=>.ok (u,0,m)
 | .ok (none,_)=>
  if mf E t n=true then .ok (Cw (if (E.at n).r.n=-9223372036854775808 then (E.at n).r.n else -(E.at n).r.n),0,n+1)
  else if zc E t most n=true then (match S (dv ((dt E.P t.txt 1).getD op0)) n with
   | .error e=>.error e
   | .ok (u,_,m)=>.ok (mw t.txt [u],((dt E.P t.txt 1).getD op0).prec,m))
  else .ok (yB t.txt,0,n)
def jR (E:RE) (S:PT) (s:ByteArray) (n:Nat):RR (Tm×Nat) :=
 match ll E S s n with
 | .error e=>.error e
 | .ok (some u,m)=>.ok (u,m)
 | .ok (none,m)=>.ok (yB s,m)
def oH (E:RE) (S:PT) (n:Nat):RR (Tm×Nat) :=
 if isP (E.at n) [124]=true then (match S 999 (n+1) with
  | .error e=>.error e
  | .ok (t,_,m)=>.ok (t,m))
 else .ok (pU,n)
def xR (E:RE) (S:PT) (n:Nat):RR (Tm×Nat) :=
 match pN E S n with
 | .error e=>.error e
 | .ok (l,m)=>(match oH E S m with
  | .error e=>.error e
  | .ok (t,i)=>gK E [93] i (qV l t))
def GP (E:RE) (S:PT) (s:List UInt8) (F:Tm->Tm) (n:Nat):RR (Tm×Nat) :=
 match S 1200 n with
 | .error e=>.error e
 | .ok (t,_,m)=>gK E s m (F t)
def ms (E:RE) (S:PT) (s:List UInt8) (n:Nat):RR (Tm×Nat) :=
 if s=[40] then GP E S [41] id n
 else if s=[91]/\isP (E.at n) [93]=true then jR E S ⟨#[91,93]⟩ (n+1)
 else if s=[123]/\isP (E.at n) [125]=true then jR E S ⟨#[123,125]⟩ (n+1)
 else if s=[91] then xR E S n
 else GP E S [125] (fun t=>mw ⟨#[123,125]⟩ [t]) n
def mZ (t:NextR):Bool:=isP t [40]||(isP t [91]||isP t [123])
def ki (E:RE) (S:PT) (most:Int) (n:Nat):RR (Tm×Int×Nat) :=
 let t:=E.at n
 if t.r.kind=4/\0<=t.r.n then .ok (Cw t.r.n,0,n+1)
 else if t.r.kind=3 then .ok (KX ((cq E.T n).num t.r.text),0,n+1)
 else if t.r.kind=5 then .ok (IA E.q t.r.text,0,n+1)
 else if mZ t=true then (match ms E S t.r.text (n+1) with
  | .error e=>.error e
  | .ok (u,m)=>.ok (u,0,m))
 else if fH t=true then sf E S t most (n+1)
 else .error n
def gA (E:RE) (n:Nat):OpR×Bool :=
 let t:=E.at n
 if (!fH t&&(!isP t [44] && !isP t [124]))=true then (op0,false)
 else if kQ E.P t.txt 2=true then ((dt E.P t.txt 2).getD op0,true)
 else ((dt E.P t.txt 3).getD op0,kQ E.P t.txt 3)
def ur (o:OpR×Bool) (most a:Int):Bool:=!o.2||(decide (most<o.1.prec)||decide (fX o.1<a))
def nQ (o:OpR):Bool:=o.typ==6||o.typ==7
def jJ (E:RE) (S:PT) (most:Int):Nat->Tm->Int->Nat->RR (Tm×Int×Nat)
 | 0,_,_,n=>.error n
 | k+1,t,prec,n=>
  if ur (gA E n) most prec=true then .ok (t,prec,n)
  else if nQ (gA E n).1=true then jJ E S most k (mw (gA E n).1.name [t]) (gA E n).1.prec (n+1)
  else match S (dv (gA E n).1) (n+1) with
   | .error e=>.error e
   | .ok (u,_,m)=>jJ E S most k (mw (gA E n).1.name [t,u]) (gA E n).1.prec m
def Bn (E:RE) (S:PT) (most:Int) (n:Nat):RR (Tm×Int×Nat) :=
 match ki E S most n with
 | .error e=>.error e
 | .ok (t,p,m)=>jJ E S most E.T.length t p m
def ly (E:RE):Nat->PT
 | 0=>fun _ n=>.error n
 | f+1=>Bn E (ly E f)
def pF (E:RE):RR (Tm×Nat) :=
 match ly E E.T.length 1200 0 with
 | .error e=>.error e
 | .ok (t,_,m)=>if (E.at m).r.kind=7 then .ok (t,m) else .error m
theorem RE.at_get (E:RE) {n:Nat} (h:n<E.T.length):E.at n=E.T[n]:=by
 unfold RE.at uI
 rw [show min n (E.T.length-1)=n by omega,List.getD_eq_getElem?_getD,aT h];rfl
theorem kx (T:List NextR):cq T 0=vs0:=by unfold cq;simp [qS]
theorem tL {T:List NextR} {n:Nat} (h:n<T.length):cq T (n+1)=if qK T[n]=true then (cq T n).step T[n].r.text else cq T n:=by
 unfold cq qS
 rw [aK h,List.filter_append,List.foldl_append]
 cases hv:qK T[n] <;> simp [hv]
theorem Gc {E:RE} {n:Nat} (h:n<E.T.length) (a:qK (E.at n)=false):cq E.T (n+1)=cq E.T n:=by
 rw [tL h,<-E.at_get h,a];rfl
theorem Gb {E:RE} {n:Nat} (h:n<E.T.length) (a:qK (E.at n)=true):cq E.T (n+1)=(cq E.T n).step (E.at n).r.text:=by
 rw [tL h,<-E.at_get h,a];rfl
theorem gf {t:NextR} {s:List UInt8} (h:isP t s=true):qK t=false:=by
 unfold isP at h;unfold qK;simp at h |-;omega
theorem AT {t:NextR} (h:fH t=true):qK t=false:=by
 unfold fH at h;unfold qK;simp at h |-;omega
theorem ph {t:NextR} {k:Int} (h:t.r.kind=k) (a:k≠3):qK t=false:=by
 unfold qK;simp;omega
structure VS.Ok (v:VS):Prop where
 co:v.c<=v.o.length
 mo:v.m.length<=v.o.length
 lt:∀p∈v.m,p.2<v.c
theorem IX:vs0.Ok:=⟨Nat.le_refl _,ag _,fun p a=>by cases a⟩
theorem VS.look_lt {v:VS} (h:v.Ok) {x:List UInt8} {k:Nat} (a:v.look x=some k):k<v.c:=by
 unfold VS.look at a
 obtain ⟨p,b,e⟩:=Option.map_eq_some_iff.1 a
 have:=h.lt p (List.mem_of_find?_eq_some b)
 omega
theorem VS.step_ok {v:VS} (h:v.Ok) (x:List UInt8):(v.step x).Ok:=by
 have d:=h.co
 have f:=h.mo
 unfold VS.step
 refine ⟨?_,?_,?_⟩
 ·simp only [aC,List.length_singleton];split <;> omega
 ·simp only [aC,List.length_singleton];split <;> (try simp only [aC,List.length_singleton]) <;> omega
 ·intro p a
  simp only at a |-
  split at a
  ·have:=h.lt p a
   split <;> omega
  ·rename_i b
   have c:¬v.old x=true:=fun e=>b (.inl e)
   rw [if_neg c]
   rcases List.mem_append.1 a with a | a
   ·have:=h.lt p a;omega
   ·rw [List.mem_singleton] at a;subst a;exact Nat.lt_succ_self _
theorem VS.step_len (v:VS) (x:List UInt8):(v.step x).o.length=v.o.length+1:=by simp [VS.step]
theorem VS.num_le {v:VS} (h:v.Ok) (x:List UInt8):v.num x<=v.c:=by
 unfold VS.num
 split
 ·exact ag _
 ·cases hk:v.look x with
  | none=>exact ag _
  | some k=>have:=VS.look_lt h hk;simp;omega
theorem VS.look_old {v:VS} {x:List UInt8} (h:v.old x=true):¬x=[95]/\∃k,v.look x=some k:=by
 unfold VS.old at h
 simp at h
 exact ⟨h.1,Option.isSome_iff_exists.1 h.2⟩
theorem VS.look_snoc (v:VS) (x:List UInt8) (k:Nat) (c:Nat) (o:List Nat) (a:v.look x=none) (y:List UInt8):VS.look ⟨c,v.m++[(x,k)],o⟩ y=if y=x then some k else v.look y:=by
 unfold VS.look at *
 simp only
 rw [List.find?_append]
 by_cases e:y=x
 ·subst e
  rw [Option.map_eq_none_iff] at a
  rw [a,if_pos rfl]
  simp
 ·rw [if_neg e]
  have:((x,k).1==y)=false:=by simp;exact fun h=>e h.symm
  cases (v.m.find? fun p=>p.1==y) <;> simp [this]
end Hb
namespace Hb
def pp (a0:Nat) (L:List NextR):Nat->Nat
 | 0=>a0
 | k+1=>match L[k]? with | some r=>r.r.end_.toNat | none=>0
theorem ut (a0:Nat) (L:List NextR) (r:NextR) (k:Nat) (h:k<=L.length):pp a0 (L++[r]) k=pp a0 L k:=by
 cases k with
 | zero=>rfl
 | succ k=>simp only [pp];rw [dT (by omega)]
theorem zU (a0:Nat) (L:List NextR) (r:NextR):pp a0 (L++[r]) (L.length+1)=r.r.end_.toNat:=by
 simp [pp]
def Chain (m l:List UInt8) (a0:Nat) (L:List NextR) (a:Prop):Prop :=
 ∀i r,L[i]? = some r->bt m l (pp a0 L i)=r/\r.r.err=0/\(r.r.kind=7↔(i+1=L.length/\a))/\pp a0 L i<=l.length
theorem Chain.snoc {m l:List UInt8} {a0:Nat} {L:List NextR} (h:Chain m l a0 L False) (a:Nat) (k:a=pp a0 L L.length) (q:a<=l.length) (n:(bt m l a).r.err=0) (p:Prop) (o:(bt m l a).r.kind=7↔p) :
  Chain m l a0 (L++[bt m l a]) p:=by
 intro i r b
 rcases Nat.lt_trichotomy i L.length with c | c | c
 ·rw [dT c] at b
  obtain ⟨e,f,g,j⟩:=h i r b
  rw [ut _ _ _ _ (by omega)]
  refine ⟨e,f,⟨fun d=>?_,fun d=>?_⟩,j⟩
  ·exact absurd (g.1 d).2 id
  ·have:=d.1;simp at this;omega
 ·subst c
  simp at b
  subst b
  rw [ut _ _ _ _ (by omega),<-k]
  refine ⟨rfl,n,?_,q⟩
  rw [o];simp
 ·rw [List.getElem?_eq_none (by simp;omega)] at b;cases b
theorem tj (m l:List UInt8) (i:m.length=l.length) (a0:Nat):∀(f:Nat) (a:Nat) (b:List NextR),Chain m l a0 b False->a=pp a0 b b.length->a<=l.length ->
  ((qq f m l a b).err=0->(qq f m l a b).where_=0/\(qq f m l a b).l≠[]/\Chain m l a0 (qq f m l a b).l True)/\(¬(qq f m l a b).err=0->(qq f m l a b).l=[])
 | 0,a,b,_,_,_=>⟨fun h=>absurd h (by show ¬(99:Int)=0;decide),fun _=>rfl⟩
 | f+1,a,b,hc,ha,hl=>by
  rw [lV]
  by_cases g:(bt m l a).r.err=14/\b≠[]
  ·rw [if_pos g];exact ⟨fun h=>absurd h (by show ¬(7:Int)=0;decide),fun _=>rfl⟩
  rw [if_neg g]
  by_cases c:(bt m l a).r.err=0
  ·rw [if_neg (by simpa using c)]
   obtain ⟨p,e,_,n,j,o,k,_,_⟩:=xL m l i a hl c
   by_cases d:(bt m l a).r.kind=7
   ·rw [if_pos d]
    exact ⟨fun _=>⟨rfl,by simp,hc.snoc a ha hl c True (by simp [d])⟩,fun h=>absurd rfl h⟩
   ·rw [if_neg d]
    refine tj m l i a0 f _ _ (hc.snoc a ha hl c False (by simp [d])) ?_ ?_
    ·rw [aC];exact (zU _ _ _).symm
    ·rw [j];simpa using k
  ·rw [if_pos (by simpa using c)]
   exact ⟨fun h=>absurd h c,fun _=>rfl⟩
theorem Ah (m l:List UInt8) (c:m.length=l.length) (a:Nat) (b:a<=l.length) :
  ((oD m l a).err=0->(oD m l a).where_=0/\(oD m l a).l≠[]/\Chain m l a (oD m l a).l True)/\(¬(oD m l a).err=0->(oD m l a).l=[]) :=
 tj m l c a _ a [] (fun i r h=>by simp at h) rfl b
end Hb
namespace Hb
open Go Go.RowKit
structure Fits (B:Nat) (r:LexR):Prop where
 txt:r.text.length<=B+100
 num:-9223372036854775808<=r.n/\r.n<=9223372036854775807
 nam:r.kind=1\/r.kind=2\/r.kind=3->r.text.length<=100
theorem AP {k:Int} (c:Int) (e:k=c) (a:c≠1/\c≠2/\c≠3) {P:Prop}:k=1\/k=2\/k=3->P:=fun h=>absurd h (by omega)
theorem pX (q:Int) (a:0<=q/\q<=255):∀(f:Nat) (l:List UInt8) (t:List UInt8) (k:Nat),jD f l q=some (t,k)->t.length<=k
 | 0,_,_,_,h=>by cases h
 | f+1,l,t,k,h=>by
  unfold jD at h
  by_cases e:au l 0=q/\¬au l 1=q
  ·rw [if_pos e] at h;injection h with h;injection h with e1 e2;subst e1;exact bj _
  rw [if_neg e] at h
  by_cases g:au l 0=92/\au l 1=10
  ·rw [if_pos g] at h
   cases hi:jD f (l.drop 2) q with
   | none=>rw [hi] at h;cases h
   | some x=>
    obtain ⟨d,b⟩:=x
    have:=pX q a f (l.drop 2) d b hi
    rw [hi] at h;injection h with h;injection h with e1 e2;subst e1 e2
    simp only;omega
  rw [if_neg g] at h
  cases hs:cy l q with
  | none=>rw [hs] at h;cases h
  | some ck=>
   obtain ⟨c,j⟩:=ck
   have i:=eD l q c j a hs
   rw [hs] at h
   simp only [] at h
   cases hi:jD f (l.drop j) q with
   | none=>rw [hi] at h;cases h
   | some x=>
    obtain ⟨d,b⟩:=x
    have:=pX q a f (l.drop j) d b hi
    rw [hi] at h;injection h with h;injection h with e1 e2;subst e1 e2
    simp only [List.length_cons];omega
theorem me (B:Nat) (c:Int) (t:List UInt8) (a e:Int) (h:(dz c t a e).err=0):Fits B (dz c t a e):=by
 unfold dz at *
 by_cases b:100<t.length
 ·rw [if_pos b] at h;exact absurd h (by decide)
 ·rw [if_neg b];exact ⟨by simp only;omega,⟨by simp,by simp⟩,fun _=>by simp only;omega⟩
theorem xY (B:Nat) (b:Int) (t:List UInt8) (a e:Int) (h:(intR b t a e).err=0):Fits B (intR b t a e):=by
 unfold intR at *
 by_cases c:cL b t<=9223372036854775808
 ·rw [if_pos c]
  refine ⟨by simp,?_,AP 4 rfl (by decide)⟩
  simp only
  split <;> omega
 ·rw [if_neg c] at h;exact absurd h (by decide)
theorem Dz (m l:List UInt8) (p:Nat) (h:(cj m l p).err=0):Fits l.length (cj m l p):=by
 unfold cj at *
 by_cases a0:au m p=47/\au m (p+1)=42
 ·rw [if_pos a0] at h;exact absurd h (by decide)
 rw [if_neg a0] at *
 by_cases d:cls (au m p)=2\/cls (au m p)=3
 ·rw [if_pos d] at *;exact me _ _ _ _ _ h
 rw [if_neg d] at *
 by_cases e:cls (au m p)=4
 ·rw [if_pos e] at *
  unfold jh at *
  by_cases a:au m p=48/\au m (p+1)=39
  ·rw [if_pos a] at *
   cases hq:cy (l.drop (p+2)) 39 with
   | none=>rw [hq] at h;exact absurd h (by show ¬(7:Int)=0;decide)
   | some ck=>
    obtain ⟨c,k⟩:=ck
    have o:=eD _ _ _ _ (by decide) hq
    exact ⟨by simp,by simp only;omega,AP 4 rfl (by decide)⟩
  rw [if_neg a] at *
  by_cases b:0<cd m p/\0<bW (bY (cd m p)) (m.drop (p+2))
  ·rw [if_pos b] at *;exact xY _ _ _ _ _ h
  ·rw [if_neg b] at *;exact xY _ _ _ _ _ h
 rw [if_neg e] at *
 by_cases f:cls (au m p)=5
 ·rw [if_pos f] at *
  unfold mC at *
  by_cases a:au m p=46/\jb (au m (p+1))=true
  ·rw [if_pos a];exact ⟨by simp,⟨by simp,by simp⟩,AP 7 rfl (by decide)⟩
  ·rw [if_neg a] at *;exact me _ _ _ _ _ h
 rw [if_neg f] at *
 by_cases g:cls (au m p)=6
 ·rw [if_pos g] at *;exact me _ _ _ _ _ h
 rw [if_neg g] at *
 by_cases i:cls (au m p)=7
 ·rw [if_pos i] at *
  unfold gY at *
  by_cases a:au m p=34
  ·rw [if_pos a] at *
   cases hi:ko (l.drop (p+1)) 34 with
   | none=>rw [hi] at h;exact absurd h (by show ¬(7:Int)=0;decide)
   | some x=>
    obtain ⟨t,k⟩:=x
    have j:=lP 34 (by decide) _ _ _ _ hi
    have n:=pX 34 (by decide) _ _ _ _ hi
    rw [aI] at j
    exact ⟨by simp only [mJ];omega,⟨by simp [mJ],by simp [mJ]⟩,AP 5 rfl (by decide)⟩
  rw [if_neg a] at *
  by_cases b:au m p=39
  ·rw [if_pos b] at *
   cases hi:ko (l.drop (p+1)) 39 with
   | none=>rw [hi] at h;exact absurd h (by show ¬(7:Int)=0;decide)
   | some x=>rw [hi] at h;exact me _ _ _ _ _ h
  ·rw [if_neg b] at h;exact absurd h (by decide)
 ·rw [if_neg i] at h;exact absurd h (by decide)
theorem Cq (m l:List UInt8) (a:Nat) (h:(bt m l a).r.err=0):Fits l.length (bt m l a).r:=by
 unfold bt at *
 by_cases c:a+bL (m.drop a)=l.length
 ·simp only [if_pos c] at h;exact absurd h (by decide)
 simp only [if_neg c] at *
 by_cases b:(cj m l (a+bL (m.drop a))).err=0
 ·simp only [if_pos b] at *;exact Dz _ _ _ b
 ·simp only [if_neg b] at h;exact absurd h b
theorem yD (m l:List UInt8):∀(f:Nat) (a:Nat) (b:List NextR),(qq f m l a b).l.length<=b.length+f
 | 0,_,_=>bj _
 | f+1,a,b=>by
  rw [lV]
  iterate 2
   split
   ·exact bj _
  split
  ·simp
  ·have:=yD m l f (bt m l a).r.end_.toNat (b++[bt m l a])
   simp at this;omega
structure ToksOk (B:Nat) (T:List NextR):Prop where
 len:T.length<=B+1
 pos:0<T.length
 last:∀i (h:i<T.length),T[i].r.kind=7↔i+1=T.length
 fits:∀t∈T,Fits B t.r
theorem De (m l:List UInt8) (g:m.length=l.length) (a:Nat) (f:a<=l.length) (h:(oD m l a).err=0):ToksOk l.length (oD m l a).l:=by
 obtain ⟨_,j,d⟩:=(Ah m l g a f).1 h
 refine ⟨by have:=yD m l (l.length+1) a [];simp at this;exact this,List.length_pos_iff.2 j,fun i b=>?_,fun t k=>?_⟩
 ·have:=(d i _ (aT b)).2.2.1
  simpa using this
 ·obtain ⟨i,b⟩:=List.mem_iff_getElem?.1 k
  obtain ⟨c,e,_⟩:=d i t b
  rw [<-c]
  exact Cq _ _ _ (by rw [c];exact e)
end Hb
namespace Go.Proofs.YtgapnafkelokaaaGreatDoor
open Go.RowKit Hb
structure Lex (w:aj) (b:Nat) (s:ByteArray) (tab:Int->Int) (at_:Int):Prop where
 lt:b<w.heap.size
 c0:w.cell? ⟨b,0,none⟩=some (aa s)
 ct:∀c:Nat,c<256->w.cell? ⟨b,1+c,none⟩=some (ab ae (tab c))
 ca:w.cell? ⟨b,257,none⟩=some (ab ae at_)
 fr:∀o,w.frozen? ⟨b,o,none⟩=false
 sz:s.size<=16384
 tb:Bh tab
theorem Lex.same {w w':aj} {b:Nat} {s:ByteArray} {e:Int->Int} {d:Int} (h:Lex w b s e d) (g:w.heap.size<=w'.heap.size) (a:w'.heap[b]? = w.heap[b]?):Lex w' b s e d where
 lt:=aB h.lt g
 c0:=(cG (w:=w) a).trans h.c0
 ct:=fun c f=>(cG (w:=w) a).trans (h.ct c f)
 ca:=(cG (w:=w) a).trans h.ca
 fr:=fun o=>(World.frozen?_of_block (w:=w) a).trans (h.fr o)
 sz:=h.sz
 tb:=h.tb
theorem Lex.below {w w':aj} {b:Nat} {s:ByteArray} {c:Int->Int} {at_:Int} (h:Lex w b s c at_) {B:Nat} (a:ay B w w') (d:b<B):Lex w' b s c at_:=h.same a.size (a.block b d)
theorem Lex.drewN {w:aj} {b:Nat} {s:ByteArray} {a:Int->Int} {at_:Int} (h:Lex w b s a at_) (n:Nat):Lex (w.drewN n) b s a at_:=h.same (ag _) rfl
theorem Lex.tabc {w:aj} {b:Nat} {s:ByteArray} {a:Int->Int} {f:Int} (h:Lex w b s a f) (k:Nat) (c:k<s.size):w.cell? ⟨b,1+s[k].toNat,none⟩=some (ab ae (au (cD a s.data.toList) k)):=by
 have d:k<s.data.toList.length:=by simpa using c
 have e:(a (ie s.data.toList k))=au (cD a s.data.toList) k:=by
  rw [JJ a h.tb _ _ d,eU _ _ (by rw [dx];exact d)]
 rw [h.ct s[k].toNat s[k].toNat_lt,jU s k c,e]
theorem bf (b:Nat) (s:ByteArray) (a:Int->Int) (d i:Int) (w:aj) (h:Lex w b s a d) (f:0<=i) :
  aG ah 110 #[ax (some ⟨b,0,none⟩),ab ae i] w fun e w'=>e=av (ab ae (au (cD a s.data.toList) i.toNat))/\ay w.heap.size w w':=by
 obtain ⟨k,rfl⟩:=bA f
 have o:=h.sz
 have j:=h.c0
 by_cases g:k<s.size
 ·have l:=h.tabc k g
  have m:=jj s.data.toList k
  have n:(s[k].toNat:Int)<256:=by have:=s[k].toNat_lt;omega
  go_enter Tryz.func110,Tryz.ntmps110
  go_wp2
  go_quiet (fail)
  go_wp2
  go_ret
  exact ⟨cT rfl,dF (ak _ _) _⟩
 ·have c:=zq (jN (cD a s.data.toList) k (by rw [dx];simp;omega))
  go_enter Tryz.func110,Tryz.ntmps110
  go_wp2
  go_ret
  exact ⟨cT c.out.symm,ak _ _⟩
theorem bB (b:Nat) (s:ByteArray) (g:Int->Int) (d i:Int) (w:aj) (h:Lex w b s g d) (f:0<=i) :
  aG ah 153 #[ax (some ⟨b,0,none⟩),ab ae i] w fun e w'=>e=av (ab ae (au s.data.toList i.toNat))/\w=w':=by
 obtain ⟨k,rfl⟩:=bA f
 have o:=h.sz
 have j:=h.c0
 by_cases c:k<s.size
 ·have l:=jU s k c
  have a:=zq (eU s.data.toList k (by simpa using c))
  have m:=jj s.data.toList k
  have n:=jG s.data.toList k
  go_enter Tryz.func153,Tryz.ntmps153
  go_wp2
  go_ret
  exact ⟨cT a.out.symm,rfl⟩
 ·have a:=zq (jN s.data.toList k (by simp;omega))
  go_enter Tryz.func153,Tryz.ntmps153
  go_wp2
  go_ret
  exact ⟨cT a.out.symm,rfl⟩
theorem uf (c:Int) (w:aj) :
  aG ah 145 #[ab ae c] w fun e w'=>e=av (an (gF c))/\ay w.heap.size w w':=by
 go_enter Tryz.func145,Tryz.ntmps145
 go_wp2
 go_ret
 exact ⟨bC (by unfold gF;simp [bne]),ak _ _⟩
theorem ug (c:Int) (w:aj) :
  aG ah 152 #[ab ae c] w fun e w'=>e=av (an (db c))/\ay w.heap.size w w':=by
 go_enter Tryz.func152,Tryz.ntmps152
 go_wp2_with (go_at_call 97;refine (cK _ _).mono ?_;rintro e w' ⟨rfl,a⟩)
 go_ret
 exact ⟨bC rfl,a⟩
theorem ui (c:Int) (w:aj) :
  aG ah 146 #[ab ae c] w fun e w'=>e=av (an (dw c))/\ay w.heap.size w w':=by
 go_enter Tryz.func146,Tryz.ntmps146
 go_wp2_with (go_at_call 97;refine (cK _ _).mono ?_;rintro e w' ⟨rfl,a⟩)
 all_goals (go_ret;exact ⟨bC (by grind [dw]),a⟩)
theorem uh (c a:Int) (g:Nat) (w:aj) (b:w.cell? ⟨g,0,none⟩=some (ab ae a)) :
  aG ah 180 #[ab ae c,ax (some ⟨g,0,none⟩)] w fun e w'=>e=av (an (gG c a))/\ay w.heap.size w w':=by
 go_enter Tryz.func180,Tryz.ntmps180
 go_wp2_with (go_at_call 179;refine (ev _ _ _).mono ?_;rintro e w' ⟨rfl,rfl⟩)
 go_ret
 exact ⟨bC rfl,ak _ _⟩
theorem BQ (b:Nat) (s:ByteArray) (a:Int->Int) (t i:Int) (w:aj) (h:Lex w b s a t) (u:0<=i) :
  aG ah 144 #[ax (some ⟨b,0,none⟩),ab ae i,.func (.func 145) #[] #[]] w fun e w'=>e=av (ab ae (i+bW (gF) ((cD a s.data.toList).drop i.toNat)))/\ay w.heap.size w w':=by
 obtain ⟨n,rfl⟩:=bA u
 have C:=h.sz
 have r:=zq h
 have x:=h.lt
 clear h
 rw [aD]
 go_enter Tryz.func144,Tryz.ntmps144
 go_wp2
 go_loopw [1] (fun i wr=>∃k:Nat,i=ab ae k/\ay w.heap.size w wr/\Hid (k+bW (gF) ((cD a s.data.toList).drop k)=n+bW (gF) ((cD a s.data.toList).drop n))) (fun i _=>s.size-(intOf i).toNat)
 case atStart=>exact ⟨n,rfl,ak _ _,rfl⟩
 case round=>
  obtain ⟨k,rfl,d,g⟩:=hrel
  have L:=r.out.below d x
  have A:=L.c0
  have B:=d.size
  by_cases v:k<s.size
  ·have m:k<(cD a s.data.toList).length:=by rw [dx];simpa using v
   have o:=zq (eU (cD a s.data.toList) k m)
   cases hq:(gF) (au (cD a s.data.toList) k)
   ·have c:=zq (rc (gF) (cD a s.data.toList) k m (by rw [<-o.out];exact hq))
    have j:=zq hq
    clear hq
    go_wp2_with (first | (go_at_call 110;refine (bf _ _ _ _ _ _ L (by omega)).mono ?_;rintro e y ⟨rfl,f⟩;rw [aD]) | (go_at_call 145;refine (uf _ _).mono ?_;rintro e z ⟨rfl,l⟩;rw [show gF (au (cD a s.data.toList) k)=false from j.out]))
    go_ret
    exact ⟨cT (by have p:=g.out;have q:=c.out;omega),d.trans ((f.mono (by omega)).trans (l.mono (by have:=f.size;omega)))⟩
   ·have c:=zq (oM (gF) (cD a s.data.toList) k m (by rw [<-o.out];exact hq))
    have j:=zq hq
    clear hq
    go_wp2_with (first | (go_at_call 110;refine (bf _ _ _ _ _ _ L (by omega)).mono ?_;rintro e y ⟨rfl,f⟩;rw [aD]) | (go_at_call 145;refine (uf _ _).mono ?_;rintro e z ⟨rfl,l⟩;rw [show gF (au (cD a s.data.toList) k)=true from j.out]))
    go_roundw
    case rel=>exact ⟨k+1,by go_num,d.trans ((f.mono (by omega)).trans (l.mono (by have:=f.size;omega))),by have p:=g.out;have q:=c.out;show _=_;omega⟩
    case measure=>simp [intOf];omega
  ·have c:=zq (oN (gF) (cD a s.data.toList) k (by rw [dx];simp;omega))
   go_wp2
   go_ret
   exact ⟨cT (by have p:=g.out;have q:=c.out;omega),d⟩
theorem Az (b:Nat) (s:ByteArray) (a:Int->Int) (t i:Int) (w:aj) (h:Lex w b s a t) (u:0<=i) :
  aG ah 144 #[ax (some ⟨b,0,none⟩),ab ae i,.func (.func 152) #[] #[]] w fun e w'=>e=av (ab ae (i+bW (db) ((cD a s.data.toList).drop i.toNat)))/\ay w.heap.size w w':=by
 obtain ⟨n,rfl⟩:=bA u
 have C:=h.sz
 have r:=zq h
 have x:=h.lt
 clear h
 rw [aD]
 go_enter Tryz.func144,Tryz.ntmps144
 go_wp2
 go_loopw [1] (fun i wr=>∃k:Nat,i=ab ae k/\ay w.heap.size w wr/\Hid (k+bW (db) ((cD a s.data.toList).drop k)=n+bW (db) ((cD a s.data.toList).drop n))) (fun i _=>s.size-(intOf i).toNat)
 case atStart=>exact ⟨n,rfl,ak _ _,rfl⟩
 case round=>
  obtain ⟨k,rfl,d,g⟩:=hrel
  have L:=r.out.below d x
  have A:=L.c0
  have B:=d.size
  by_cases v:k<s.size
  ·have m:k<(cD a s.data.toList).length:=by rw [dx];simpa using v
   have o:=zq (eU (cD a s.data.toList) k m)
   cases hq:(db) (au (cD a s.data.toList) k)
   ·have c:=zq (rc (db) (cD a s.data.toList) k m (by rw [<-o.out];exact hq))
    have j:=zq hq
    clear hq
    go_wp2_with (first | (go_at_call 110;refine (bf _ _ _ _ _ _ L (by omega)).mono ?_;rintro e y ⟨rfl,f⟩;rw [aD]) | (go_at_call 152;refine (ug _ _).mono ?_;rintro e z ⟨rfl,l⟩;rw [show db (au (cD a s.data.toList) k)=false from j.out]))
    go_ret
    exact ⟨cT (by have p:=g.out;have q:=c.out;omega),d.trans ((f.mono (by omega)).trans (l.mono (by have:=f.size;omega)))⟩
   ·have c:=zq (oM (db) (cD a s.data.toList) k m (by rw [<-o.out];exact hq))
    have j:=zq hq
    clear hq
    go_wp2_with (first | (go_at_call 110;refine (bf _ _ _ _ _ _ L (by omega)).mono ?_;rintro e y ⟨rfl,f⟩;rw [aD]) | (go_at_call 152;refine (ug _ _).mono ?_;rintro e z ⟨rfl,l⟩;rw [show db (au (cD a s.data.toList) k)=true from j.out]))
    go_roundw
    case rel=>exact ⟨k+1,by go_num,d.trans ((f.mono (by omega)).trans (l.mono (by have:=f.size;omega))),by have p:=g.out;have q:=c.out;show _=_;omega⟩
    case measure=>simp [intOf];omega
  ·have c:=zq (oN (db) (cD a s.data.toList) k (by rw [dx];simp;omega))
   go_wp2
   go_ret
   exact ⟨cT (by have p:=g.out;have q:=c.out;omega),d⟩
theorem BR (b:Nat) (s:ByteArray) (a:Int->Int) (t i:Int) (w:aj) (h:Lex w b s a t) (u:0<=i) :
  aG ah 144 #[ax (some ⟨b,0,none⟩),ab ae i,.func (.func 146) #[] #[]] w fun e w'=>e=av (ab ae (i+bW (dw) ((cD a s.data.toList).drop i.toNat)))/\ay w.heap.size w w':=by
 obtain ⟨n,rfl⟩:=bA u
 have C:=h.sz
 have r:=zq h
 have x:=h.lt
 clear h
 rw [aD]
 go_enter Tryz.func144,Tryz.ntmps144
 go_wp2
 go_loopw [1] (fun i wr=>∃k:Nat,i=ab ae k/\ay w.heap.size w wr/\Hid (k+bW (dw) ((cD a s.data.toList).drop k)=n+bW (dw) ((cD a s.data.toList).drop n))) (fun i _=>s.size-(intOf i).toNat)
 case atStart=>exact ⟨n,rfl,ak _ _,rfl⟩
 case round=>
  obtain ⟨k,rfl,d,g⟩:=hrel
  have L:=r.out.below d x
  have A:=L.c0
  have B:=d.size
  by_cases v:k<s.size
  ·have m:k<(cD a s.data.toList).length:=by rw [dx];simpa using v
   have o:=zq (eU (cD a s.data.toList) k m)
   cases hq:(dw) (au (cD a s.data.toList) k)
   ·have c:=zq (rc (dw) (cD a s.data.toList) k m (by rw [<-o.out];exact hq))
    have j:=zq hq
    clear hq
    go_wp2_with (first | (go_at_call 110;refine (bf _ _ _ _ _ _ L (by omega)).mono ?_;rintro e y ⟨rfl,f⟩;rw [aD]) | (go_at_call 146;refine (ui _ _).mono ?_;rintro e z ⟨rfl,l⟩;rw [show dw (au (cD a s.data.toList) k)=false from j.out]))
    go_ret
    exact ⟨cT (by have p:=g.out;have q:=c.out;omega),d.trans ((f.mono (by omega)).trans (l.mono (by have:=f.size;omega)))⟩
   ·have c:=zq (oM (dw) (cD a s.data.toList) k m (by rw [<-o.out];exact hq))
    have j:=zq hq
    clear hq
    go_wp2_with (first | (go_at_call 110;refine (bf _ _ _ _ _ _ L (by omega)).mono ?_;rintro e y ⟨rfl,f⟩;rw [aD]) | (go_at_call 146;refine (ui _ _).mono ?_;rintro e z ⟨rfl,l⟩;rw [show dw (au (cD a s.data.toList) k)=true from j.out]))
    go_roundw
    case rel=>exact ⟨k+1,by go_num,d.trans ((f.mono (by omega)).trans (l.mono (by have:=f.size;omega))),by have p:=g.out;have q:=c.out;show _=_;omega⟩
    case measure=>simp [intOf];omega
  ·have c:=zq (oN (dw) (cD a s.data.toList) k (by rw [dx];simp;omega))
   go_wp2
   go_ret
   exact ⟨cT (by have p:=g.out;have q:=c.out;omega),d⟩
theorem Gw (b:Nat) (s:ByteArray) (d:Int->Int) (C i:Int) (a:Int) (g:Nat) (w:aj) (h:Lex w b s d C) (D:0<=i) (E:g<w.heap.size) (x:w.cell? ⟨g,0,none⟩=some (ab ae a)) :
  aG ah 144 #[ax (some ⟨b,0,none⟩),ab ae i,.func (.func 180) #[] #[ax (some ⟨g,0,none⟩)]] w fun e w'=>e=av (ab ae (i+bW (fun c=>gG c a) ((cD d s.data.toList).drop i.toNat)))/\ay w.heap.size w w':=by
 obtain ⟨r,rfl⟩:=bA D
 have M:=h.sz
 have B:=zq h
 have G:=h.lt
 clear h
 rw [aD]
 have A:=zq x
 clear x
 go_enter Tryz.func144,Tryz.ntmps144
 go_wp2
 go_loopw [1] (fun i wr=>∃k:Nat,i=ab ae k/\ay w.heap.size w wr/\Hid (k+bW (fun c=>gG c a) ((cD d s.data.toList).drop k)=r+bW (fun c=>gG c a) ((cD d s.data.toList).drop r))) (fun i _=>s.size-(intOf i).toNat)
 case atStart=>exact ⟨r,rfl,ak _ _,rfl⟩
 case round=>
  obtain ⟨k,rfl,j,m⟩:=hrel
  have L:=B.out.below j G
  have J:=L.c0
  have K:=j.size
  have y:=(j.cell (p:=⟨g,0,none⟩) E).trans A.out
  have z:g<wr.heap.size:=by omega
  by_cases F:k<s.size
  ·have q:k<(cD d s.data.toList).length:=by rw [dx];simpa using F
   have t:=zq (eU (cD d s.data.toList) k q)
   cases hq:(fun c=>gG c a) (au (cD d s.data.toList) k)
   ·have l:=zq (rc (fun c=>gG c a) (cD d s.data.toList) k q (by rw [<-t.out];exact hq))
    have n:=zq hq
    clear hq
    go_wp2_with (first | (go_at_call 110;refine (bf _ _ _ _ _ _ L (by omega)).mono ?_;rintro e H ⟨rfl,f⟩;rw [aD]) | (go_at_call 180;go_must (refine (uh _ a g _ ((f.cell (p:=⟨g,0,none⟩) z).trans y)).mono ?_);rintro e I ⟨rfl,o⟩;rw [show gG (au (cD d s.data.toList) k) a=false from n.out]))
    go_ret
    exact ⟨cT (by have u:=m.out;have v:=l.out;omega),j.trans ((f.mono (by omega)).trans (o.mono (by have:=f.size;omega)))⟩
   ·have l:=zq (oM (fun c=>gG c a) (cD d s.data.toList) k q (by rw [<-t.out];exact hq))
    have n:=zq hq
    clear hq
    go_wp2_with (first | (go_at_call 110;refine (bf _ _ _ _ _ _ L (by omega)).mono ?_;rintro e H ⟨rfl,f⟩;rw [aD]) | (go_at_call 180;go_must (refine (uh _ a g _ ((f.cell (p:=⟨g,0,none⟩) z).trans y)).mono ?_);rintro e I ⟨rfl,o⟩;rw [show gG (au (cD d s.data.toList) k) a=true from n.out]))
    go_roundw
    case rel=>exact ⟨k+1,by go_num,j.trans ((f.mono (by omega)).trans (o.mono (by have:=f.size;omega))),by have u:=m.out;have v:=l.out;show _=_;omega⟩
    case measure=>simp [intOf];omega
  ·have l:=zq (oN (fun c=>gG c a) (cD d s.data.toList) k (by rw [dx];simp;omega))
   go_wp2
   go_ret
   exact ⟨cT (by have u:=m.out;have v:=l.out;omega),j⟩
theorem ox:(Tryz.prog.info? 5).map (fun i=>(i.zero,i.size,i.bytes))=some (some (ab .u8 0),1,1):=by kernel_rfl
theorem Br (l:List UInt8) (k:Nat) (h:k<l.length):l.take (k+1)=l.take k++[(ie l k).toNat.toUInt8]:=by
 rw [aK h,<-ic _ _ h];simp
theorem rC (l:List UInt8) (i k:Nat) (h:i+k<l.length):(l.drop i).take (k+1)=(l.drop i).take k++[(ie l (i+k)).toNat.toUInt8]:=by
 rw [Br _ _ (by simp;omega),yA]
theorem iW (b:Nat) (s:ByteArray) (c:Int->Int) (r i j:Int) (w:aj) (h:Lex w b s c r) (t:0<=i) (D:i<=j) (E:j<=s.size) :
  aG ah 148 #[ax (some ⟨b,0,none⟩),ab ae i,ab ae j] w fun e w'=>e=av (aa ⟨(((cD c s.data.toList).drop i.toNat).take (j-i).toNat).toArray⟩)/\ay w.heap.size w w':=by
 obtain ⟨a,rfl⟩:=bA t
 obtain ⟨n,A⟩:=bA (show 0<=j-a by omega)
 obtain rfl:j=a+n:=by omega
 have I:=h.sz
 have o:=zq h
 have z:=h.lt
 clear h A
 rw [aD,show ((a:Int)+n-a).toNat=n by omega]
 go_enter Tryz.func148,Tryz.ntmps148
 go_wp2
 go_loopw [7,8] (fun v i wr=>∃k:Nat,k<=n/\i=ab ae (a+k:Nat)/\ay w.heap.size w wr/\wr.ownsRow w.heap.size 5 1 v k (Hb.byteCells (((cD c s.data.toList).drop a).take k))) (fun _ i _=>a+n-(intOf i).toNat)
 case atStart=>exact ⟨0,bj _,rfl,ak _ _,⟨by simp [Hb.byteCells],.inl ⟨rfl,rfl⟩⟩⟩
 case round=>
  obtain ⟨k,g,rfl,f,m⟩:=hrel
  have L:=o.out.below f z
  have C:=L.c0
  have H:=f.size
  by_cases G:k<n
  ·have l:a+k<(cD c s.data.toList).length:=by rw [dx];simp;omega
   have p:=zq (eU (cD c s.data.toList) (a+k) l)
   have q:=zq (rC (cD c s.data.toList) a k l)
   have x:=jj (cD c s.data.toList) (a+k)
   have y:=jG (cD c s.data.toList) (a+k)
   go_wp2_with (first | (go_at_call 110;refine (bf _ _ _ _ _ _ L (by omega)).mono ?_;rintro e K ⟨rfl,d⟩;rw [show ((a:Int)+k).toNat=a+k by omega,p.out]) | (at_builtin;go_must (refine ep rfl _ _ 75 5 rfl bU ox w.heap.size _ _ _ rfl _ (m.kept (row:=none) ⟨d.os,d.tape,d.output,d.size,fun k g _=>d.block k g⟩ (by simp [Value.ownBlock];split <;> simp)) _ x y rfl rfl (by omega) (by have:=d.size;omega) ?_;intro J M B u)))
   go_roundw
   case rel=>exact ⟨k+1,by omega,by go_num,f.trans ((d.mono (by omega)).trans u),by rw [q.out];exact B⟩
   case measure=>simp [intOf];omega
  ·obtain rfl:k=n:=by omega
   have F:=pw (P:=ah) wr 75 9 5 bU Tryz.underlying5 Tryz.underlying9 _ _ k _ m
   go_wp2
   go_ret
   exact ⟨nB rfl,f⟩
theorem BI (M:List UInt8) (k e X:Nat) (d:k+2<=e) (c:k+bL (M.drop k)=X) (b:bL (M.drop k)=(e-(k+2)+4)+bL (M.drop (k+(e-(k+2)+4)))):e+2+bL (M.drop (e+2))=X:=by
 have a:k+(e-(k+2)+4)=e+2:=by omega
 rw [a] at b;omega
theorem sZ (M:List UInt8) (k e:Nat) (b:k+2<=e) (h:dS (M.drop (k+2))=(dS (M.drop e)).map (· + (e-(k+2)))) (a:dS (M.drop e)=(dS (M.drop (e+1))).map (· + 1)) :
  dS (M.drop (k+2))=(dS (M.drop (e+1))).map (· + (e+1-(k+2))):=by
 rw [h,a,Option.map_map]
 congr 1
 funext x
 simp;omega
theorem iu (b:Nat) (s:ByteArray) (K:Int->Int) (a0 i:Int) (w:aj) (h:Lex w b s K a0) (h0:0<=i) :
  aG ah 103 #[ax (some ⟨b,0,none⟩),ab ae i] w fun e w'=>e=av (ab ae (i+bL ((cD K s.data.toList).drop i.toNat)))/\ay w.heap.size w w':=by
 obtain ⟨S,rfl⟩:=bA h0
 have c4:=h.sz
 have V:=zq h
 have Y:=h.lt
 clear h
 rw [aD]
 have F:Hid ((cD K s.data.toList).length=s.size):=by show _=_;rw [dx];simp
 generalize X:cD K s.data.toList=M at *
 have d:=zq X
 clear X
 go_enter Tryz.func103,Tryz.ntmps103
 go_wp2_with fail
 go_loopw [1] (fun i wr=>∃k:Nat,i=ab ae k/\ay w.heap.size w wr/\Hid (k+bL (M.drop k)=S+bL (M.drop S))) (fun i _=>s.size-(intOf i).toNat)
 case atStart=>exact ⟨S,rfl,ak _ _,rfl⟩
 case round=>
  obtain ⟨k,rfl,l,t⟩:=hrel
  have L:=V.out.below l Y
  have W:=L.c0
  have hs:=l.size
  by_cases b6:k<s.size
  ·have n:k<M.length:=by rw [F.out];exact b6
   have b7:=dK M k
   have c1:0<=au M k:=by have:=dK M k;omega
   clear b7
   by_cases f:cls (au M k)=1
   ·have j:=zq (DT M k n f)
    have b1:(cls (au M k)==1)=true:=by simp [f]
    clear f
    go_wp2_with fail
    refine (bf _ _ _ _ _ _ L (by omega)).mono ?_;rintro e G ⟨rfl,a⟩;rw [aD,d.out]
    go_wp2_with fail
    refine (cK _ _).mono ?_;rintro e N ⟨rfl,c⟩
    go_wp2_with fail
    go_roundw
    case rel=>exact ⟨k+1,by go_num,l.trans ((a.mono (by omega)).trans (c.mono (by have:=a.size;omega))),by have D:=t.out;have E:=j.out;show _=_;omega⟩
    case measure=>simp [intOf];omega
   have b1:(cls (au M k)==1)=false:=by simp [f]
   by_cases g:au M k=37
   ·have j:=zq (DS M k n f g)
    have c2:=kH gF (M.drop k) (by simp;omega) (by rw [bT,Nat.add_zero,g];rfl)
    have b2:(au M k==37)=true:=by simp [g]
    have T:=zq g
    clear f g
    go_wp2_with fail
    refine (bf _ _ _ _ _ _ L (by omega)).mono ?_;rintro e G ⟨rfl,a⟩;rw [aD,d.out]
    go_wp2_with fail
    refine (cK _ _).mono ?_;rintro e N ⟨rfl,c⟩
    have o:=(L.below a L.lt).below c (L.below a L.lt).lt
    go_wp2_with fail
    refine (BQ _ _ _ _ _ _ o (by omega)).mono ?_;rintro e w3 ⟨rfl,v⟩;rw [aD,d.out]
    go_wp2_with fail
    go_roundw
    case rel=>exact ⟨k+bW gF (M.drop k),by go_num,l.trans ((a.mono (by omega)).trans ((c.mono (by have:=a.size;omega)).trans (v.mono (by have:=a.size;have:=c.size;omega)))),by have D:=t.out;have E:=j.out;show _=_;omega⟩
    case measure=>simp [intOf];omega
   have b2:(au M k==37)=false:=by simp [g]
   by_cases z:au M k=47
   ·have b3:(au M k==47)=true:=by simp [z]
    have A1:=zq f
    have T:=zq g
    have U:=zq z
    clear f g z
    by_cases A:au M (k+1)=42
    ·have b4:(au M (k+1)==42)=true:=by simp [A]
     have O:=zq A
     clear A
     go_wp2_with fail
     refine (bf _ _ _ _ _ _ L (by omega)).mono ?_;rintro e G ⟨rfl,a⟩;rw [aD,d.out]
     go_wp2_with fail
     refine (cK _ _).mono ?_;rintro e N ⟨rfl,c⟩
     have o:=(L.below a L.lt).below c (L.below a L.lt).lt
     go_wp2_with fail
     refine (bf _ _ _ _ _ _ o (by omega)).mono ?_;rintro e w3 ⟨rfl,v⟩;rw [show ((k:Int)+1).toNat=k+1 by omega,d.out]
     have L3:=o.below v o.lt
     have a9:ay w.heap.size w w3:=l.trans ((a.mono (by omega)).trans ((c.mono (by have:=a.size;omega)).trans (v.mono (by have:=a.size;have:=c.size;omega))))
     clear a c v o L W l
     go_wp2_with fail
     go_loopw [6] (fun x wx=>∃e:Nat,k+2<=e/\e<=s.size/\x=ab ae e/\ay w.heap.size w wx/\Hid (dS (M.drop (k+2))=(dS (M.drop e)).map (· + (e-(k+2))))) (fun x _=>s.size-(intOf x).toNat)
     case atStart=>
      have b5:k+2<=s.size:=by
       have:=dK M (k+1);have:=O.out;have:=F.out;omega
      exact ⟨k+2,ag _,b5,by go_num,a9,by show _=_;simp⟩
     case round=>
      obtain ⟨e,Q,b8,rfl,B,H⟩:=hrel
      have p:=V.out.below B Y
      have W:=p.c0
      have c3:=B.size
      by_cases b0:e<s.size
      ·have R:e<M.length:=by rw [F.out];exact b0
       by_cases q:au M e=42
       ·have a5:(au M e==42)=true:=by simp [q]
        have a6:(au M e != 42)=false:=by simp [q]
        have D1:=zq q
        clear q
        by_cases r:au M (e+1)=47
        ·have a7:(au M (e+1)==47)=true:=by simp [r]
         have a8:(au M (e+1) != 47)=false:=by simp [r]
         have u:=zq (yp M e R D1.out r)
         have P:=zq (DV M k (e-(k+2)) n U.out O.out (by rw [H.out,u.out];simp))
         clear r
         go_wp2_with fail
         refine (bf _ _ _ _ _ _ p (by omega)).mono ?_;rintro I Z ⟨rfl,m⟩;rw [aD,d.out]
         have C:=p.below m p.lt
         go_wp2_with fail
         refine (bf _ _ _ _ _ _ C (by omega)).mono ?_;rintro I w5 ⟨rfl,J⟩;rw [show ((e:Int)+1).toNat=e+1 by omega,d.out]
         have L5:=C.below J C.lt
         have c5:=L5.c0
         have b9:((e:Int)==(s.size:Int))=false:=by simp;omega
         go_wp2_with fail
         go_roundw
         case rel=>exact ⟨e+2,by go_num,B.trans ((m.mono (by omega)).trans (J.mono (by have:=m.size;omega))),BI M k e _ Q t.out P.out⟩
         case measure=>simp [intOf];omega
        ·have a7:(au M (e+1)==47)=false:=by simp [r]
         have a8:(au M (e+1) != 47)=true:=by simp [r]
         have u:=zq (td M e R (fun y=>r y.2))
         clear r
         go_wp2_with fail
         refine (bf _ _ _ _ _ _ p (by omega)).mono ?_;rintro I Z ⟨rfl,m⟩;rw [aD,d.out]
         have C:=p.below m p.lt
         go_wp2_with fail
         refine (bf _ _ _ _ _ _ C (by omega)).mono ?_;rintro I w5 ⟨rfl,J⟩;rw [show ((e:Int)+1).toNat=e+1 by omega,d.out]
         go_wp2_with fail
         go_roundw
         case rel=>exact ⟨e+1,by omega,by omega,by go_num,B.trans ((m.mono (by omega)).trans (J.mono (by have:=m.size;omega))),sZ M k e Q H.out u.out⟩
         case measure=>simp [intOf];omega
       ·have a5:(au M e==42)=false:=by simp [q]
        have a6:(au M e != 42)=true:=by simp [q]
        have u:=zq (td M e R (fun y=>q y.1))
        clear q
        go_wp2_with fail
        refine (bf _ _ _ _ _ _ p (by omega)).mono ?_;rintro I Z ⟨rfl,m⟩;rw [aD,d.out]
        go_wp2_with fail
        go_roundw
        case rel=>exact ⟨e+1,by omega,by omega,by go_num,B.trans (m.mono (by omega)),sZ M k e Q H.out u.out⟩
        case measure=>simp [intOf];omega
      ·obtain rfl:e=s.size:=by omega
       have u:=zq (yq M s.size (by rw [F.out];exact ag _))
       have P:=zq (BJ M k n U.out O.out (by rw [H.out,u.out];rfl))
       go_wp2_with fail
       go_ret
       exact ⟨cT (by have D:=t.out;have E:=P.out;omega),B⟩
    ·have b4:(au M (k+1)==42)=false:=by simp [A]
     have j:=zq (As M k n A1.out T.out (fun y=>A y.2))
     clear A
     go_wp2_with fail
     refine (bf _ _ _ _ _ _ L (by omega)).mono ?_;rintro e G ⟨rfl,a⟩;rw [aD,d.out]
     go_wp2_with fail
     refine (cK _ _).mono ?_;rintro e N ⟨rfl,c⟩
     have o:=(L.below a L.lt).below c (L.below a L.lt).lt
     go_wp2_with fail
     refine (bf _ _ _ _ _ _ o (by omega)).mono ?_;rintro e w3 ⟨rfl,v⟩;rw [show ((k:Int)+1).toNat=k+1 by omega,d.out]
     go_wp2_with fail
     go_ret
     exact ⟨cT (by have D:=t.out;have E:=j.out;omega),l.trans ((a.mono (by omega)).trans ((c.mono (by have:=a.size;omega)).trans (v.mono (by have:=a.size;have:=c.size;omega))))⟩
   ·have b3:(au M k==47)=false:=by simp [z]
    have j:=zq (As M k n f g (fun y=>z y.1))
    clear f g z
    go_wp2_with fail
    refine (bf _ _ _ _ _ _ L (by omega)).mono ?_;rintro e G ⟨rfl,a⟩;rw [aD,d.out]
    go_wp2_with fail
    refine (cK _ _).mono ?_;rintro e N ⟨rfl,c⟩
    go_wp2_with fail
    go_ret
    exact ⟨cT (by have D:=t.out;have E:=j.out;omega),l.trans ((a.mono (by omega)).trans (c.mono (by have:=a.size;omega)))⟩
  ·have n:M.length<=k:=by rw [F.out];omega
   have HR:=zq (jN M k n)
   have j:=zq (DU M k n)
   go_wp2_with fail
   refine (bf _ _ _ _ _ _ L (by omega)).mono ?_;rintro e G ⟨rfl,a⟩;rw [aD,d.out,HR.out]
   go_wp2_with fail
   go_ret
   exact ⟨cT (by have D:=t.out;have E:=j.out;omega),l.trans (a.mono (by omega))⟩
theorem uH {w c d w3:aj} {B:Nat} (a:B<=w.heap.size) (b:ay w.heap.size w c) (e:ay c.heap.size c d) (f:ay d.heap.size d w3):ay B w w3 :=
 (b.mono a).trans ((e.mono (aH a b.size)).trans (f.mono (aH a (aH b.size e.size))))
theorem Dw {w a w2:aj} {B:Nat} (b:B<=w.heap.size) (c:ay w.heap.size w a) (d:ay a.heap.size a w2):ay B w w2 :=
 (c.mono b).trans (d.mono (aH b c.size))
def bN (r:LexR):Value:=.tuple #[aN #[ab ae r.kind,aa ⟨r.text.toArray⟩,ab ae r.n,ab ae r.at_,ab ae r.end_,an false],ab ae r.err]
def fR (r:LexR) (e:Ending):Prop:=e=av (bN r)
theorem lO (b:Nat) (s:ByteArray) (i:Int->Int) (a d c:Int) (t:List UInt8) (w:aj) (h:Lex w b s i a) (l:t.length<=9223372036854775807) :
  aG ah 147 #[ax (some ⟨b,0,none⟩),ab ae d,aa ⟨t.toArray⟩,ab ae c] w fun e w'=>fR (dz d t a c) e/\ay w.heap.size w w':=by
 have j:=h.ca
 have k:=h.lt
 by_cases g:100<t.length
 ·have f:=zq (show dz d t a c=dD 2 by unfold dz;rw [if_pos g])
  go_enter Tryz.func147,Tryz.ntmps147
  go_wp2
  refine aw (v:=.tuple #[aN #[ab ae 0,aa ⟨#[]⟩,ab ae 0,ab ae 0,ab ae 0,an false],ab ae 2]) (by simp [results,Tryz.results147,go_sem]) rfl ⟨?_,(ak _ _).alloc (ag _) _⟩
  rw [f.out];rfl
 ·have f:=zq (show dz d t a c=⟨d,t,0,a,c,0⟩ by unfold dz;rw [if_neg g])
  go_enter Tryz.func147,Tryz.ntmps147
  go_wp2
  refine aw (v:=.tuple #[aN #[ab ae d,aa ⟨t.toArray⟩,ab ae 0,ab ae a,ab ae c,an false],ab ae 0]) (by simp [results,Tryz.results147,go_sem]) rfl ⟨?_,(ak _ _).alloc (ag _) _⟩
  rw [f.out];rfl
def eQ:Obj:=.cells #[ab ae 0,aa ⟨#[]⟩,ab ae 0,ab ae 0,ab ae 0,an false] 100
theorem ky {w w':aj} {B:Nat} (a:ay B (w.alloc eQ) w') (h:w.heap.size<B) :
  w'.cell? ⟨w.heap.size,0,none⟩=some (ab ae 0)/\w'.cell? ⟨w.heap.size,1,none⟩=some (aa ⟨#[]⟩)/\w'.cell? ⟨w.heap.size,2,none⟩=some (ab ae 0)/\w'.cell? ⟨w.heap.size,3,none⟩=some (ab ae 0)/\w'.cell? ⟨w.heap.size,4,none⟩=some (ab ae 0)/\w'.cell? ⟨w.heap.size,5,none⟩=some (an false)/\∀o,w'.frozen? ⟨w.heap.size,o,none⟩=false:=by
 have e:∀o,w'.cell? ⟨w.heap.size,o,none⟩=(w.alloc eQ).cell? ⟨w.heap.size,o,none⟩:=fun o=>a.cell (p:=⟨w.heap.size,o,none⟩) h
 have b:(w.alloc eQ).heap[w.heap.size]? = some eQ:=by show (w.heap.push _)[w.heap.size]? = _;simp
 refine ⟨?_,?_,?_,?_,?_,?_,fun o=>?_⟩
 ·rw [e];unfold eQ;rw [aq];rfl
 ·rw [e];unfold eQ;rw [aq];rfl
 ·rw [e];unfold eQ;rw [aq];rfl
 ·rw [e];unfold eQ;rw [aq];rfl
 ·rw [e];unfold eQ;rw [aq];rfl
 ·rw [e];unfold eQ;rw [aq];rfl
 ·rw [a.frozen (p:=⟨w.heap.size,o,none⟩) h]
  unfold World.frozen?;simp only [b];unfold eQ;simp
theorem kT {w w':aj} {B g:Nat} (h:ay B w w') (i:B<=g) (a b c d e f:Value):ay B w ((((((w'.setCell ⟨g,0,none⟩ a).setCell ⟨g,1,none⟩ b).setCell ⟨g,2,none⟩ c).setCell ⟨g,3,none⟩ d).setCell ⟨g,4,none⟩ e).setCell ⟨g,5,none⟩ f) :=
 (((((h.setCell (p:=⟨g,_,none⟩) i _).setCell (p:=⟨g,_,none⟩) i _).setCell (p:=⟨g,_,none⟩) i _).setCell (p:=⟨g,_,none⟩) i _).setCell (p:=⟨g,_,none⟩) i _).setCell (p:=⟨g,_,none⟩) i _
theorem xS (b:Nat) (s:ByteArray) (d:Int->Int) (p:Nat) (w:aj) (h:Lex w b s d p) (T:p<=s.size) :
  aG ah 105 #[ax (some ⟨b,0,none⟩)] w fun e w'=>fR (nO (cD d s.data.toList) p) e/\ay w.heap.size w w':=by
 have G:=h.ca
 have B:=h.lt
 have U:=h.sz
 have t:=zq h
 clear h
 have H:Hid ((cD d s.data.toList).length=s.size):=by show _=_;rw [dx];simp
 have I:=fD dw ((cD d s.data.toList).drop p)
 rw [aI,H.out] at I
 generalize A:cD d s.data.toList=M at *
 have k:=zq A
 clear A
 have D:=zq (show nO M p=dz (kE (au M p)) ((M.drop p).take (bW dw (M.drop p))) p (p+bW dw (M.drop p)) from rfl)
 have m:=(ak w.heap.size w).alloc (ag _) eQ
 have y:w.heap.size<(w.alloc eQ).heap.size:=by simp
 cases b1:cls (au M p)==3
 all_goals
  have j:=zq b1
  clear b1
  go_enter Tryz.func105,Tryz.ntmps105
  go_wp2_with fail
  refine (bf _ _ _ _ _ _ (t.out.below m B) (by omega)).mono ?_;rintro e W ⟨rfl,f⟩;rw [aD,k.out]
  have l:=(t.out.below m B).below f (by simp;omega)
  go_wp2_with fail
  refine (cK _ _).mono ?_;rintro e X ⟨rfl,g⟩
  have a:=l.below g l.lt
  have E:=a.ca
  have R:=j.out
  go_wp2_with fail
  refine (BR _ _ _ _ _ _ a (by omega)).mono ?_;rintro e Y ⟨rfl,i⟩;rw [aD,k.out]
  have c:=a.below i a.lt
  have F:=c.ca
  go_wp2_with fail
  refine (iW _ _ _ _ _ _ _ c (by omega) (by omega) (by omega)).mono ?_;rintro e Z ⟨rfl,o⟩;rw [aD,k.out,show ((p:Int)+bW dw (M.drop p)-p).toNat=bW dw (M.drop p) by omega]
  have x:=c.below o c.lt
  go_wp2_with fail
  refine (lO _ _ _ _ _ _ _ _ x (by have:=List.length_take_le (bW dw (M.drop p)) (M.drop p);omega)).mono ?_;rintro e Q ⟨q,z⟩
  generalize C:dz _ _ _ _=r at q
  have u:=zq C
  clear C
  unfold fR bN at q;subst q
  have n:=(uH (ag _) f g i).trans (Dw (by have:=f.size;have:=g.size;have:=i.size;omega) o z)
  obtain ⟨J,K,L,N,O,P,V⟩:=ky n y
  have S:w.heap.size<Q.heap.size:=aB y n.size
  clear f g i o z l a c x E F G
  go_wp2_with fail
  refine aw (v:=bN r) (by simp [bN,results,Tryz.results105,go_sem,J,K,L,N,O,P]) rfl ⟨?_,kT (m.trans (n.mono (by omega))) (ag _) _ _ _ _ _ _⟩
  rw [D.out];unfold kE;first | (rw [if_pos (by simpa using j.out),u.out];rfl) | (rw [if_neg (by simpa using j.out),u.out];rfl)
theorem sq (b:Nat) (s:ByteArray) (L:Int->Int) (p:Nat) (w:aj) (h:Lex w b s L p) (hp:p<=s.size) :
  aG ah 107 #[ax (some ⟨b,0,none⟩)] w fun e w'=>fR (mC (cD L s.data.toList) p) e/\ay w.heap.size w w':=by
 have V:=h.ca
 have A:=h.lt
 have a6:=h.sz
 have x:=zq h
 clear h
 have a0:Hid ((cD L s.data.toList).length=s.size):=by show _=_;rw [dx];simp
 have a5:=fD db ((cD L s.data.toList).drop p)
 rw [aI,a0.out] at a5
 generalize Y:cD L s.data.toList=M at *
 have i:=zq Y
 clear Y
 have g:=(ak w.heap.size w).alloc (ag _) eQ
 have k:w.heap.size<(w.alloc eQ).heap.size:=by simp
 by_cases l:au M p=46
 ·have b1:(au M p==46)=true:=by simp [l]
  by_cases j:jb (au M (p+1))=true
  ·have H:=zq (show mC M p=⟨7,[46],0,p,p+1,0⟩ by unfold mC;rw [if_pos ⟨l,j⟩])
   have Z:=zq j
   clear l j
   have hd:decide (au M (p+1)<0)=true\/(decide (au M (p+1)<0)=false/\((au M (p+1)==37)=true\/((au M (p+1)==37)=false/\(cls (au M (p+1))==1)=true))):=by have:=Z.out;unfold jb at this;grind
   rcases hd with W | ⟨W,X | ⟨X,d3⟩⟩
   all_goals
    go_enter Tryz.func107,Tryz.ntmps107
    go_wp2_with fail
    refine (bf _ _ _ _ _ _ (x.out.below g A) (by omega)).mono ?_;rintro e w1 ⟨rfl,n⟩;rw [aD,i.out]
    have f:=(x.out.below g A).below n (by simp;omega)
    have U:=f.ca
    go_wp2_with fail
    refine (bf _ _ _ _ _ _ f (by omega)).mono ?_;rintro e w2 ⟨rfl,o⟩;rw [show ((p:Int)+1).toNat=p+1 by omega,i.out]
    have y:=f.below o f.lt
    have c2:=y.ca
    have a:ay (w.alloc eQ).heap.size (w.alloc eQ) w2:=Dw (ag _) n o
    go_wp2_with (go_at_call 97;refine (cK _ _).mono ?_;rintro e S ⟨rfl,z⟩;have N:=(z.cell (p:=⟨b,257,none⟩) y.lt).trans c2;have Q:=a.trans (z.mono (aH n.size o.size));clear a)
    first | (obtain ⟨B,C,D,E,F,G,R⟩:=ky Q k;have a3:w.heap.size<S.heap.size:=aB k Q.size) | (obtain ⟨B,C,D,E,F,G,R⟩:=ky a k;have a3:w.heap.size<w2.heap.size:=aB k a.size)
    go_region
    go_wp2_with fail
    refine aw (v:=bN ⟨7,[46],0,p,p+1,0⟩) (by simp [bN,results,Tryz.results107,go_sem,B,C,D,E,F,G]) rfl ⟨?_,?_⟩
    ·rw [H.out];rfl
    ·first | exact (kT (g.trans (Q.mono (by omega))) (ag _) _ _ _ _ _ _).drew | exact (kT (g.trans (a.mono (by omega))) (ag _) _ _ _ _ _ _).drew
  ·have H:=zq (show mC M p=dz 1 ((M.drop p).take (bW db (M.drop p))) p (p+bW db (M.drop p)) by unfold mC;rw [if_neg (fun h=>j h.2)])
   have W:decide (au M (p+1)<0)=false:=by unfold jb at j;grind
   have X:(au M (p+1)==37)=false:=by unfold jb at j;grind
   have d3:(cls (au M (p+1))==1)=false:=by unfold jb at j;grind
   clear l j
   go_enter Tryz.func107,Tryz.ntmps107
   go_wp2_with fail
   refine (bf _ _ _ _ _ _ (x.out.below g A) (by omega)).mono ?_;rintro e w1 ⟨rfl,n⟩;rw [aD,i.out]
   have f:=(x.out.below g A).below n (by simp;omega)
   have U:=f.ca
   go_wp2_with fail
   refine (bf _ _ _ _ _ _ f (by omega)).mono ?_;rintro e w2 ⟨rfl,o⟩;rw [show ((p:Int)+1).toNat=p+1 by omega,i.out]
   have y:=f.below o f.lt
   go_wp2_with fail
   refine (cK _ _).mono ?_;rintro e S ⟨rfl,z⟩
   have c:=y.below z y.lt
   have a:=uH (ag _) n o z
   have N:=c.ca
   clear n o z f y U
   go_wp2_with fail
   refine (Az _ _ _ _ _ _ c (by omega)).mono ?_;rintro e w4 ⟨rfl,q⟩;rw [aD,i.out]
   have d:=c.below q c.lt
   have P:=d.ca
   go_wp2_with fail
   refine (iW _ _ _ _ _ _ _ d (by omega) (by omega) (by omega)).mono ?_;rintro e w5 ⟨rfl,t⟩;rw [aD,i.out,show ((p:Int)+bW db (M.drop p)-p).toNat=bW db (M.drop p) by omega]
   have I:=d.below t d.lt
   go_wp2_with fail
   refine (lO _ _ _ _ _ _ _ _ I (by have:=List.length_take_le (bW db (M.drop p)) (M.drop p);omega)).mono ?_;rintro e T ⟨u,J⟩
   generalize K:dz _ _ _ _=r at u
   have O:=zq K
   clear K
   unfold fR bN at u;subst u
   have m:=a.trans (uH a.size q t J)
   obtain ⟨B,C,D,E,F,G,R⟩:=ky m k
   have a4:w.heap.size<T.heap.size:=aB k m.size
   clear q t J c d I N P V
   go_wp2_with fail
   refine aw (v:=bN r) (by simp [bN,results,Tryz.results107,go_sem,B,C,D,E,F,G]) rfl ⟨?_,kT (g.trans (m.mono (by omega))) (ag _) _ _ _ _ _ _⟩
   rw [H.out,O.out];rfl
 ·have b1:(au M p==46)=false:=by simp [l]
  have H:=zq (show mC M p=dz 1 ((M.drop p).take (bW db (M.drop p))) p (p+bW db (M.drop p)) by unfold mC;rw [if_neg (fun h=>l h.1)])
  clear l
  go_enter Tryz.func107,Tryz.ntmps107
  go_wp2_with fail
  refine (bf _ _ _ _ _ _ (x.out.below g A) (by omega)).mono ?_;rintro e S ⟨rfl,a⟩;rw [aD,i.out]
  have c:=(x.out.below g A).below a (by simp;omega)
  have N:=c.ca
  go_wp2_with fail
  refine (Az _ _ _ _ _ _ c (by omega)).mono ?_;rintro e w4 ⟨rfl,q⟩;rw [aD,i.out]
  have d:=c.below q c.lt
  have P:=d.ca
  go_wp2_with fail
  refine (iW _ _ _ _ _ _ _ d (by omega) (by omega) (by omega)).mono ?_;rintro e w5 ⟨rfl,t⟩;rw [aD,i.out,show ((p:Int)+bW db (M.drop p)-p).toNat=bW db (M.drop p) by omega]
  have I:=d.below t d.lt
  go_wp2_with fail
  refine (lO _ _ _ _ _ _ _ _ I (by have:=List.length_take_le (bW db (M.drop p)) (M.drop p);omega)).mono ?_;rintro e T ⟨u,J⟩
  generalize K:dz _ _ _ _=r at u
  have O:=zq K
  clear K
  unfold fR bN at u;subst u
  have m:=a.trans (uH a.size q t J)
  obtain ⟨B,C,D,E,F,G,R⟩:=ky m k
  have a4:w.heap.size<T.heap.size:=aB k m.size
  clear q t J c d I N P V
  go_wp2_with fail
  refine aw (v:=bN r) (by simp [bN,results,Tryz.results107,go_sem,B,C,D,E,F,G]) rfl ⟨?_,kT (g.trans (m.mono (by omega))) (ag _) _ _ _ _ _ _⟩
  rw [H.out,O.out];rfl
end Go.Proofs.YtgapnafkelokaaaGreatDoor
