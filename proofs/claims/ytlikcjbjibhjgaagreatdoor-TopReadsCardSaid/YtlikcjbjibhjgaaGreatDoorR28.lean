/- Parts of the proof. -/
import Derived.Test.YtlikcjbjibhjgaaGreatDoorR20
import Derived.Test.YtlikcjbjibhjgaaGreatDoorR12
import Derived.Test.YtlikcjbjibhjgaaGreatDoorR11
import Derived.Test.YtlikcjbjibhjgaaGreatDoorR01
import Derived.Test.YtlikcjbjibhjgaaGreatDoorR10
import Derived.Test.YtlikcjbjibhjgaaGreatDoorR03
import Derived.Test.YtlikcjbjibhjgaaGreatDoorR06
import Derived.Test.YtlikcjbjibhjgaaGreatDoorR07
import Derived.Test.YtlikcjbjibhjgaaGreatDoorR02
set_option maxHeartbeats 12800000
set_option maxRecDepth 100000
open Go renaming Calls -> aJ, Value -> az, World -> ai, execOp -> aP
open Go.Ending renaming returned -> aw
open Go.IntKind renaming i64 -> ae
open Go.Lib renaming decDigits -> aT, itoa -> fH
open Go.Proofs.Tryz renaming prog -> ah
open Go.RowKit renaming Below -> ax
open Go.Value renaming agg -> aN, bool -> am, int -> ab, pointer -> au, string -> aa
open List renaming drop_drop -> ci, drop_zero -> cY, length_cons -> bo, length_take -> bM, range -> aY, take_length -> cL
open Nat renaming add_zero -> bv, le_refl -> ag, le_trans -> aI, lt_or_ge -> cS, zero_add -> ap
namespace Hb
open Go Go.RowKit
def OO (n:Nat):List az->Prop | [v]=>∃g,v=.slice (some ⟨g,0,none⟩) n n | _=>False
def OP (n:Nat) (l:List Tm):List az->(Nat->Prop)->ai->Prop | [v],N,X=>∃g,v=.slice (some ⟨g,0,none⟩) n n/\TmsK N X (some ⟨g,0,none⟩) l | _,_,_=>False
def NT (x:Tm):List az->Prop | [v]=>∃a c,v=aN #[ab ae x.kind,ab ae x.num,aa x.name,.slice a x.args.length c] | _=>False
def NU (d:Nat) (x:Tm):List az->(Nat->Prop)->ai->Prop | [v],N,X=>∃a c,v=aN #[ab ae x.kind,ab ae x.num,aa x.name,.slice a x.args.length c]/\TmsK (fun b=>N b/\d<=b) X a x.args | _,_,_=>False
def Oi (A:List Nat) (j i:Nat) (x:Tm):ROp:=GY A [j] (NT x) (NU i x) fun vs _ _ _ _ h g f _=>match vs,h with | [_],⟨a,c,e,ht⟩=>⟨a,c,e,ht.keep (fun b d=>g b d.1) (fun b d=>⟨f b d.1,d.2⟩)⟩
theorem nS {P:Program} {k:Array Oper} {a:List ROp} {c:List az->Prop} {B:Nat} {w0:ai} {a0:Act} {T:List az->ai->Prop} {j:Nat} {o:Oper} {g:Nat} {b:Bool} (t:(opAt a j).cl=.call) (u:o.guard=some (g,b)) (w:∀val,FA a j val->val g=am b) (h:∀val E X N,EOf k val a0 o E->AtC c B w0 X N->FA a j val->OT a j val N X->∃f args,(aP E o).run P X=.ok (.enter f args) X/\aJ P f args X fun e w'=>∃v,e=aw v/\ax X.heap.size X w'/\(opAt a j).vp (vals a j (updV val j v))/\∀N':Nat->Prop,(∀b,N b->N' b)->(∀b,X.heap.size<=b->b<w'.heap.size->N' b)->(opAt a j).vc (vals a j (updV val j v)) N' w'):iq P k a c B w0 a0 T j o:=by
 unfold iq;rw [t]
 refine fun val X N l m n p d s=>⟨fun _=>?_,fun i=>by rw [mr u (w val d)] at i;simp at i⟩
 obtain ⟨f,args,q,r⟩:=h val _ X N (EOf.at _ _ _ _) ⟨l,m,n,p⟩ d s
 exact .inr (.inr ⟨f,args,X,q,r⟩)
end Hb
namespace Go.Proofs.YtlikcjbjibhjgaaGreatDoor
open Go.RowKit Hb
theorem vv (t u:Tm) (A B:Option Addr) (r n:Nat) (w:ai) (hT:TmsAt w.heap.size w A t.args) (hU:TmsAt w.heap.size w B u.args) (a3:cd t=true) (a4:cd u=true):aJ ah 10 #[er t A r,er u B n] w fun e w'=>e=aw (am (nG (gy t) (gy u)))/\ax w.heap.size w w':=by
 obtain ⟨q,HQ⟩:=lz (gy t)
 obtain ⟨p,HP⟩:=lz (gy u)
 have HT:=zq hT
 have HU:=zq hU
 have s:Hid (ax w.heap.size w ((w.alloc (.cells #[ab ae t.kind,ab ae t.num,aa t.name,.slice A t.args.length r] 25)).alloc (.cells #[ab ae u.kind,ab ae u.num,aa u.name,.slice B u.args.length n] 25))):=zq (((Below.refl _ w).alloc (ag _) _).alloc (by simp) _)
 have x:Hid (Bks ((w.alloc (.cells #[ab ae t.kind,ab ae t.num,aa t.name,.slice A t.args.length r] 25)).alloc (.cells #[ab ae u.kind,ab ae u.num,aa u.name,.slice B u.args.length n] 25)) [(w.heap.size+1,[ab ae u.kind,ab ae u.num,aa u.name,.slice B u.args.length n]),(w.heap.size,[ab ae t.kind,ab ae t.num,aa t.name,.slice A t.args.length r])]):=zq (((Bks.nil w).new [ab ae t.kind,ab ae t.num,aa t.name,.slice A t.args.length r] 25 rfl).new [ab ae u.kind,ab ae u.num,aa u.name,.slice B u.args.length n] 25 (by simp))
 have b7:Hid (∀X,ax w.heap.size w X->aJ ah 35 #[aN #[ab ae t.kind,ab ae t.num,aa t.name,.slice A t.args.length r]] X fun e w'=>e=aw (am true)/\ax X.heap.size X w'):=zq fun X y=>by
  have h:=mT t A r X ((HT.out.keep y).mono y.size)
  rw [a3] at h
  exact h
 have b4:Hid (∀X,ax w.heap.size w X->aJ ah 38 #[aN #[ab ae t.kind,ab ae t.num,aa t.name,.slice A t.args.length r]] X fun e w'=>∃a c,e=aw (aN #[ab ae q.kind,ab ae q.num,aa q.name,.slice a q.args.length c])/\ax X.heap.size X w'/\kk X w' a q.args):=zq fun X y=>by rw [HQ.out];exact CG t A r X ((HT.out.keep y).mono y.size)
 have b8:Hid (∀X,ax w.heap.size w X->aJ ah 35 #[aN #[ab ae u.kind,ab ae u.num,aa u.name,.slice B u.args.length n]] X fun e w'=>e=aw (am true)/\ax X.heap.size X w'):=zq fun X y=>by
  have h:=mT u B n X ((HU.out.keep y).mono y.size)
  rw [a4] at h
  exact h
 have b5:Hid (∀X,ax w.heap.size w X->aJ ah 38 #[aN #[ab ae u.kind,ab ae u.num,aa u.name,.slice B u.args.length n]] X fun e w'=>∃a c,e=aw (aN #[ab ae p.kind,ab ae p.num,aa p.name,.slice a p.args.length c])/\ax X.heap.size X w'/\kk X w' a p.args):=zq fun X y=>by rw [HP.out];exact CG u B n X ((HU.out.keep y).mono y.size)
 have b6:Hid (∀X a c b d,TmsAt X.heap.size X a q.args->TmsAt X.heap.size X b p.args->aJ ah 37 #[aN #[ab ae q.kind,ab ae q.num,aa q.name,.slice a q.args.length c],aN #[ab ae p.kind,ab ae p.num,aa p.name,.slice b p.args.length d]] X fun e w'=>e=aw (am (nG q p))/\ax X.heap.size X w'):=zq fun X a c b d hq hp=>yA q p a b c d X hq hp
 rw [<-HQ.out,<-HP.out]
 clear hT hU a3 a4
 unfold er at *
 go_enter Tryz.func10,Tryz.ntmps10
 go_wp2_with fail
 obtain ⟨C,a0⟩:=lz (((w.alloc (.cells #[ab ae t.kind,ab ae t.num,aa t.name,.slice A t.args.length r] 25)).alloc (.cells #[ab ae u.kind,ab ae u.num,aa u.name,.slice B u.args.length n] 25)))
 rw [<-a0.out] at s x |-
 clear a0
 rename_i K0 a2
 have a5:=x.out.cell 1 0 rfl rfl
 have a6:=x.out.cell 1 1 rfl rfl
 have a7:=x.out.cell 1 2 rfl rfl
 have a8:=x.out.cell 1 3 rfl rfl
 have a9:=x.out.cell 0 0 rfl rfl
 have b0:=x.out.cell 0 1 rfl rfl
 have b1:=x.out.cell 0 2 rfl rfl
 have b2:=x.out.cell 0 3 rfl rfl
 have G:w.heap.size<C.heap.size:=x.out.lt 1 rfl
 have H:w.heap.size+1<C.heap.size:=x.out.lt 0 rfl
 refine jN (w0:=C) [jn [] [0] (fun|[v]=>v=aN #[ab ae t.kind,ab ae t.num,aa t.name,.slice A t.args.length r]|_=>False),
  jn [0] [1] (fun|[v]=>v=am true|_=>False),
  cV [0,1] [2] (fun|[v]=>v=am true|_=>False),
  jn (aY 3) [3] (fun|[v]=>v=aN #[ab ae u.kind,ab ae u.num,aa u.name,.slice B u.args.length n]|_=>False),
  jn (aY 4) [4] (fun|[v]=>v=am true|_=>False),
  cV (aY 5) [5] (fun|[v]=>v=am true|_=>False),
  cV (aY 6) [6] (fun|[v]=>v=am true|_=>False),
  jn (aY 7) [7] (fun|[v]=>v=aN #[ab ae t.kind,ab ae t.num,aa t.name,.slice A t.args.length r]|_=>False),
  Oi (aY 8) 8 C.heap.size q,
  jn (aY 7) [9] (fun|[v]=>v=aN #[ab ae u.kind,ab ae u.num,aa u.name,.slice B u.args.length n]|_=>False),
  Oi (aY 10) 10 C.heap.size p,
  GY (aY 11) [11] (fun|[v]=>v=am (nG q p)|_=>False) (fun _ _ _=>True) (fun _ _ _ _ _ _ _ _ _=>trivial),
  cV (aY 12) [12] (fun|[v]=>v=am (nG q p)|_=>False),
  cV (aY 13) [13] (fun|[v]=>v=am (nG q p)|_=>False)]
  [some 5,some 6,some 7,some 8,some 9,some 10,some 11,some 12,some 13,some 14,some 15,some 16,some 17,some 4] (fun _=>True) (C.heap.size) (by kernel_rfl) (ag _) (by kernel_rfl) (by kernel_rfl) (by kernel_rfl) (fun j o l=>?srv0) (fun val Y N m HF=>?fin0)
 case srv0=>
  have c7:j<14:=(Array.getElem?_eq_some_iff.1 l).1
  rcases (show j=0\/j=1\/j=2\/j=3\/j=4\/j=5\/j=6\/j=7\/j=8\/j=9\/j=10\/j=11\/j=12\/j=13 by omega) with rfl|rfl|rfl|rfl|rfl|rfl|rfl|rfl|rfl|rfl|rfl|rfl|rfl|rfl
  ·cases l
   refine fI rfl rfl (fun _ _ _=>trivial) (fun val E X i k g=>?_)
   have e2:=i.t 2 (au (some ⟨w.heap.size,0,none⟩)) rfl
   have I:X.cell? ⟨w.heap.size,0,none⟩=some (ab ae t.kind):=(k.cell (p:=⟨_,0,none⟩) G).trans a5
   have J:X.cell? ⟨w.heap.size,1,none⟩=some (ab ae t.num):=(k.cell (p:=⟨_,1,none⟩) G).trans a6
   have K:X.cell? ⟨w.heap.size,2,none⟩=some (aa t.name):=(k.cell (p:=⟨_,2,none⟩) G).trans a7
   have L:X.cell? ⟨w.heap.size,3,none⟩=some (.slice A t.args.length r):=(k.cell (p:=⟨_,3,none⟩) G).trans a8
   exact ⟨_,by simp [aP,go_sem,e2,I,J,K,L],rfl⟩
  ·cases l
   refine ka rfl rfl (fun _ _ _=>trivial) (fun val E X i k g=>?_)
   have e5:=i.t 5 (val 0) rfl
   have M:val 0=_:=g 0 (oz rfl)
   exact ⟨_,_,_,by simp [aP,go_sem,i.f,e5,M] <;> rfl,b7.out X (s.out.trans (k.mono s.out.size)),rfl⟩
  ·cases l
   refine bq rfl rfl (fun val E i g=>?_)
   have e6:=i.t 6 (val 1) rfl
   have O:val 1=_:=g 1 (oz rfl)
   exact ⟨_,fun X=>by simp [aP,go_sem,e6,O],rfl⟩
  ·cases l
   refine nR (true) rfl rfl (fun _ _ _=>trivial) (fun val g=>g 2 (oz rfl)) (fun _ val E X i k g=>?_) (fun h=>absurd rfl h)
   have e3:=i.t 3 (au (some ⟨w.heap.size+1,0,none⟩)) rfl
   have I:X.cell? ⟨w.heap.size+1,0,none⟩=some (ab ae u.kind):=(k.cell (p:=⟨_,0,none⟩) H).trans a9
   have J:X.cell? ⟨w.heap.size+1,1,none⟩=some (ab ae u.num):=(k.cell (p:=⟨_,1,none⟩) H).trans b0
   have K:X.cell? ⟨w.heap.size+1,2,none⟩=some (aa u.name):=(k.cell (p:=⟨_,2,none⟩) H).trans b1
   have L:X.cell? ⟨w.heap.size+1,3,none⟩=some (.slice B u.args.length n):=(k.cell (p:=⟨_,3,none⟩) H).trans b2
   exact ⟨_,by simp [aP,go_sem,e3,I,J,K,L],rfl⟩
  ·cases l
   refine Ed (true) rfl rfl (fun _ _ _=>trivial) (fun val g=>g 2 (oz rfl)) (fun _ val E X i k g=>?_) (fun h=>absurd rfl h)
   have e8:=i.t 8 (val 3) rfl
   have S:val 3=_:=g 3 (oz rfl)
   exact ⟨_,_,_,by simp [aP,go_sem,i.f,e8,S] <;> rfl,b8.out X (s.out.trans (k.mono s.out.size)),rfl⟩
  ·cases l
   refine bq rfl rfl (fun val E i g=>?_)
   have e7:=i.t 7 (val 2) rfl
   have D:val 2=_:=g 2 (oz rfl)
   have e9:=i.t 9 (val 4) rfl
   have T:val 4=_:=g 4 (oz rfl)
   exact ⟨_,fun X=>by simp [aP,go_sem,i.c,e7,D,e9,T],rfl⟩
  ·cases l
   refine bq rfl rfl (fun val E i g=>?_)
   have b9:=i.t 10 (val 5) rfl
   have U:val 5=_:=g 5 (oz rfl)
   exact ⟨_,fun X=>by simp [aP,go_sem,b9,U],rfl⟩
  ·cases l
   refine nR (true) rfl rfl (fun _ _ _=>trivial) (fun val g=>g 6 (oz rfl)) (fun _ val E X i k g=>?_) (fun h=>absurd rfl h)
   have e2:=i.t 2 (au (some ⟨w.heap.size,0,none⟩)) rfl
   have I:X.cell? ⟨w.heap.size,0,none⟩=some (ab ae t.kind):=(k.cell (p:=⟨_,0,none⟩) G).trans a5
   have J:X.cell? ⟨w.heap.size,1,none⟩=some (ab ae t.num):=(k.cell (p:=⟨_,1,none⟩) G).trans a6
   have K:X.cell? ⟨w.heap.size,2,none⟩=some (aa t.name):=(k.cell (p:=⟨_,2,none⟩) G).trans a7
   have L:X.cell? ⟨w.heap.size,3,none⟩=some (.slice A t.args.length r):=(k.cell (p:=⟨_,3,none⟩) G).trans a8
   exact ⟨_,by simp [aP,go_sem,e2,I,J,K,L],rfl⟩
  ·cases l
   refine nS rfl rfl (fun val g=>g 6 (oz rfl)) fun val E X N i F g hc=>?_
   have c1:=i.t 12 (val 7) rfl
   have W:val 7=_:=g 7 (oz rfl)
   exact ⟨_,_,by simp [aP,go_sem,i.f,c1,W] <;> rfl,(b4.out X (s.out.trans (F.bel.mono s.out.size))).mono fun e w' h=>by
    obtain ⟨a,c,he,k,hN⟩:=h
    exact ⟨_,he,k,⟨a,c,rfl⟩,fun N' _ D=>⟨a,c,rfl,hN.keep (fun _ _=>rfl) (fun b z=>⟨D b z.1 z.2,aI F.bel.size z.1⟩)⟩⟩⟩
  ·cases l
   refine nR (true) rfl rfl (fun _ _ _=>trivial) (fun val g=>g 6 (oz rfl)) (fun _ val E X i k g=>?_) (fun h=>absurd rfl h)
   have e3:=i.t 3 (au (some ⟨w.heap.size+1,0,none⟩)) rfl
   have I:X.cell? ⟨w.heap.size+1,0,none⟩=some (ab ae u.kind):=(k.cell (p:=⟨_,0,none⟩) H).trans a9
   have J:X.cell? ⟨w.heap.size+1,1,none⟩=some (ab ae u.num):=(k.cell (p:=⟨_,1,none⟩) H).trans b0
   have K:X.cell? ⟨w.heap.size+1,2,none⟩=some (aa u.name):=(k.cell (p:=⟨_,2,none⟩) H).trans b1
   have L:X.cell? ⟨w.heap.size+1,3,none⟩=some (.slice B u.args.length n):=(k.cell (p:=⟨_,3,none⟩) H).trans b2
   exact ⟨_,by simp [aP,go_sem,e3,I,J,K,L],rfl⟩
  ·cases l
   refine nS rfl rfl (fun val g=>g 6 (oz rfl)) fun val E X N i F g hc=>?_
   have c3:=i.t 14 (val 9) rfl
   have h9:val 9=_:=g 9 (oz rfl)
   exact ⟨_,_,by simp [aP,go_sem,i.f,c3,h9] <;> rfl,(b5.out X (s.out.trans (F.bel.mono s.out.size))).mono fun e w' h=>by
    obtain ⟨a,c,he,k,hN⟩:=h
    exact ⟨_,he,k,⟨a,c,rfl⟩,fun N' _ D=>⟨a,c,rfl,hN.keep (fun _ _=>rfl) (fun b z=>⟨D b z.1 z.2,aI F.bel.size z.1⟩)⟩⟩⟩
  ·cases l
   refine nS rfl rfl (fun val g=>g 6 (oz rfl)) fun val E X N i F g hc=>?_
   obtain ⟨a,c,Z,ht⟩:∃a c,val 8=aN #[ab ae q.kind,ab ae q.num,aa q.name,.slice a q.args.length c]/\TmsK (fun b=>N b/\C.heap.size<=b) X a q.args:=hc 8 (oz rfl) rfl
   obtain ⟨b,d,P,hu⟩:∃a c,val 10=aN #[ab ae p.kind,ab ae p.num,aa p.name,.slice a p.args.length c]/\TmsK (fun b=>N b/\C.heap.size<=b) X a p.args:=hc 10 (oz rfl) rfl
   have c2:=i.t 13 (val 8) rfl
   have c4:=i.t 15 (val 10) rfl
   exact ⟨_,_,by simp [aP,go_sem,i.f,c2,c4,Z,P] <;> rfl,(b6.out X a c b d (TmsK.at' (ht.keep (fun _ _=>rfl) (fun b z=>F.lt b z.1))) (TmsK.at' (hu.keep (fun _ _=>rfl) (fun b z=>F.lt b z.1)))).mono fun e w' h=>⟨_,h.1,h.2,rfl,fun _ _ _=>trivial⟩⟩
  ·cases l
   refine bq rfl rfl (fun val E i g=>?_)
   have c0:=i.t 11 (val 6) rfl
   have V:val 6=_:=g 6 (oz rfl)
   have c5:=i.t 16 (val 11) rfl
   have Q:val 11=_:=g 11 (oz rfl)
   exact ⟨_,fun X=>by simp [aP,go_sem,i.c,c0,V,c5,Q],rfl⟩
  ·cases l
   refine bq rfl rfl (fun val E i g=>?_)
   have c6:=i.t 17 (val 12) rfl
   have R:val 12=_:=g 12 (oz rfl)
   exact ⟨_,fun X=>by simp [aP,go_sem,c6,R],rfl⟩
 case fin0=>
  have M:val 0=_:=m 0 (by decide)
  have O:val 1=_:=m 1 (by decide)
  have D:val 2=_:=m 2 (by decide)
  have S:val 3=_:=m 3 (by decide)
  have T:val 4=_:=m 4 (by decide)
  have U:val 5=_:=m 5 (by decide)
  have V:val 6=_:=m 6 (by decide)
  have W:val 7=_:=m 7 (by decide)
  obtain ⟨_,_,Z⟩:∃a c,val 8=aN #[ab ae q.kind,ab ae q.num,aa q.name,.slice a q.args.length c]:=m 8 (by decide)
  have h9:val 9=_:=m 9 (by decide)
  obtain ⟨_,_,P⟩:∃a c,val 10=aN #[ab ae p.kind,ab ae p.num,aa p.name,.slice a p.args.length c]:=m 10 (by decide)
  have Q:val 11=_:=m 11 (by decide)
  have R:val 12=_:=m 12 (by decide)
  have a1:val 13=_:=m 13 (by decide)
  have b3:=zq (s.out.trans (HF.bel.mono s.out.size))
  refine a2 _ _ ?_
  simp only [jD,List.set_cons_zero,List.set_cons_succ,Nat.reduceAdd,ap,M,O,D,S,T,U,V,W,Z,h9,P,Q,R,a1]
  clear m M O D S T U V W Z h9 P Q R a1 a2 HF
  go_wp2_with fail
  go_ret
  exact ⟨rfl,b3.out⟩
end Go.Proofs.YtlikcjbjibhjgaaGreatDoor
namespace Hb
open Go Go.RowKit
def oQ:WO:=⟨true,false,false⟩
theorem IS (k:Nat) (acc:List UInt8) (h:k / 10=0):aT k++acc=(48+((k % 10:Nat):Int)).toNat.toUInt8::acc:=by
 rw [aT,dif_pos (by omega)]
 have e:(48+((k % 10:Nat):Int)).toNat=48+k:=by omega
 rw [e];rfl
theorem KJ (n:Nat):kj (n:Int)=⟨(aT n).toArray⟩:=by
 unfold kj fH;rw [if_neg (by omega)];rfl
def xn (n:Int):Tm:=.mk 1 n ⟨#[]⟩ []
def xa (s:ByteArray):Tm:=.mk 2 0 s []
theorem sO {t:Tm} (h:dH t=true) (a:t.args=[]):t.allOk=true:=by rw [Tm.allOk_eq,h,a];rfl
theorem xO {t a b:Tm} (h:dH t=true) (e:t.args=[a,b]) (c:a.allOk=true) (d:b.allOk=true):t.allOk=true:=by rw [Tm.allOk_eq,h,e];simp [c,d]
theorem tU {t:Tm} (a:t.args=[]):t.nodes=1:=by rw [Tm.nodes_eq,a];rfl
theorem Dk {t a b:Tm} (c:t.args=[a,b]):t.nodes=1+(a.nodes+b.nodes):=by rw [Tm.nodes_eq,c];simp
theorem Lo (n:Int):(xn n).allOk=true:=sO (by unfold dH xn Tm.kind Tm.name Tm.args;simp [jb]) rfl
theorem IE (k:Nat) (h:k<10):kj (k:Int)=⟨#[(48+((k % 10:Nat):Int)).toNat.toUInt8]⟩:=by
 rw [KJ]
 have:=IS k [] (by omega)
 rw [List.append_nil] at this
 rw [this]
theorem OS:kj 1=⟨#[49]⟩:=IE 1 (by decide)
theorem FX {o:WO} {T:List OpR} {t:Tm} {l:List ByteArray} {s:ByteArray} (f:t.allOk=true) (d:t.nodes<=2000) (a:bB T=true) (c:qZ o T t 1200 false=l) (b:jU l=s) (e:s.size<=16384):oZ o T t=(s,0):=by
 have g:cd t=true:=(iA t).2 ⟨d,f⟩
 rw [qc (by rw [g,a];rfl),c,b,qw e]
def yM:Tm:=.mk 3 0 ⟨#[45]⟩ [xn 1,xn (-1)]
def yL:Tm:=.mk 3 0 ⟨#[46]⟩ [xa ⟨#[104,101,108,108,111,32,119,111,114,108,100]⟩,.mk 0 0 ⟨#[]⟩ []]
def yE:Tm:=.mk 3 0 ⟨#[61]⟩ [xa ⟨#[45]⟩,yL]
def yT:Tm:=.mk 3 0 ⟨#[45]⟩ [yM,yE]
theorem Ll:yM.allOk=true:=xO (by decide +kernel) rfl (Lo _) (Lo _)
theorem Lm:yL.allOk=true:=xO (by decide +kernel) rfl (sO (by decide +kernel) rfl) (sO (by decide +kernel) rfl)
theorem Ln:yE.allOk=true:=xO (by decide +kernel) rfl (sO (by decide +kernel) rfl) Lm
theorem Lk:yT.allOk=true:=xO (by decide +kernel) rfl Ll Ln
theorem NQ:yM.nodes=3:=by rw [Dk (a:=xn 1) (b:=xn (-1)) rfl,tU (t:=xn 1) rfl,tU (t:=xn (-1)) rfl]
theorem NR:yL.nodes=3:=by rw [Dk (a:=xa ⟨#[104,101,108,108,111,32,119,111,114,108,100]⟩) (b:=.mk 0 0 ⟨#[]⟩ []) rfl,tU rfl,tU rfl]
theorem NS:yE.nodes=5:=by rw [Dk (a:=xa ⟨#[45]⟩) (b:=yL) rfl,NR,tU rfl]
theorem NP:yT.nodes=9:=by rw [Dk (a:=yM) (b:=yE) rfl,NQ,NS]
theorem Ou:kj (-1)=⟨#[45,49]⟩:=by
 have a:fH 1=[49]:=by
  have:=congrArg (fun b=>b.data.toList) OS
  exact this
 have c:aT 1=[49]:=by
  unfold fH at a
  rw [if_neg (by decide)] at a
  exact a
 have d:fH (-1)=[45,49]:=by
  unfold fH
  rw [if_pos (by decide)]
  show 45::aT 1=_
  rw [c]
 unfold kj
 rw [d]
theorem OU:kj 0=⟨#[48]⟩:=IE 0 (by decide)
theorem LK:str oQ defL yL=([⟨#[91]⟩,⟨#[39,104,101,108,108,111,32,119,111,114,108,100,39]⟩,⟨#[124]⟩,s1 95++kj 0,⟨#[93]⟩],op0):=by
 rw [rp _ _ (K4.of_ok _ Lm)]
 have a:cK yL=[xa ⟨#[104,101,108,108,111,32,119,111,114,108,100]⟩]:=by
  rw [iw (by decide +kernel)]
  show xa ⟨#[104,101,108,108,111,32,119,111,114,108,100]⟩::cK (.mk 0 0 ⟨#[]⟩ [])=_
  rw [iH (by decide +kernel)]
 have b:di yL=.mk 0 0 ⟨#[]⟩ []:=by
  rw [jL (by decide +kernel)]
  exact jt (by decide +kernel)
 unfold mw
 rw [if_neg (by decide +kernel),if_pos (by decide +kernel),a,b]
 show _=_
 kernel_rfl
theorem LJ:str oQ defL yM=([kj 1,⟨#[45]⟩,kj (-1)],cP defL ⟨#[45]⟩ 2):=by
 rw [rp _ _ (K4.of_ok _ Ll)]
 kernel_rfl
theorem LL:str oQ defL yE=([⟨#[40]⟩,⟨#[45]⟩,⟨#[41]⟩,⟨#[61]⟩,⟨#[91]⟩,⟨#[39,104,101,108,108,111,32,119,111,114,108,100,39]⟩,⟨#[124]⟩,s1 95++kj 0,⟨#[93]⟩],cP defL ⟨#[61]⟩ 2):=by
 rw [rp _ _ (K4.of_ok _ Ln)]
 unfold mw
 rw [if_neg (by decide +kernel),if_neg (by decide +kernel),if_neg (by decide +kernel),if_pos (by decide +kernel)]
 have a:bu oQ defL (str oQ defL) (yE.arg 1) (dB (cP defL yE.name 2)) true=[⟨#[91]⟩,⟨#[39,104,101,108,108,111,32,119,111,114,108,100,39]⟩,⟨#[124]⟩,s1 95++kj 0,⟨#[93]⟩]:=by
  show brk (str oQ defL yL).1 (decide (dB (cP defL yE.name 2)<(str oQ defL yL).2.prec))=_
  rw [LK]
  kernel_rfl
 rw [a]
 show _=_
 kernel_rfl
theorem LI:qZ oQ defL yT 1200 false=[kj 1,⟨#[45]⟩,kj (-1),⟨#[45]⟩,⟨#[40]⟩,⟨#[40]⟩,⟨#[45]⟩,⟨#[41]⟩,⟨#[61]⟩,⟨#[91]⟩,⟨#[39,104,101,108,108,111,32,119,111,114,108,100,39]⟩,⟨#[124]⟩,s1 95++kj 0,⟨#[93]⟩,⟨#[41]⟩]:=by
 have h:str oQ defL yT=([kj 1,⟨#[45]⟩,kj (-1),⟨#[45]⟩,⟨#[40]⟩,⟨#[40]⟩,⟨#[45]⟩,⟨#[41]⟩,⟨#[61]⟩,⟨#[91]⟩,⟨#[39,104,101,108,108,111,32,119,111,114,108,100,39]⟩,⟨#[124]⟩,s1 95++kj 0,⟨#[93]⟩,⟨#[41]⟩],cP defL ⟨#[45]⟩ 2):=by
  rw [rp _ _ (K4.of_ok _ Lk)]
  unfold mw
  rw [if_neg (by decide +kernel),if_neg (by decide +kernel),if_neg (by decide +kernel),if_pos (by decide +kernel)]
  have a:dE oQ defL (str oQ defL) (yT.arg 0) (cP defL yT.name 2)=[kj 1,⟨#[45]⟩,kj (-1)]:=by
   show brk (str oQ defL yM).1 (decide (gi (cP defL yT.name 2)<(str oQ defL yM).2.prec)||(((cP defL yT.name 2).typ==3||(cP defL yT.name 2).typ==7)&&((str oQ defL yM).2.typ==2||(str oQ defL yM).2.typ==4))&&(str oQ defL yM).2.prec==(cP defL yT.name 2).prec)=_
   rw [LJ]
   kernel_rfl
  have b:bu oQ defL (str oQ defL) (yT.arg 1) (dB (cP defL yT.name 2)) true=[⟨#[40]⟩,⟨#[40]⟩,⟨#[45]⟩,⟨#[41]⟩,⟨#[61]⟩,⟨#[91]⟩,⟨#[39,104,101,108,108,111,32,119,111,114,108,100,39]⟩,⟨#[124]⟩,s1 95++kj 0,⟨#[93]⟩,⟨#[41]⟩]:=by
   show brk (str oQ defL yE).1 (decide (dB (cP defL yT.name 2)<(str oQ defL yE).2.prec))=_
   rw [LL]
   kernel_rfl
  rw [a,b]
  show _=_
  kernel_rfl
 show brk (str oQ defL yT).1 (decide (1200<(str oQ defL yT).2.prec))=_
 rw [h]
 kernel_rfl
theorem rc:oZ oQ defL yT=(⟨#[49,45,32,45,49,45,40,40,45,41,61,91,39,104,101,108,108,111,32,119,111,114,108,100,39,124,95,48,93,41]⟩,0):=by
 refine FX Lk (by rw [NP];decide) Dy LI ?_ (by decide)
 rw [OS,Ou,OU]
 decide +kernel
end Hb
namespace Hb
theorem mz (q:Int->Bool):∀s:List UInt8,ch q s=s.length↔fw q s=true
 | []=>by simp [ch,fw]
 | b::s=>by
  have a:=mz q s
  have c:=fW q s
  unfold fw at a |-
  rw [ch,List.all_cons]
  by_cases h:q (b.toNat:Int)=true
  ·rw [if_pos h,h,Bool.true_and,bo,<-a];omega
  ·rw [if_neg h]
   have:q (b.toNat:Int)=false:=by simpa using h
   rw [this,Bool.false_and,bo];simp
theorem oy (q:Int->Bool) (s:List UInt8) (h:fw q s=true) (k:Nat) (a:k<s.length):q (av s k)=true:=by
 unfold fw at h
 rw [List.all_eq_true] at h
 have:=h s[k] (List.getElem_mem a)
 rwa [fq _ _ a,<-iJ _ _ a]
theorem oR (s:List UInt8) (h:s.length=1) (c:UInt8) (a:av s 0=(c.toNat:Int)):s=[c]:=by
 match s,h with
 | [b],_=>
  rw [dy] at a
  have:b=c:=UInt8.toNat_inj.1 (by omega)
  rw [this]
theorem vt (s:List UInt8):s.take 2=[47,42]↔av s 0=47/\av s 1=42:=by
 match s with
 | []=>simp [av]
 | [b]=>simp [av]
 | b::c::l=>
  rw [dy,fP,dy]
  simp only [List.take_succ_cons,List.take_zero]
  constructor
  ·intro h;injection h with a h;injection h with d _;subst a;subst d;exact ⟨rfl,rfl⟩
  ·rintro ⟨a,d⟩
   have e:b=47:=UInt8.toNat_inj.1 (by show b.toNat=47;omega)
   have f:c=42:=UInt8.toNat_inj.1 (by show c.toNat=42;omega)
   rw [e,f]
theorem tT (s:List UInt8) (h:s.length<=100):dM 1 (s.take s.length) ((0:Nat):Int) ((0:Nat)+(s.length:Int))=⟨1,s,0,0,s.length,0⟩:=by
 unfold dM
 rw [cL,if_neg (by omega)];simp
theorem DV (s:List UInt8) (v:0<s.length):cC s s 0=⟨1,s,0,0,s.length,0⟩ ↔
  (s.length<=100/\((s=[33]\/s=[59])\/((fw dI s=true/\cls (av s 0)=2)\/(fw dC s=true/\¬s=[46]/\¬s.take 2=[47,42])))):=by
 have A:(0:Nat)+(s.length:Int)=(s.length:Int):=by omega
 have u:∀q,(s.take (ch q s)).length=s.length->ch q s=s.length:=fun q h=>by rw [bM] at h;have:=fW q s;omega
 have p:fw dC s=true->cls (av s 0)=5:=fun h=>by
  have:=oy dC s h 0 v
  unfold dC at this;simpa using this
 unfold cC
 rw [vt]
 by_cases a0:av s 0=47/\av s (0+1)=42
 ·rw [if_pos a0]
  constructor
  ·intro h;exact absurd (congrArg LexR.err h) (by show ¬(7:Int)=0;decide)
  ·rintro ⟨_,h | ⟨_,h⟩ | ⟨_,_,h⟩⟩
   ·rcases h with rfl|rfl
    ·exact absurd a0.1 (by decide +kernel)
    ·exact absurd a0.1 (by decide +kernel)
   ·rw [a0.1] at h;exact absurd h (by decide +kernel)
   ·exact absurd a0 h
 rw [if_neg a0]
 by_cases e:cls (av s 0)=2\/cls (av s 0)=3
 ·rw [if_pos e]
  unfold pf
  simp only [cY]
  constructor
  ·intro h
   obtain ⟨_,_,a,f⟩:=io _ _ _ _ (show _=(0:Int) by rw [h])
   rw [h] at a f
   have l:=u dI (by rw [<-f])
   have r:s.length<=100:=by
    rcases cS 100 s.length with d | d
    ·unfold dM at h
     rw [l,cL,if_pos d] at h
     exact absurd (congrArg LexR.err h) (by show ¬(2:Int)=0;decide)
    ·exact d
   refine ⟨r,.inr (.inl ⟨(mz _ _).1 l,?_⟩)⟩
   simp only [] at a
   unfold ly at a
   rcases e with e | e
   ·exact e
   ·rw [if_pos e] at a;exact absurd a (by decide)
  ·rintro ⟨g,h | ⟨i,o⟩ | ⟨i,_⟩⟩
   ·rcases h with rfl|rfl
    ·exact absurd e (by decide +kernel)
    ·exact absurd e (by decide +kernel)
   ·rw [(mz _ _).2 i]
    have:ly (av s 0)=1:=by unfold ly;rw [o];rfl
    rw [this];exact tT s g
   ·have:=p i;omega
 rw [if_neg e]
 by_cases m:cls (av s 0)=4
 ·rw [if_pos m]
  have c:¬(jP s s 0).kind=1\/¬(jP s s 0).err=0:=by
   unfold jP
   split
   ·cases cO (s.drop (0+2)) 39 with
    | none=>right;show ¬(7:Int)=0;decide
    | some ck=>left;show ¬(4:Int)=1;decide
   split
   ·unfold intR;split
    ·left;show ¬(4:Int)=1;decide
    ·right;show ¬(7:Int)=0;decide
   ·unfold intR;split
    ·left;show ¬(4:Int)=1;decide
    ·right;show ¬(7:Int)=0;decide
  constructor
  ·intro h;rw [h] at c;rcases c with c | c <;> exact absurd rfl c
  ·rintro ⟨_,h | ⟨_,h⟩ | ⟨h,_⟩⟩
   ·rcases h with rfl|rfl
    ·exact absurd m (by decide +kernel)
    ·exact absurd m (by decide +kernel)
   ·omega
   ·have:=p h;omega
 rw [if_neg m]
 by_cases j:cls (av s 0)=5
 ·rw [if_pos j]
  unfold nI
  simp only [cY]
  by_cases k:av s 0=46/\jH (av s (0+1))=true
  ·rw [if_pos k]
   constructor
   ·intro h;exact absurd (congrArg LexR.kind h) (by show ¬(7:Int)=1;decide)
   ·rintro ⟨_,h | ⟨_,h⟩ | ⟨i,o,z⟩⟩
    ·rcases h with rfl|rfl
     ·exact absurd j (by decide +kernel)
     ·exact absurd j (by decide +kernel)
    ·omega
    ·exfalso
     by_cases g:s.length=1
     ·exact o (oR s g 46 k.1)
     ·have:=oy dC s i 1 (by omega)
      unfold dC at this
      have b:cls (av s 1)=5:=by simpa using this
      have t:=k.2
      rw [ap] at t
      unfold jH at t
      have w:¬av s 1<0:=fun h=>by rw [DB _ (by omega)] at b;omega
      have y:¬av s 1=37:=fun h=>by rw [h] at b;exact absurd b (by decide +kernel)
      simp [w,y,b] at t
  ·rw [if_neg k]
   constructor
   ·intro h
    obtain ⟨_,_,a,f⟩:=io _ _ _ _ (show _=(0:Int) by rw [h])
    rw [h] at f
    have l:=u dC (by rw [<-f])
    have r:s.length<=100:=by
     rcases cS 100 s.length with d | d
     ·unfold dM at h
      rw [l,cL,if_pos d] at h
      exact absurd (congrArg LexR.err h) (by show ¬(2:Int)=0;decide)
     ·exact d
    refine ⟨r,.inr (.inr ⟨(mz _ _).1 l,fun h=>?_,a0⟩)⟩
    subst h
    exact k ⟨rfl,by decide +kernel⟩
   ·rintro ⟨g,h | ⟨_,o⟩ | ⟨i,_⟩⟩
    ·rcases h with rfl|rfl
     ·exact absurd j (by decide +kernel)
     ·exact absurd j (by decide +kernel)
    ·omega
    ·rw [(mz _ _).2 i];exact tT s g
 rw [if_neg j]
 by_cases n:cls (av s 0)=6
 ·rw [if_pos n]
  unfold rZ
  simp only [cY]
  constructor
  ·intro h
   obtain ⟨_,_,a,f⟩:=io _ _ _ _ (show _=(0:Int) by rw [h])
   rw [h] at a f
   simp only [] at a f
   have g:s.length=1:=by
    have:=congrArg List.length f
    rw [bM] at this;omega
   refine ⟨by omega,.inl ?_⟩
   unfold mA at a
   by_cases b:av s 0=33\/av s 0=59
   ·rcases b with b | b
    ·exact .inl (oR s g 33 b)
    ·exact .inr (oR s g 59 b)
   ·rw [if_neg b] at a;exact absurd a (by decide)
  ·rintro ⟨_,h | ⟨_,h⟩ | ⟨h,_⟩⟩
   ·rcases h with rfl|rfl
    ·rfl
    ·rfl
   ·omega
   ·have:=p h;omega
 rw [if_neg n]
 constructor
 ·intro h
  exfalso
  have c:¬(if cls (av s 0)=7 then iD s s 0 else dR 7).kind=1\/¬(if cls (av s 0)=7 then iD s s 0 else dR 7).err=0:=by
   split
   ·unfold iD
    split
    ·cases lg (s.drop (0+1)) 34 with
     | none=>right;show ¬(7:Int)=0;decide
     | some ck=>left;show ¬(5:Int)=1;decide
    split
    ·cases lg (s.drop (0+1)) 39 with
     | none=>right;show ¬(7:Int)=0;decide
     | some x=>
      by_cases d:100<x.1.length
      ·right;simp [tQ,dM,d,dR]
      ·left;simp [tQ,dM,d]
    ·right;show ¬(7:Int)=0;decide
   ·right;show ¬(7:Int)=0;decide
  rw [h] at c;rcases c with c | c <;> exact absurd rfl c
 ·rintro ⟨_,h | ⟨_,h⟩ | ⟨h,_⟩⟩
  ·rcases h with rfl|rfl
   ·exact absurd (show cls (av [33] 0)=6 by decide +kernel) n
   ·exact absurd (show cls (av [59] 0)=6 by decide +kernel) n
  ·omega
  ·have:=p h;omega
theorem vI (s:List UInt8):mj s=true↔(s=[91,93]\/s=[123,125])\/(s.length<=100/\((s=[33]\/s=[59])\/((fw dI s=true/\cls (av s 0)=2)\/(0<s.length/\fw dC s=true/\¬s=[46]/\¬s.take 2=[47,42])))):=by
 unfold mj wZ
 simp
 constructor
 ·rintro ⟨a,h⟩
  rcases h with (h | h | h | h) | ⟨b,c⟩ | ⟨b,c,d,e⟩
  ·exact .inl (.inl h)
  ·exact .inl (.inr h)
  ·exact .inr ⟨a,.inl (.inl h)⟩
  ·exact .inr ⟨a,.inl (.inr h)⟩
  ·exact .inr ⟨a,.inr (.inl ⟨b,c⟩)⟩
  ·exact .inr ⟨a,.inr (.inr ⟨by cases s with | nil=>exact absurd rfl c | cons=>simp,b,d,e⟩)⟩
 ·rintro ((h | h) | ⟨a,(h | h) | ⟨b,c⟩ | ⟨f,b,d,e⟩⟩)
  ·subst h;exact ⟨by decide,.inl (.inl rfl)⟩
  ·subst h;exact ⟨by decide,.inl (.inr (.inl rfl))⟩
  ·exact ⟨a,.inl (.inr (.inr (.inl h)))⟩
  ·exact ⟨a,.inl (.inr (.inr (.inr h)))⟩
  ·exact ⟨a,.inr (.inl ⟨b,c⟩)⟩
  ·exact ⟨a,.inr (.inr ⟨b,by rintro rfl;simp at f,d,e⟩)⟩
theorem Bo (s:List UInt8) (b:0<s.length) (h:(s=[33]\/s=[59])\/((fw dI s=true/\cls (av s 0)=2)\/(fw dC s=true/\¬s.take 2=[47,42]))):bS s=0:=by
 rw [mB]
 have f:s.isEmpty=false:=by cases s with | nil=>simp at b | cons=>rfl
 rw [f,if_neg (by decide)]
 have a:¬cls (av s 0)=1/\¬av s 0=37/\¬(av s 0=47/\av s 1=42):=by
  rcases h with (rfl|rfl) | ⟨_,h⟩ | ⟨h,d⟩
  ·decide +kernel
  ·decide +kernel
  ·refine ⟨by omega,fun e=>?_,fun e=>?_⟩
   ·rw [e] at h;exact absurd h (by decide +kernel)
   ·rw [e.1] at h;exact absurd h (by decide +kernel)
  ·have:=oy dC s h 0 b
   unfold dC at this
   have c:cls (av s 0)=5:=by simpa using this
   refine ⟨by omega,fun e=>?_,fun e=>d ((vt s).2 e)⟩
   rw [e] at c;exact absurd c (by decide +kernel)
 rw [if_neg a.1,if_neg a.2.1,if_neg a.2.2]
def tK (b:Nat):Prop:=b=2\/b=8\/b=10\/b=16
theorem Lb (b:Nat) (a:tK b):2<=b/\b<=16:=by rcases a with rfl|rfl|rfl|rfl <;> decide
theorem IT (s:List UInt8) (h:fw (cq 10) s=true) (k:Nat) (a:k<s.length):48<=av s k/\av s k<=57:=by
 have:=oy _ _ h k a
 have c:=fq _ _ a
 have d:=jR s k
 have e:=kh s k
 unfold cq at this
 rw [lx _ _ (by decide) (by decide)] at this
 have b:qK (av s k)<10:=by simpa using this
 unfold qK at b
 grind
def uQ (n:Int) (r:LexR):LexR:=if r.err=0 then ⟨r.kind,r.text,r.n,r.at_+n,r.end_+n,0⟩ else r
theorem lT (n e:Int) (h:¬e=0):uQ n (dR e)=dR e:=by unfold uQ dR;rw [if_neg h]
theorem oL (n d:Int) (t:List UInt8) (a e b c:Int) (f:b=a+n) (g:c=e+n):dM d t b c=uQ n (dM d t a e):=by
 subst f;subst g
 unfold dM
 by_cases h:100<t.length
 ·rw [if_pos h,if_pos h,lT _ _ (by decide)]
 ·rw [if_neg h,if_neg h];rfl
theorem CN (n b:Int) (t:List UInt8) (a e c d:Int) (f:c=a+n) (g:d=e+n):intR b t c d=uQ n (intR b t a e):=by
 subst f;subst g
 unfold intR
 by_cases h:db b t<=9223372036854775808
 ·rw [if_pos h,if_pos h];rfl
 ·rw [if_neg h,if_neg h,lT _ _ (by decide)]
theorem AX (n d f a e b c:Int) (t:List UInt8) (g:b=a+n) (h:c=e+n):(⟨d,t,f,b,c,0⟩:LexR)=uQ n ⟨d,t,f,a,e,0⟩:=by
 subst g;subst h;rfl
theorem JP (n k:Int) (r:LexR):uQ n (uQ k r)=uQ (k+n) r:=by
 by_cases h:r.err=0
 ·unfold uQ;rw [if_pos h];simp only [if_true];rw [if_pos h];simp [Int.add_assoc]
 ·unfold uQ;rw [if_neg h,if_neg h,if_neg h]
theorem xR (m:List UInt8) (p:Nat):cF (m.drop p) 0=cF m p:=by
 unfold cF;simp only [bZ,bv,ap]
theorem yx (m l:List UInt8) (p:Nat):cC m l p=uQ p (cC (m.drop p) (l.drop p) 0):=by
 have a:av (m.drop p) 0=av m p:=by rw [bZ,bv]
 have b:av (m.drop p) (0+1)=av m (p+1):=by rw [bZ,ap]
 unfold cC
 simp only [a,b]
 split
 ·rw [lT _ _ (by decide)]
 split
 ·unfold pf;rw [a];simp only [cY];exact oL _ _ _ _ _ _ _ (by simp) (by simp;omega)
 split
 ·unfold jP
  simp only [a,b,xR,ci,ap]
  split
  ·cases cO (l.drop (p+2)) 39 with
   | none=>rw [lT _ _ (by decide)]
   | some ck=>exact AX _ _ _ _ _ _ _ _ (by simp) (by simp;omega)
  split
  ·exact CN _ _ _ _ _ _ _ (by simp) (by simp;omega)
  ·exact CN _ _ _ _ _ _ _ (by simp) (by simp;omega)
 split
 ·unfold nI
  simp only [a,b,cY]
  split
  ·exact AX _ _ _ _ _ _ _ _ (by simp) (by simp;omega)
  ·exact oL _ _ _ _ _ _ _ (by simp) (by simp;omega)
 split
 ·unfold rZ;rw [a];simp only [cY];exact oL _ _ _ _ _ _ _ (by simp) (by simp;omega)
 split
 ·unfold iD
  simp only [a,ci,ap]
  split
  ·cases lg (l.drop (p+1)) 34 with
   | none=>unfold nQ;rw [lT _ _ (by decide)]
   | some x=>unfold nQ;exact AX _ _ _ _ _ _ _ _ (by simp) (by simp;omega)
  split
  ·cases lg (l.drop (p+1)) 39 with
   | none=>unfold tQ;rw [lT _ _ (by decide)]
   | some x=>unfold tQ;exact oL _ _ _ _ _ _ _ (by simp) (by simp;omega)
  ·rw [lT _ _ (by decide)]
 ·rw [lT _ _ (by decide)]
theorem CE (a l:List UInt8) (p:Nat):cC (a++l) (a++l) (a.length+p)=uQ a.length (cC l l p):=by
 rw [yx,yx l l p,JP,List.drop_append,List.drop_of_length_le (by omega),show a.length+p-a.length=p by omega,List.nil_append]
 congr 1;simp;omega
theorem ME (l:List UInt8):cU (jZ []) l=l:=by
 unfold cU jZ
 simp
def No:Nat->List UInt8
 | 0=>[32]
 | 1=>[10]
 | 2=>[9]
 | 3=>[37,32,97,32,39,98,32,47,42,10]
 | 4=>[47,42,32,37,32,39,32,42,32,47,32,42,42,47]
 | 5=>[47,42,42,47]
 | _=>[13,10]
end Hb
