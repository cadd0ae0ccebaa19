/- Parts of the proof. -/
import Derived.Test.YtlikcjbjibhjgaaGreatDoorR01
import Derived.Test.YtlikcjbjibhjgaaGreatDoorR32
import Derived.Test.YtlikcjbjibhjgaaGreatDoorR33
set_option maxHeartbeats 12800000
set_option maxRecDepth 100000
set_option linter.unusedSimpArgs false
open Bool renaming and_eq_true -> aF
open Go renaming Calls -> aJ, World -> ai, execOp -> aP, heap_setCell_other -> aS
open Go.Act renaming put -> gd
open Go.Ending renaming returned -> aw
open Go.IntKind renaming i64 -> ae
open Go.Proofs.Tryz renaming prog -> ah
open Go.RowKit renaming Below -> ax
open Go.RowKit.Below renaming refl -> aj
open Go.Value renaming agg -> aN, bool -> am, int -> ab, pointer -> au, string -> aa, tuple -> aK
open Go.World renaming cell?_of_block -> bG
open List renaming mem_singleton -> aG, setIfInBounds_toArray -> bH
open Nat renaming le_refl -> ag, le_succ -> cQ, reduceAdd -> ar, zero_add -> ap, zero_le -> bp
namespace Hb
open Go Go.RowKit
theorem KK {f:Int->Int}:∀t:Tm,Tm.All (fun x=>dP x=true) t->(fX f t).allOk=true->Tm.All (fun x=>dP x=true) (fX f t):=Tm.ind fun t j h k=>by
 rw [Tm.allOk_eq,aF] at k
 refine .mk _ ?_ fun a b=>?_
 ·have c:=k.1
  have g:=(eX _).1 h.here
  rw [eX]
  by_cases d:t.kind=0
  ·unfold dH at c
   rw [qm,if_pos d,aF,aF,aF,decide_eq_true_iff,decide_eq_true_iff] at c
   omega
  ·rw [oN,if_neg d]
   exact g
 ·have i:=List.all_eq_true.1 k.2 a b
  rw [kJ] at b
  obtain ⟨x,e,rfl⟩:=List.mem_map.1 b
  exact j x e (h.sub x e) i
theorem KL {t:Tm} (h:Tm.All (fun x=>dP x=true) t) (b:cd (gy t)=true) (c:cd t=true):Tm.All (fun x=>dP x=true) (gy t):=by
 have a:=((iA _).1 b).2
 unfold gy at a |-
 rw [if_pos c] at a |-
 exact KK t h a
theorem GH {T:List OpR} {o:OpR} (a:(nJ T o).2=0):bB (nJ T o).1=true:=by
 have h:=(GJ T o).1 a
 rw [GI h]
 exact h.valid
theorem EN {a b c:Bool}:Mp [am a,am b,am c]:=by
 intro i s x h
 rcases i with _ | _ | _ | i <;> simp at h
theorem Gs {A:Option Addr} {n c:Nat}:Mp [.slice A n c,ab ae 1,ab ae 1,am false,am false,.slice none 0 0]:=by
 intro i s x h
 rcases i with _ | _ | _ | _ | _ | _ | i <;> simp at h
theorem jS {P:Program} {b:Array Oper} {Q:Exit->Act->ai->Prop} {md:Region.Mode} {k:Nat} {d:Array Bool} {a:Act} {w:ai} {v:Value} {i:Nat} {o:Oper} (f:Region.ready md b d=[i]) (e:b[i]? = some o) (c:o.guard=none) (g:(aP a.eval o).run P w=.ok (.value v) w) (h:wpAny P md b Q k (d.setIfInBounds i true) (a.put o.dst v) w):wpAny P md b Q (k+1) d a w :=
 vf f e c (RunsTo.wp (R:=fun x w'=>x=v/\w'=w) (.inl ⟨_,_,g,rfl,rfl⟩) fun _ _ ⟨e1,e2⟩=>by subst e1 e2;exact h)
theorem wI {P:Program} {a:Act} {w:ai} {v:Value} {o:Oper} {K:Act->ai->Prop} {Q:Exit->Act->ai->Prop} (b:(aP a.eval o).run P w=.ok (.value v) w) (h:K (a.put o.dst v) w):o.wp P a w K Q :=
 RunsTo.wp (R:=fun x w'=>x=v/\w'=w) (.inl ⟨_,_,b,rfl,rfl⟩) fun _ _ ⟨e1,e2⟩=>by subst e1 e2;exact h
theorem wV {w x:ai} {a k h i g:Nat} {B e:Option Addr} {L:List (Nat×List Value)} {T:List OpR} (l:Hid (ax w.heap.size w x)) (f:Hid (Bks x ((a,[.slice B i g,ab ae 1,ab ae 1,am false,am false,.slice none 0 0])::L))) (n:Hid (Tab x e k h T)) (m:Hid (w.heap.size<=a)) (C:Option Addr) (c b:Nat) :
  Hid (ax w.heap.size w (x.setCell ⟨a,0,none⟩ (.slice C c b)))/\Hid (Bks (x.setCell ⟨a,0,none⟩ (.slice C c b)) ((a,[.slice C c b,ab ae 1,ab ae 1,am false,am false,.slice none 0 0])::L))/\Hid (Tab (x.setCell ⟨a,0,none⟩ (.slice C c b)) e k h T) :=
 ⟨zq (l.out.setCell (p:=⟨a,_,none⟩) m.out _),zq (f.out.set 0 0 rfl (.slice C c b)),zq (rm (L:=[(a,[.slice B i g,ab ae 1,ab ae 1,am false,am false,.slice none 0 0])]) n.out ⟨fun x d=>by rw [aG.1 d];exact f.out.at 0 _ _ rfl,by simp⟩ (fun x d=>by rw [aG.1 d];exact Gs) (by simp) (fun j o=>aS _ _ _ _ (o _ (aG.2 rfl))))⟩
end Hb
namespace Go.Proofs.YtlikcjbjibhjgaaGreatDoor
open Go.RowKit Hb
attribute [local go_sem] Oper.semAt_some
theorem KC {TA:Option Addr} {TN TC:Nat} {cl:List OpR} {t:Tm} (j8:Tm.All (fun x=>dP x=true) t) (A:Option Addr) (I:Nat) (o:WO) (w:ai) (hD:DoorOk w) (f5:Tab w TA TN TC cl) (hT:TmsAt w.heap.size w A t.args) :
  aJ ah 3 #[.slice TA TN TC,er t A I,o.v] w fun e w'=>e=aw (am true)/\ax w.heap.size w w':=by
 have b1:=zq (fun W (h:ax w.heap.size w W)=>FZ W (hD.below h))
 have g0:Hid (ax w.heap.size w ((w.alloc (.cells #[ab ae t.kind,ab ae t.num,aa t.name,.slice A t.args.length I] 25)).alloc (.cells #[am o.q,am o.ig,am o.nu] 27))):=zq (((aj _ w).alloc (ag _) _).alloc (by simp) _)
 have g6:Hid (Bks ((w.alloc (.cells #[ab ae t.kind,ab ae t.num,aa t.name,.slice A t.args.length I] 25)).alloc (.cells #[am o.q,am o.ig,am o.nu] 27)) [(w.heap.size+1,[am o.q,am o.ig,am o.nu]),(w.heap.size,[ab ae t.kind,ab ae t.num,aa t.name,.slice A t.args.length I])]):=zq (((Bks.nil w).new [ab ae t.kind,ab ae t.num,aa t.name,.slice A t.args.length I] 25 rfl).new [am o.q,am o.ig,am o.nu] 27 (by simp))
 have b4:Hid (∀(u:Tm) (C:Option Addr) (cc:Nat) (T:List OpR) (B:Option Addr) (y n:Nat) X,Tm.All (fun x=>dP x=true) u->bB T=true->ax w.heap.size w X->Tab X B y n T->TmsAt X.heap.size X C u.args->aJ ah 7 #[aN #[ab ae u.kind,ab ae u.num,aa u.name,.slice C u.args.length cc],.slice B y n,aN #[am true,am o.ig,am false]] X fun e w'=>e=aw (aK #[aa (oZ ⟨true,o.ig,false⟩ T u).1,ab ae (oZ ⟨true,o.ig,false⟩ T u).2])/\ax X.heap.size X w'):=zq fun u C cc T B y n X hu r Q a0 hC=>
  FG (o:=⟨true,o.ig,false⟩) (T:=T) (TA:=B) (TN:=y) (TC:=n) hu C cc X (hD.below Q) (by have:=rk r;have:=a0.len;unfold maxLen;omega) a0 hC
 have j1:Hid (∀X,ax w.heap.size w X->aJ ah 8 #[aN #[ab ae t.kind,ab ae t.num,aa t.name,.slice A t.args.length I]] X fun e w'=>e=aw (am (cd t))/\ax X.heap.size X w'):=zq fun X h=>pC t A I X ((hT.keep h).mono h.size)
 have a8:Hid (∀X,cd t=true->ax w.heap.size w X->aJ ah 11 #[aN #[ab ae t.kind,ab ae t.num,aa t.name,.slice A t.args.length I]] X fun e w'=>e=aw (am (pW t))/\ax X.heap.size X w'):=zq fun X r h=>Bh t A I X ((hT.keep h).mono h.size) r
 have b7:Hid (∀(z:Tm) C c X,ax w.heap.size w X->TmsAt X.heap.size X C z.args->cd z=true->cd t=true->gy z=gy t->aJ ah 10 #[aN #[ab ae z.kind,ab ae z.num,aa z.name,.slice C z.args.length c],aN #[ab ae t.kind,ab ae t.num,aa t.name,.slice A t.args.length I]] X fun e w'=>e=aw (am true)/\ax X.heap.size X w'):=zq fun z C c X Q hz h1 h2 h3=>by
  have h:=vv z t C A c I X hz ((hT.keep Q).mono Q.size) h1 h2
  rw [h3,oX.2 rfl] at h
  exact h
 have c8:Hid (∀X,ax w.heap.size w X->TmsAt X.heap.size X A t.args):=zq fun X h=>(hT.keep h).mono h.size
 have g4:Hid (∀X,ax w.heap.size w X->Tab X TA TN TC cl):=zq fun X h=>f5.below h
 have c6:=zq j8
 have i1:=zq f5.len
 clear j8 hD f5 hT
 unfold er WO.v
 go_enter Tryz.func3,Tryz.ntmps3
 go_wp2_with fail
 refine (Ds _).mono ?_;rintro e w1 ⟨g,n,rfl,a,a0⟩
 have d8:=bz g0 a
 have g7:=zq (g6.out.call a)
 have i6:=zq a0
 clear a a0 g0 g6
 obtain ⟨x,HX⟩:=lz (w1.alloc (.cells #[.slice (some ⟨g,0,none⟩) 41 n,ab ae 1,ab ae 1,am false,am false,.slice none 0 0] 32))
 obtain ⟨gs,c7⟩:=lz (w1.heap.size)
 have a:ax w1.heap.size w1 x:=by rw [HX.out];exact (aj _ _).alloc (ag _) _
 have g8:Hid (Bks x [(gs,[.slice (some ⟨g,0,none⟩) 41 n,ab ae 1,ab ae 1,am false,am false,.slice none 0 0]),(w.heap.size+1,[am o.q,am o.ig,am o.nu]),(w.heap.size,[ab ae t.kind,ab ae t.num,aa t.name,.slice A t.args.length I])]):=zq (by rw [HX.out,c7.out];exact g7.out.new [.slice (some ⟨g,0,none⟩) 41 n,ab ae 1,ab ae 1,am false,am false,.slice none 0 0] 32 rfl)
 have g1:=bz d8 a
 have i7:=zq (i6.out.below a)
 have f0:Hid (w.heap.size<=gs):=zq (by rw [c7.out];exact d8.out.size)
 go_upto_region 2 with fail
 rw [<-HX.out,<-c7.out]
 clear a d8 g7 i6 HX c7
 go_wp2_with fail
 go_loopw [8] (fun i wr=>∃(k:Nat) (T:List OpR) (B:Option Addr) (y n:Nat),k<=TN/\i=ab ae k/\Hid (ax w.heap.size w wr)/\Hid (Bks wr [(gs,[.slice B y n,ab ae 1,ab ae 1,am false,am false,.slice none 0 0]),(w.heap.size+1,[am o.q,am o.ig,am o.nu]),(w.heap.size,[ab ae t.kind,ab ae t.num,aa t.name,.slice A t.args.length I])])/\Hid (Tab wr B y n T)/\Hid (bB T=true)) (fun i _=>TN-(intOf i).toNat)
 case atStart=>exact ⟨0,defL,some ⟨g,0,none⟩,41,n,bp _,rfl,g1,g8,i7,zq Dy⟩
 case round=>
  clear g1 g8 i7
  obtain ⟨k,T,B,y,n,hk,rfl,a5,a9,b6,Z⟩:=hrel
  by_cases l6:k<TN
  ·by_cases l8:(200:Int)<=(k:Int)
   ·go_wp2_with fail
    refine (b1.out _ a5.out).mono ?_;rintro e wz ⟨rfl,a⟩
    have S:=bz a5 a
    clear a
    go_wp2_with fail
    go_ret
    exact ⟨rfl,S.out⟩
   ·have l5:k<cl.length:=by have:=i1.out;omega
    obtain ⟨b,J,l4,j7,c0,c1,c2⟩:=(g4.out _ a5.out).ops k l5
    generalize cl[k]=oo at c0 c1 c2
    have i5:=zq (fun X Q=>Ko B y n T oo.prec oo.typ oo.name X (by have:=rk Z.out;have:=b6.out.len;omega) Q)
    have a2:=zq (fun h=>GH (T:=T) (o:=⟨oo.name,oo.typ,oo.prec⟩) h)
    have c5:=zq j7
    have f7:(0:Int)<=(k:Int):=by omega
    have f8:(k:Int)<(TN:Int):=by omega
    subst l4
    generalize oo.prec=pr at *
    generalize oo.typ=ty at *
    generalize oo.name=nm at *
    clear j7
    go_upto_region 7 with fail
    rename_i K7 f4
    refine Bc (m:=17) (w0:=wr) [cV [] [0] (fun|[v]=>v=au (some ⟨gs,0,none⟩)|_=>False),
      jn [0] [1] (fun|[v]=>v=.slice B y n|_=>False),
      cV [] [2] (fun|[v]=>v=.slice (some ⟨b,J,none⟩) TN TC|_=>False),
      cV [] [3] (fun|[v]=>v=ab ae (k:Int)|_=>False),
      cV [2,3] [4] (fun|[v]=>v=au (some ⟨b,J+k * 3,none⟩)|_=>False),
      cV [2,3,4] [5] (fun|[v]=>v=au (some ⟨b,J+k * 3+2,none⟩)|_=>False),
      jn [2,3,4,5] [6] (fun|[v]=>v=ab ae pr|_=>False),
      cV [] [7] (fun|[v]=>v=.slice (some ⟨b,J,none⟩) TN TC|_=>False),
      cV [] [8] (fun|[v]=>v=ab ae (k:Int)|_=>False),
      cV [7,8] [9] (fun|[v]=>v=au (some ⟨b,J+k * 3,none⟩)|_=>False),
      cV [7,8,9] [10] (fun|[v]=>v=au (some ⟨b,J+k * 3+1,none⟩)|_=>False),
      jn [7,8,9,10] [11] (fun|[v]=>v=ab ae ty|_=>False),
      cV [] [12] (fun|[v]=>v=.slice (some ⟨b,J,none⟩) TN TC|_=>False),
      cV [] [13] (fun|[v]=>v=ab ae (k:Int)|_=>False),
      cV [12,13] [14] (fun|[v]=>v=au (some ⟨b,J+k * 3,none⟩)|_=>False),
      cV [12,13,14] [15] (fun|[v]=>v=au (some ⟨b,J+k * 3,none⟩)|_=>False),
      jn [12,13,14,15] [16] (fun|[v]=>v=aa nm|_=>False)]
      [some 29,some 30,some 31,some 32,some 33,some 34,some 35,some 36,some 37,some 38,some 39,some 40,some 41,some 42,some 43,some 44,some 45] (fun _=>True) (wr.heap.size) (by kernel_rfl) (by kernel_rfl) (ag _) (by kernel_rfl) (by kernel_rfl) (by kernel_rfl) (fun j o D=>?srv7) (fun val Y N r HF=>?fin7)
    case srv7=>
      have l6:j<17:=(Array.getElem?_eq_some_iff.1 D).1
      rcases (show j=0\/j=1\/j=2\/j=3\/j=4\/j=5\/j=6\/j=7\/j=8\/j=9\/j=10\/j=11\/j=12\/j=13\/j=14\/j=15\/j=16 by omega) with rfl|rfl|rfl|rfl|rfl|rfl|rfl|rfl|rfl|rfl|rfl|rfl|rfl|rfl|rfl|rfl|rfl
      ·cases D
       refine bq rfl rfl (fun val E d f=>?_)
       have e7:=d.t 7 (au (some ⟨gs,0,none⟩)) rfl
       exact ⟨_,fun X=>by simp [aP,go_sem,e7],rfl⟩
      ·cases D
       refine fI rfl rfl (fun _ _ _=>trivial) (fun val E X d a f=>?_)
       have k1:=d.t 29 (val 0) rfl
       have h0:val 0=_:=f 0 (oz rfl)
       have hx:=(a9.out.call a).cell 0 0 rfl rfl
       exact ⟨_,by simp [aP,go_sem,k1,h0,hx],rfl⟩
      ·cases D
       refine bq rfl rfl (fun val E d f=>?_)
       have e0:=d.t 0 (.slice (some ⟨b,J,none⟩) TN TC) rfl
       exact ⟨_,fun X=>by simp [aP,go_sem,e0],rfl⟩
      ·cases D
       refine bq rfl rfl (fun val E d f=>?_)
       have e8:=d.t 8 (ab ae (k:Int)) rfl
       exact ⟨_,fun X=>by simp [aP,go_sem,e8],rfl⟩
      ·cases D
       refine bq rfl rfl (fun val E d f=>?_)
       have k2:=d.t 31 (val 2) rfl
       have h2:val 2=_:=f 2 (oz rfl)
       have k3:=d.t 32 (val 3) rfl
       have h3:val 3=_:=f 3 (oz rfl)
       have U:=f7
       have b9:=f8
       exact ⟨_,fun X=>by simp [aP,go_sem,k2,h2,k3,h3,U,b9,fC],rfl⟩
      ·cases D
       refine bq rfl rfl (fun val E d f=>?_)
       have k4:=d.t 33 (val 4) rfl
       have h4:val 4=_:=f 4 (oz rfl)
       exact ⟨_,fun X=>by simp [aP,go_sem,k4,h4,fC],rfl⟩
      ·cases D
       refine fI rfl rfl (fun _ _ _=>trivial) (fun val E X d a f=>?_)
       have k5:=d.t 34 (val 5) rfl
       have h5:val 5=_:=f 5 (oz rfl)
       have U:X.cell? ⟨b,J+k * 3+2,none⟩=_:=(bG (a.block b c5.out)).trans c2
       exact ⟨_,by simp [aP,go_sem,k5,h5,U],rfl⟩
      ·cases D
       refine bq rfl rfl (fun val E d f=>?_)
       have e0:=d.t 0 (.slice (some ⟨b,J,none⟩) TN TC) rfl
       exact ⟨_,fun X=>by simp [aP,go_sem,e0],rfl⟩
      ·cases D
       refine bq rfl rfl (fun val E d f=>?_)
       have e8:=d.t 8 (ab ae (k:Int)) rfl
       exact ⟨_,fun X=>by simp [aP,go_sem,e8],rfl⟩
      ·cases D
       refine bq rfl rfl (fun val E d f=>?_)
       have k6:=d.t 36 (val 7) rfl
       have h7:val 7=_:=f 7 (oz rfl)
       have k7:=d.t 37 (val 8) rfl
       have h8:val 8=_:=f 8 (oz rfl)
       have U:=f7
       have b9:=f8
       exact ⟨_,fun X=>by simp [aP,go_sem,k6,h7,k7,h8,U,b9,fC],rfl⟩
      ·cases D
       refine bq rfl rfl (fun val E d f=>?_)
       have k8:=d.t 38 (val 9) rfl
       have h9:val 9=_:=f 9 (oz rfl)
       exact ⟨_,fun X=>by simp [aP,go_sem,k8,h9,fC],rfl⟩
      ·cases D
       refine fI rfl rfl (fun _ _ _=>trivial) (fun val E X d a f=>?_)
       have k9:=d.t 39 (val 10) rfl
       have d0:val 10=_:=f 10 (oz rfl)
       have U:X.cell? ⟨b,J+k * 3+1,none⟩=_:=(bG (a.block b c5.out)).trans c1
       exact ⟨_,by simp [aP,go_sem,k9,d0,U],rfl⟩
      ·cases D
       refine bq rfl rfl (fun val E d f=>?_)
       have e0:=d.t 0 (.slice (some ⟨b,J,none⟩) TN TC) rfl
       exact ⟨_,fun X=>by simp [aP,go_sem,e0],rfl⟩
      ·cases D
       refine bq rfl rfl (fun val E d f=>?_)
       have e8:=d.t 8 (ab ae (k:Int)) rfl
       exact ⟨_,fun X=>by simp [aP,go_sem,e8],rfl⟩
      ·cases D
       refine bq rfl rfl (fun val E d f=>?_)
       have l0:=d.t 41 (val 12) rfl
       have d1:val 12=_:=f 12 (oz rfl)
       have l1:=d.t 42 (val 13) rfl
       have d2:val 13=_:=f 13 (oz rfl)
       have U:=f7
       have b9:=f8
       exact ⟨_,fun X=>by simp [aP,go_sem,l0,d1,l1,d2,U,b9,fC],rfl⟩
      ·cases D
       refine bq rfl rfl (fun val E d f=>?_)
       have l2:=d.t 43 (val 14) rfl
       have d3:val 14=_:=f 14 (oz rfl)
       exact ⟨_,fun X=>by simp [aP,go_sem,l2,d3,fC],rfl⟩
      ·cases D
       refine fI rfl rfl (fun _ _ _=>trivial) (fun val E X d a f=>?_)
       have l3:=d.t 44 (val 15) rfl
       have d4:val 15=_:=f 15 (oz rfl)
       have U:X.cell? ⟨b,J+k * 3,none⟩=_:=(bG (a.block b c5.out)).trans c0
       exact ⟨_,by simp [aP,go_sem,l3,d4,U],rfl⟩
    case fin7=>
     have h0:val 0=_:=r 0 (by decide)
     have h1:val 1=_:=r 1 (by decide)
     have h2:val 2=_:=r 2 (by decide)
     have h3:val 3=_:=r 3 (by decide)
     have h4:val 4=_:=r 4 (by decide)
     have h5:val 5=_:=r 5 (by decide)
     have h6:val 6=_:=r 6 (by decide)
     have h7:val 7=_:=r 7 (by decide)
     have h8:val 8=_:=r 8 (by decide)
     have h9:val 9=_:=r 9 (by decide)
     have d0:val 10=_:=r 10 (by decide)
     have j6:val 11=_:=r 11 (by decide)
     have d1:val 12=_:=r 12 (by decide)
     have d2:val 13=_:=r 13 (by decide)
     have d3:val 14=_:=r 14 (by decide)
     have d4:val 15=_:=r 15 (by decide)
     have f3:val 16=_:=r 16 (by decide)
     simp only [jD,List.set_cons_zero,List.set_cons_succ,ar,ap,h0,h1,h2,h3,h4,h5,h6,h7,h8,h9,d0,j6,d1,d2,d3,d4,f3]
     have a7:=zq (a5.out.trans (HF.bel.mono a5.out.size))
     have b2:=zq (a9.out.call HF.bel)
     have b0:=zq (b6.out.below HF.bel)
     clear r h0 h1 h2 h3 h4 h5 h6 h7 h8 h9 d0 j6 d1 d2 d3 d4 f3 HF a5 a9 b6 c0 c1 c2 c5
     change wpAny _ _ _ _ 6 _ _ _
     refine vf (k:=5) (i:=17) (by kernel_rfl) rfl rfl (RunsTo.wp (R:=fun v w'=>∃F H G,v=aK #[.slice F H G,ab ae (nJ T ⟨nm,ty,pr⟩).2]/\ax Y.heap.size Y w'/\Tab w' F H G (nJ T ⟨nm,ty,pr⟩).1) (.inr (.inr ⟨_,_,_,by simp [aP,go_sem] <;> rfl,(i5.out Y b0.out).mono fun e w' ⟨F,H,G,P,a,ht⟩=>⟨_,P,F,H,G,rfl,a,ht⟩⟩)) ?_)
     rintro _ w4 ⟨F,H,G,rfl,a,a0⟩
     have V:=bz a7 a
     have M:=zq (b2.out.call a)
     have a3:=zq (b0.out.below a)
     have b3:=zq a0
     clear a a0 a7 b2 b0 i5
     generalize (nJ T ⟨nm,ty,pr⟩).2=O at *
     generalize (nJ T ⟨nm,ty,pr⟩).1=ln at *
     simp only [gd,bH]
     refine jS (k:=4) (i:=18) (v:=(aK #[.slice F H G,ab ae O])) (by kernel_rfl) rfl rfl (by simp [aP,go_sem] <;> rfl) ?_
     simp only [gd,bH]
     refine ve (k:=3) (i:=19) (j:=20) (by kernel_rfl) rfl rfl rfl rfl ?s19 ?s20
     case s19=>
      refine wI (v:=(.slice F H G)) (by simp [aP,go_sem] <;> rfl) ?_
      simp only [gd,bH]
      refine ve (k:=2) (i:=20) (j:=21) (by kernel_rfl) rfl rfl rfl rfl ?s2a ?s2b
      case s2a=>
       refine wI (v:=(ab ae O)) (by simp [aP,go_sem] <;> rfl) ?_
       simp only [gd,bH]
       refine jS (k:=1) (i:=21) (v:=(.slice F H G)) (by kernel_rfl) rfl rfl (by simp [aP,go_sem] <;> rfl) ?_
       simp only [gd,bH]
       refine jS (k:=0) (i:=22) (v:=(ab ae O)) (by kernel_rfl) rfl rfl (by simp [aP,go_sem] <;> rfl) ?_
       simp only [gd,bH]
       refine ri (by kernel_rfl) (f4 _ _ ?_)
       by_cases P:O=0
       ·have b5:=zq (a2.out P)
        subst P
        clear a2 a3 Z
        have l:=M.out.all
        simp only [aU,bd,ap,ar,and_true] at l
        go_wp2_with fail
        obtain ⟨K,a1,a4⟩:=wV V M b3 f0 F H G
        go_roundw
        case rel=>exact ⟨k+1,_,F,H,G,by omega,by go_num,K,a1,a4,b5⟩
        case measure=>simp [intOf];omega
       ·have hb:(O==0)=false:=by simpa using P
        clear b3 a2
        go_wp2_with fail
        go_roundw
        case rel=>exact ⟨k+1,T,B,y,n,by omega,by go_num,V,M,a3,Z⟩
        case measure=>simp [intOf];omega
      case s2b=>
       refine wI (v:=(.slice F H G)) (by simp [aP,go_sem] <;> rfl) ?_
       simp only [gd,bH]
       refine jS (k:=1) (i:=20) (v:=(ab ae O)) (by kernel_rfl) rfl rfl (by simp [aP,go_sem] <;> rfl) ?_
       simp only [gd,bH]
       refine jS (k:=0) (i:=22) (v:=(ab ae O)) (by kernel_rfl) rfl rfl (by simp [aP,go_sem] <;> rfl) ?_
       simp only [gd,bH]
       refine ri (by kernel_rfl) (f4 _ _ ?_)
       by_cases P:O=0
       ·have b5:=zq (a2.out P)
        subst P
        clear a2 a3 Z
        have l:=M.out.all
        simp only [aU,bd,ap,ar,and_true] at l
        go_wp2_with fail
        obtain ⟨K,a1,a4⟩:=wV V M b3 f0 F H G
        go_roundw
        case rel=>exact ⟨k+1,_,F,H,G,by omega,by go_num,K,a1,a4,b5⟩
        case measure=>simp [intOf];omega
       ·have hb:(O==0)=false:=by simpa using P
        clear b3 a2
        go_wp2_with fail
        go_roundw
        case rel=>exact ⟨k+1,T,B,y,n,by omega,by go_num,V,M,a3,Z⟩
        case measure=>simp [intOf];omega
     case s20=>
      refine wI (v:=(ab ae O)) (by simp [aP,go_sem] <;> rfl) ?_
      simp only [gd,bH]
      refine jS (k:=2) (i:=19) (v:=(.slice F H G)) (by kernel_rfl) rfl rfl (by simp [aP,go_sem] <;> rfl) ?_
      simp only [gd,bH]
      refine jS (k:=1) (i:=21) (v:=(.slice F H G)) (by kernel_rfl) rfl rfl (by simp [aP,go_sem] <;> rfl) ?_
      simp only [gd,bH]
      refine jS (k:=0) (i:=22) (v:=(ab ae O)) (by kernel_rfl) rfl rfl (by simp [aP,go_sem] <;> rfl) ?_
      simp only [gd,bH]
      refine ri (by kernel_rfl) (f4 _ _ ?_)
      by_cases P:O=0
      ·have b5:=zq (a2.out P)
       subst P
       clear a2 a3 Z
       have l:=M.out.all
       simp only [aU,bd,ap,ar,and_true] at l
       go_wp2_with fail
       obtain ⟨K,a1,a4⟩:=wV V M b3 f0 F H G
       go_roundw
       case rel=>exact ⟨k+1,_,F,H,G,by omega,by go_num,K,a1,a4,b5⟩
       case measure=>simp [intOf];omega
      ·have hb:(O==0)=false:=by simpa using P
       clear b3 a2
       go_wp2_with fail
       go_roundw
       case rel=>exact ⟨k+1,T,B,y,n,by omega,by go_num,V,M,a3,Z⟩
       case measure=>simp [intOf];omega
  ·clear i1 g4
   have l:=a9.out.all
   simp only [aU,bd,ap,ar,and_true] at l
   obtain ⟨x4,b8⟩:=lz (((wr.setCell ⟨w.heap.size+1,0,none⟩ (am true)).setCell ⟨w.heap.size+1,2,none⟩ (am false)))
   have a7:Hid (ax w.heap.size w x4):=zq (by rw [b8.out];exact (a5.out.setCell (p:=⟨w.heap.size+1,_,none⟩) (cQ _) _).setCell (p:=⟨w.heap.size+1,_,none⟩) (cQ _) _)
   have b2:Hid (Bks x4 [(gs,[.slice B y n,ab ae 1,ab ae 1,am false,am false,.slice none 0 0]),(w.heap.size+1,[am true,am o.ig,am false]),(w.heap.size,[ab ae t.kind,ab ae t.num,aa t.name,.slice A t.args.length I])]):=zq (by rw [b8.out];exact (a9.out.set 1 0 rfl (am true)).set 1 2 rfl (am false))
   have b0:Hid (Tab x4 B y n T):=zq (by
    rw [b8.out]
    exact rm (L:=[(w.heap.size+1,[am o.q,am o.ig,am o.nu])]) b6.out ⟨fun x hx=>by rw [aG.1 hx];exact a9.out.at 1 _ _ rfl,by simp⟩ (fun x hx=>by rw [aG.1 hx];exact EN) (by simp) (fun j hj=>by rw [aS _ _ _ _ (hj _ (aG.2 rfl)),aS _ _ _ _ (hj _ (aG.2 rfl))]))
   go_upto_region 12 with fail
   rw [<-b8.out]
   clear l b8 a5 a9 b6
   have l:=b2.out.all
   simp only [aU,bd,ap,ar,and_true] at l
   go_wp2_with fail
   refine (b4.out t A I T B y n _ c6.out Z.out a7.out b0.out (c8.out _ a7.out)).mono ?_;rintro e x5 ⟨rfl,a⟩
   have V:=bz a7 a
   have M:=zq (b2.out.call a)
   have a3:=zq (b0.out.below a)
   clear a a7 b2 b0 l
   have l:=M.out.all
   simp only [aU,bd,ap,ar,and_true] at l
   go_wp2_with fail
   refine (j1.out _ V.out).mono ?_;rintro e x6 ⟨rfl,a⟩
   have K:=bz V a
   have a1:=zq (M.out.call a)
   have a4:=zq (a3.out.below a)
   clear a V M a3 l j1
   cases hvt:cd t
   ·rw [wM (T:=T) (o:=⟨true,o.ig,false⟩) (t:=t) (by rw [hvt];rfl)]
    clear b4 b7 a8 c8
    go_wp2_with fail
    refine (b1.out _ K.out).mono ?_;rintro e wz ⟨rfl,a⟩
    have S:=bz K a
    clear a
    go_wp2_with fail
    go_ret
    exact ⟨rfl,S.out⟩
   have c3:=qc (T:=T) (o:=⟨true,o.ig,false⟩) (t:=t) (by rw [hvt,Z.out];rfl)
   obtain ⟨js,HJ⟩:=lz (jU (qZ ⟨true,o.ig,false⟩ T t 1200 false))
   rw [<-HJ.out] at c3
   by_cases d6:js.size<=16384
   rotate_left
   ·rw [c3,xV d6]
    clear b4 b7 a8 c8 c3 HJ
    go_wp2_with fail
    refine (b1.out _ K.out).mono ?_;rintro e wz ⟨rfl,a⟩
    have S:=bz K a
    clear a
    go_wp2_with fail
    go_ret
    exact ⟨rfl,S.out⟩
   have a6:=c3.trans (qw d6)
   clear c3 HJ
   have l7:=IM d6
   obtain ⟨s,HS⟩:=lz (js)
   rw [<-HS.out] at a6 l7 d6
   rw [a6]
   dsimp only
   by_cases f3:(16384:Int)<(s.size:Int)+2
   ·clear b4 b7 a8 c8 a6 HS
    go_wp2_with fail
    refine (b1.out _ K.out).mono ?_;rintro e wz ⟨rfl,a⟩
    have S:=bz K a
    clear a
    go_wp2_with fail
    go_ret
    exact ⟨rfl,S.out⟩
   obtain ⟨_,_,j9,k0,d5,d7,f6⟩:=pX (o:=⟨true,o.ig,false⟩) (T:=T) rfl rfl c6.out (by rw [a6]) (by rw [a6];show s.size<=_;omega) 1 1 false false rfl
   rw [a6] at d5
   have e4:=zq (KL c6.out d7 hvt)
   have e3:Hid (pW t=true->gy t=t):=zq fun h=>by rw [wm hvt] at h;exact (oX.1 h).symm
   obtain ⟨z,HZ⟩:=lz (gy t)
   rw [<-HZ.out] at d5 d7 f6 e4 e3
   obtain ⟨nl,i2⟩:=lz (j9.length)
   obtain ⟨sl,i4⟩:=lz (k0.length)
   have g5:Hid (∀X,Tab X B y n T->aJ ah 9 #[aa (s++(⟨#[32,46]⟩:ByteArray)),ab ae 0,aN #[.slice B y n,ab ae 1,ab ae 1,am false,am false,.slice none 0 0]] X fun e w'=>∃C c NA nc SA sc,e=aw (aK #[aN #[ab ae z.kind,ab ae z.num,aa z.name,.slice C z.args.length c,.slice NA nl nc,.slice SA sl sc,ab ae ((s.size:Int)+2)],ab ae 0,ab ae 0])/\ax X.heap.size X w'/\kk X w' C z.args):=zq fun X Q=>by
    have h:=Db (s++(⟨#[32,46]⟩:ByteArray)) 0 B y n 1 1 false false none 0 0 T [] X Q rfl (bp _) (Pairs.nil _ _) (by rw [Ad];unfold maxLen;omega)
    rw [Ae,d5] at h
    rw [i2.out,i4.out]
    exact h.mono fun _ _ ⟨C,c,NA,nc,SA,sc,h0,h1,h2,_⟩=>⟨C,c,NA,nc,SA,sc,h0,h1,h2⟩
   have a8:=zq (fun X h=>a8.out X hvt h)
   have j2:=zq (fun C c X Q hz=>b7.out z C c X Q hz d7 hvt (by rw [f6];exact HZ.out))
   have f9:Hid (pW t=true->oZ ⟨true,o.ig,false⟩ T z=(s,0)):=zq fun h=>by rw [e3.out h,a6]
   have j3:=zq (fun C c X Q a0 hC=>b4.out z C c T B y n X e4.out Z.out Q a0 hC)
   clear b4 b7 d5 d7 f6 hvt HZ i2 i4 j9 k0 e4 e3 c6 a6 HS
   have l:=a1.out.all
   simp only [aU,bd,ap,ar,and_true] at l
   go_wp2_with fail
   refine (g5.out _ a4.out).mono ?_;rintro e x7 ⟨C,c,NA,nc,SA,sc,rfl,a,hn⟩
   have g3:=bz K a
   have g9:=zq (a1.out.call a)
   have i8:=zq (a4.out.below a)
   have j4:=zq (TmsK.at' (hn.keep (fun _ _=>rfl) fun _ hb=>hb.2))
   clear a K a1 a4 g5 l hn
   obtain ⟨x8,c9⟩:=lz (x7.alloc (.cells #[ab ae z.kind,ab ae z.num,aa z.name,.slice C z.args.length c,.slice NA nl nc,.slice SA sl sc,ab ae ((s.size:Int)+2)] 45))
   obtain ⟨g2,e5⟩:=lz (x7.heap.size)
   have a:ax x7.heap.size x7 x8:=by rw [c9.out];exact (aj _ _).alloc (ag _) _
   have f1:Hid (Bk x8 g2 [ab ae z.kind,ab ae z.num,aa z.name,.slice C z.args.length c,.slice NA nl nc,.slice SA sl sc,ab ae ((s.size:Int)+2)]):=zq (by rw [c9.out,e5.out];exact Bk.new x7 [ab ae z.kind,ab ae z.num,aa z.name,.slice C z.args.length c,.slice NA nl nc,.slice SA sl sc,ab ae ((s.size:Int)+2)] 45)
   have d9:=bz g3 a
   have e6:=zq (g9.out.call a)
   have i9:=zq (i8.out.below a)
   have f2:=zq ((j4.out.keep a).mono a.size)
   go_upto_region 20 with fail
   rw [<-c9.out,<-e5.out]
   clear a g3 g9 i8 j4 c9 e5
   have hq:=f1.out.all0
   simp only [bd,ap,ar,and_true] at hq
   have l:=e6.out.all
   simp only [aU,bd,ap,ar,and_true] at l
   go_wp2_with fail
   refine (j2.out _ _ _ d9.out f2.out).mono ?_;rintro e x9 ⟨rfl,a⟩
   have e1:=bz d9 a
   have e9:=zq (e6.out.call a)
   have i3:=zq (f1.out.call a)
   have j0:=zq (i9.out.below a)
   have j5:=zq ((f2.out.keep a).mono a.size)
   clear a d9 e6 i9 f2 f1 hq l j2
   have hq:=i3.out.all0
   simp only [bd,ap,ar,and_true] at hq
   have l:=e9.out.all
   simp only [aU,bd,ap,ar,and_true] at l
   go_wp2_with fail
   refine (j3.out _ _ _ e1.out j0.out j5.out).mono ?_;rintro e xa ⟨rfl,a⟩
   have e2:=bz e1 a
   have i0:=zq (e9.out.call a)
   clear a e1 e9 i3 j0 j5 hq l j3
   have l:=i0.out.all
   simp only [aU,bd,ap,ar,and_true] at l
   go_wp2_with fail
   refine (a8.out _ e2.out).mono ?_;rintro e xb ⟨rfl,a⟩
   have c4:=bz e2 a
   clear a e2 i0 l a8
   cases hcb:pW t
   ·clear f9
    generalize oZ ⟨true,o.ig,false⟩ T z=r2 at *
    go_wp2_with fail
    refine (b1.out _ c4.out).mono ?_;rintro e wz ⟨rfl,a⟩
    have S:=bz c4 a
    clear a
    go_wp2_with fail
    go_ret
    exact ⟨rfl,S.out⟩
   ·have l9:(s.toList==s.toList)=true:=by simp
    rw [f9.out hcb]
    go_wp2_with fail
    refine (b1.out _ c4.out).mono ?_;rintro e wz ⟨rfl,a⟩
    have S:=bz c4 a
    clear a
    go_wp2_with fail
    go_ret
    exact ⟨rfl,S.out⟩
end Go.Proofs.YtlikcjbjibhjgaaGreatDoor
