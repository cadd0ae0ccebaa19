/- Parts of the proof. -/
import Derived.Test.YtlikcjbjibhjgaaGreatDoorR01
import Derived.Test.YtlikcjbjibhjgaaGreatDoorR16
import Derived.Test.YtlikcjbjibhjgaaGreatDoorR21
import Derived.Test.YtlikcjbjibhjgaaGreatDoorR22
set_option maxHeartbeats 12800000
set_option maxRecDepth 100000
set_option linter.unusedSimpArgs false
open Go renaming Calls -> aJ, Value -> az, World -> ai, bodyPost_ret -> ay, heap_setCell_other -> aS, maxLen -> be, wpList -> cH, wpList_append_own_at -> gU
open Go.Ending renaming returned -> aw
open Go.IntKind renaming i64 -> ae
open Go.Proofs.Tryz renaming prog -> ah, underlying2 -> da, underlying3 -> dY, underlying9 -> cE
open Go.RowKit renaming Below -> ax
open Go.RowKit.Below renaming refl -> aj
open Go.Value renaming agg -> aN, bool -> am, int -> ab, pointer -> au, slice -> ev, string -> aa, tuple -> aK
open Go.World renaming cell?_alloc_new -> aq
open List renaming append_nil -> aA, cons_append -> ak, drop_eq_getElem_cons -> eJ, map_append -> bC, map_cons -> bE, map_nil -> eG, mem_cons -> bg, mem_nil_iff -> bQ, mem_singleton -> aG, nil_append -> an, set_cons_succ -> cB, set_cons_zero -> cy, take_succ_eq_append_getElem -> aO
open Nat renaming le_refl -> ag, le_succ -> cQ, le_trans -> aI, lt_of_lt_of_le -> aC, lt_succ_self -> bY, reduceAdd -> ar, zero_add -> ap, zero_le -> bp
namespace Hb
open Go Go.RowKit
theorem Jb {s:ByteArray} (h:s.size<=100):cd (wF s)=true:=(iA _).2 ⟨by rw [Tm.nodes_eq];simp [wF,Tm.args],by
 rw [Tm.allOk_eq]
 unfold dH wF Tm.kind Tm.num Tm.name Tm.args
 simp [h]⟩
theorem Cq {t:Tm} (h:cd t=true):kV t=t:=by unfold kV;rw [if_pos h]
end Hb
namespace Go.Proofs.YtlikcjbjibhjgaaGreatDoor
open Go.RowKit Hb
theorem LV (s:ByteArray) (h:s.size<=100) (w:ai) :
  aJ ah 163 #[aa s] w fun e w'=>∃b cap',e=aw (er (wF s) b cap')/\ax w.heap.size w w':=by
 have i:=R4.start (w0:=w) (w:=w) (aj _ _) (ab ae 0) (ab ae 0) (aa ⟨#[]⟩) (.slice none 0 0) 25
 have l:=zq i
 have f:=zq (fun (W:ai)=>wU (wF s) none 0 W TmsK.nil)
 rw [Cq (Jb h)] at f
 have j:Hid (∀(b:Option Addr) (g:Nat),er (wF s) b g=aN #[ab ae 2,ab ae 0,aa s,.slice b 0 g]):=zq (fun _ _=>rfl)
 clear i
 go_enter Tryz.func163,Tryz.ntmps163
 go_wp2_with fail
 refine (f.out _).mono ?_;rintro e D ⟨c,d,rfl,m,n⟩
 rw [j.out]
 have a:=l.out.call m
 obtain ⟨z,o⟩:=a.r0
 obtain ⟨A,p⟩:=a.r1
 obtain ⟨B,q⟩:=a.r2
 obtain ⟨C,r⟩:=a.r3
 have t:=a.fr 0
 have u:=a.fr 1
 have x:=a.fr 2
 have y:=a.fr 3
 have k:=zq (a.put (ab ae 2) (ab ae 0) (aa s) (.slice c 0 d))
 clear n
 go_wp2_with fail
 exact ay (v:=aN #[ab ae 2,ab ae 0,aa s,.slice c 0 d]) (by simp [results,Tryz.results163,go_sem,o,p,q,r]) rfl ⟨c,d,rfl,k.out⟩
theorem Gq (n:Int) (w:ai):aJ ah 125 #[ab ae n] w fun e w'=>e=aw (aN #[ab ae 1,ab ae n,aa ⟨#[]⟩,.slice none 0 0])/\ax w.heap.size w w':=by
 have a:=(aj w.heap.size w).alloc (ag _) (.cells #[ab ae 1,ab ae n,aa ⟨#[]⟩,.slice none 0 0] 25)
 go_enter Tryz.func125,Tryz.ntmps125
 go_wp2_with fail
 exact ay (v:=aN #[ab ae 1,ab ae n,aa ⟨#[]⟩,.slice none 0 0]) (by simp [results,Tryz.results125,go_sem]) rfl ⟨rfl,a⟩
end Go.Proofs.YtlikcjbjibhjgaaGreatDoor
namespace Hb
open Go Go.RowKit
theorem In (l:List Tm) (t:Tm) (j:Nat) (h:j<l.length):sB (l.drop j) t=nC ⟨#[46]⟩ [l[j],sB (l.drop (j+1)) t]:=by rw [eJ h];rfl
theorem KA (l:List Tm) (t:Tm):sB (l.drop l.length) t=t:=by rw [List.drop_length];rfl
structure LsM (K:Nat->Prop) (w0 w:ai) (t:Tm) (A:Option Addr) (cap:Nat):Prop where
 bel:ax w0.heap.size w0 w
 bs:Bks w [(w0.heap.size+1,[ab ae 0,ab ae 0,aa ⟨#[]⟩,.slice none 0 0]),(w0.heap.size,[ab ae t.kind,ab ae t.num,aa t.name,.slice A t.args.length cap])]
 tms:TmsK (fun b=>K b\/(w0.heap.size+1<b/\b<w.heap.size)) w A t.args
end Hb
namespace Go.Proofs.YtlikcjbjibhjgaaGreatDoor
open Go.RowKit Hb
theorem kX (s:ByteArray) (h:s.size<=100) (w:ai):aJ ah 163 #[aa s] w fun e w'=>∃A' c',e=aw (aN #[ab ae 2,ab ae 0,aa s,.slice A' 0 c'])/\ax w.heap.size w w':=LV s h w
theorem nZ {B:Nat} {w0 w:ai} (h:ax B w0 w) (g:Nat) (a:B<=g) (x y z u:az):ax B w0 ((((w.setCell ⟨g,0,none⟩ x).setCell ⟨g,1,none⟩ y).setCell ⟨g,2,none⟩ z).setCell ⟨g,3,none⟩ u) :=
 (((h.setCell (p:=⟨_,_,none⟩) a _).setCell (p:=⟨_,_,none⟩) a _).setCell (p:=⟨_,_,none⟩) a _).setCell (p:=⟨_,_,none⟩) a _
theorem LsM.start {K:Nat->Prop} (w:ai) (t:Tm) (A:Option Addr) (a:Nat) (h:TmsK K w A t.args) (d:∀b,K b->b<w.heap.size):LsM K w ((w.alloc (.cells #[ab ae t.kind,ab ae t.num,aa t.name,.slice A t.args.length a] 25)).alloc (.cells #[ab ae 0,ab ae 0,aa ⟨#[]⟩,.slice none 0 0] 25)) t A a where
 bel:=((aj _ _).alloc (ag _) _).alloc (by simp) _
 bs:=((Bks.nil w).new [ab ae t.kind,ab ae t.num,aa t.name,.slice A t.args.length a] 25 rfl).new [ab ae 0,ab ae 0,aa ⟨#[]⟩,.slice none 0 0] 25 (by simp)
 tms:=h.keep (fun b c=>((((aj w.heap.size w).alloc (ag _) _).alloc (by simp) _).block b (d b c))) fun b c=>.inl c
theorem LsM.step {K:Nat->Prop} {w0 w wS:ai} {t x:Tm} {A B:Option Addr} {c cb:Nat} (h:LsM K w0 w t A c) (o:TmsK K w0 B x.args) (d:∀b,K b->b<w0.heap.size) (e:ax (w.heap.size+1) (w.alloc (.cells (eB [(x,B,cb),(t,A,c)]).toArray 25)) wS) :
  LsM K w0 ((((wS.setCell ⟨w0.heap.size,0,none⟩ (ab ae 3)).setCell ⟨w0.heap.size,1,none⟩ (ab ae 0)).setCell ⟨w0.heap.size,2,none⟩ (aa ⟨#[46]⟩)).setCell ⟨w0.heap.size,3,none⟩ (.slice (some ⟨w.heap.size,0,none⟩) 2 2)) (nC ⟨#[46]⟩ [x,t]) (some ⟨w.heap.size,0,none⟩) 2:=by
 have k:=h.bs.lt 0 rfl
 have i:ax w.heap.size w (w.alloc (.cells (eB [(x,B,cb),(t,A,c)]).toArray 25)):=(aj _ _).alloc (ag _) _
 have f:ax w.heap.size w wS:=i.trans (e.mono (cQ _))
 have m:=yy (K:=fun b=>K b\/(w0.heap.size+1<b/\b<w.heap.size+1)) (K':=fun b=>K b\/(w0.heap.size+1<b/\b<w.heap.size)) (w:=w) 25 [(x,B,cb),(t,A,c)] (by unfold be;simp) (.inr ⟨k,bY _⟩) (fun b a=>by
   rcases a with a | a
   ·exact ⟨.inl a,by have:=d b a;have:=h.bel.size;omega⟩
   ·exact ⟨.inr ⟨a.1,by omega⟩,a.2⟩) (fun r g=>by
   simp only [bg,bQ,or_false] at g
   rcases g with rfl|rfl
   ·exact o.keep (fun b a=>h.bel.block b (d b a)) fun b a=>.inl a
   ·exact h.tms)
 have n:(w.alloc (.cells (eB [(x,B,cb),(t,A,c)]).toArray 25)).heap.size=w.heap.size+1:=by simp
 refine ⟨nZ (h.bel.trans (f.mono h.bel.size)) _ (ag _) _ _ _ _,(h.bs.call f).set4 1 rfl _ _ _ _,TmsK.keep m (fun b a=>?_) fun b a=>?_⟩
 ·have j:b<w.heap.size+1:=by
   rcases a with a | a
   ·have:=d b a;have:=h.bel.size;omega
   ·exact a.2
  have l:b≠w0.heap.size:=by
   rcases a with a | a
   ·have:=d b a;omega
   ·omega
  rw [bR _ _ _ _ _ _ _ l]
  exact e.block b j
 ·rcases a with a | a
  ·exact .inl a
  ·exact .inr ⟨a.1,by have:=e.size;rw [n] at this;simp;omega⟩
theorem xx (K:Nat->Prop) (l:List Tm) (A:Option Addr) (n a1:Nat) (t:Tm) (B:Option Addr) (cb:Nat) (w:ai) (J:n=l.length) (E:∀b,K b->b<w.heap.size) (I:TmsK K w A l) (X:TmsK K w B t.args) :
  aJ ah 164 #[.slice A n a1,er t B cb] w fun e w'=>∃f c',e=aw (er (sB l t) f c')/\ax w.heap.size w w'/\TmsK (fun b=>K b\/(w.heap.size<=b/\b<w'.heap.size)) w' f (sB l t).args:=by
 have hm:n<=be:=by rw [J];exact I.len
 unfold be at hm
 have M:=zq J
 have L:=zq I
 have y:=zq E
 have a0:=zq (fun (s:ByteArray) A n c W=>kb s A n c W)
 have HS:=zq (LsM.start w t B cb X E)
 clear I X J E
 obtain ⟨q,z⟩:=lz (sB l t)
 rw [<-z.out]
 unfold er
 go_enter Tryz.func164,Tryz.ntmps164
 go_wp2_with fail
 go_loopw [5] (fun i wr=>∃k:Nat,k<=n/\(k=0->i=ab ae (-1))/\(∀j:Nat,k=j+1->i=ab ae j)/\∃f r,Hid (LsM K w wr (sB (l.drop k) t) f r)) (fun i _=>(intOf i+1).toNat)
 case atStart=>exact ⟨n,ag _,fun h=>by subst h;rfl,fun j h=>by congr 1;omega,B,cb,by rw [M.out,KA l t];exact HS⟩
 case round=>
  obtain ⟨k,hk,G,H,f,r,d⟩:=hrel
  rcases Nat.eq_zero_or_pos k with rfl | a4
  ·have F:=G rfl
   subst F
   rw [List.drop_zero,<-z.out] at d
   have g:=d.out.bs.all
   simp only [aU,bd,ap,ar,and_true] at g
   clear G H z
   go_wp2_with fail
   refine ay (v:=aN #[ab ae q.kind,ab ae q.num,aa q.name,.slice f q.args.length r]) (by simp [results,Tryz.results164,go_sem,g]) rfl ⟨f,r,rfl,nZ d.out.bel _ (cQ _) _ _ _ _,?_⟩
   refine d.out.tms.keep (fun b a=>bR _ _ _ _ _ _ _ ?_) fun b a=>?_
   ·rcases a with a | a
    ·have:=y.out b a;omega
    ·omega
   ·rcases a with a | a
    ·exact .inl a
    ·exact .inr ⟨by omega,by simpa using a.2⟩
  ·obtain ⟨j,rfl⟩:∃j,k=j+1:=⟨k-1,by omega⟩
   have F:=H j rfl
   subst F
   have U:j<l.length:=by have:=M.out;omega
   obtain ⟨b,a5,B',a2,rfl,a,P,Q,R,S,V⟩:=L.out.get j U
   have a3:=y.out b a
   have m:∀o,wr.cell? ⟨b,o,none⟩=w.cell? ⟨b,o,none⟩:=fun o=>d.out.bel.cell (p:=⟨b,o,none⟩) a3
   have d0:=(m _).trans P
   have d1:=(m _).trans Q
   have d2:=(m _).trans R
   have d3:=(m _).trans S
   have C:=zq (fun wS h=>LsM.step (cb:=a2) (wS:=wS) d.out V y.out h)
   have Z:Hid (nC ⟨#[46]⟩ [l[j],sB (l.drop (j+1)) t]=sB (l.drop j) t):=zq (In l t j U).symm
   have g:=d.out.bs.all
   simp only [aU,bd,ap,ar,and_true] at g
   have Y:=zq d.out.bs
   have k0:(0:Int)<=(j:Int):=by omega
   have k1:(j:Int)<(n:Int):=by omega
   clear G H V m P Q R S d L
   generalize sB (l.drop (j+1)) t=u at *
   generalize l[j]=x at *
   unfold eB iW at C
   simp only [List.flatMap_cons,List.flatMap_nil,ak,an] at C
   go_wp2_with fail
   go_region_with (go_at_call 92;refine (a0.out _ _ _ _ _).mono ?_;rintro e wS ⟨rfl,D⟩;(have T:=((aj wr.heap.size wr).alloc (ag _) _).drew.trans (D.mono (by simp [World.drew])));have O:=(Y.out.call T).all;simp only [aU,bd,ap,ar,and_true] at O)
   all_goals
    have N:=zq (C.out _ ((aj _ _).drew.trans (D.mono (by simp [World.drew]))))
    rw [Z.out] at N
    clear D T O g
    go_wp2_with fail
    go_roundw
    case rel=>exact ⟨j,by omega,fun h=>by subst h;rfl,fun i h=>by congr 1;omega,_,_,N⟩
    case measure=>simp [intOf] <;> omega
theorem nB {w W:ai} {m:Array Oper} {rest:List Oper} {o:Oper} {a:Act} {Q:Exit->Act->ai->Prop} (q:o.guard=none) (s x:Operand)
  (A:o.op=.call { callee:=.builtin .append,args:=#[s,x],argTypes:=#[23,23] }) (b:Nat) (v:az) (c:List TR) (D:a.eval s=v) (n:OwnR b 25 W v c) (z:b<=W.heap.size)
  (r:TR) (C:r.1.args=[]) (E:w=W.alloc (.cells (iW r).toArray 25)) (F:a.eval x=.slice (some ⟨W.heap.size,0,none⟩) 1 1) (J:c.length<=100000)
  (h:∀e w',Hid (OwnR b 25 w' e (c++[r]))->Hid (ax b W w')->cH ah m Q rest (a.put o.dst e) w'):cH ah m Q (o::rest) a w:=by
 obtain ⟨i,t,G,H,I⟩:=info_parts vR
 subst E
 have g:ax W.heap.size W (W.alloc (.cells (iW r).toArray 25)):=(aj _ _).alloc (ag _) _
 have f:=n.below g
 refine gU _ q s x 23 A b 25 i _ 4 56 Tryz.underlying23 t G H I rfl (by decide) v c.length (eB c) D f.own ⟨W.heap.size,0,none⟩ 1 1 (iW r) F rfl ?_ (by
   intro y d
   simp only [iW,bg,bQ,or_false] at d
   rcases d with rfl|rfl|rfl|rfl <;> rfl) (by unfold be;omega) (by omega) (by simp;omega) ?_
 ·intro j y d
  rw [fC]
  have:=aq W (iW r).toArray 25 j
  rw [show 0+j=j by omega,this]
  simpa using d
 ·intro e w' B l _ p
  refine h e w' (zq (f.snoc r (by rw [C];exact TmsK.nil) B l p)) (zq ((g.mono z).grown l (by simp;omega) fun k u=>(f.own.lt k u).1))
theorem zY (s:ByteArray) (k:Nat) (h:k<s.size):s.extract k (k+1)=⟨#[s[k]]⟩:=by
 apply ByteArray.ext
 apply Array.ext'
 rw [ByteArray.data_extract]
 simp
 have:k<s.data.toList.length:=by simpa using h
 rw [eJ this]
 rfl
theorem xw {c:PC} {n:Nat} {v:VS} {nv:az} {w:ai} (p:PsAt c n v nv w) (s:ByteArray) (hs:s.size<=20000) :
  aJ ah 127 #[au (some ⟨c.P,0,none⟩),aa s] w fun e w'=>∃A' c',e=aw (er (Lt c.E.q s.data.toList) A' c')/\ax w.heap.size w w'/\TmsK (fun b=>w.heap.size<=b/\b<w'.heap.size) w' A' (Lt c.E.q s.data.toList).args:=by
 have C:ax w.heap.size w (w.alloc (.cells #[ab ae 0,ab ae 0,aa ⟨#[]⟩,.slice none 0 0] 25)):=(aj _ _).alloc (ag _) _
 have Z:=(Bks.nil w).new [ab ae 0,ab ae 0,aa ⟨#[]⟩,.slice none 0 0] 25 rfl
 have HP:=zq p
 obtain ⟨R,F⟩:=lz (Lt c.E.q s.data.toList)
 have b9:=zq hs
 have Y:Hid (¬c.E.q=3->R=sB (s.data.toList.map (MM c.E.q)) rD):=zq fun h=>by rw [F.out];unfold Lt;rw [if_neg h]
 have O:Hid (∀b,MM c.E.q b=if c.E.q=1 then Fc b.toNat else AB ⟨#[b]⟩):=zq fun _=>rfl
 rw [<-F.out]
 have V:Hid (∀W,ax w.heap.size w W->W.cell? ⟨c.P,3,none⟩=some (ab ae c.E.q)):=zq fun W h=>(HP.out.bk.call h).c 3 _ rfl
 clear p
 by_cases B:c.E.q=3
 ·have X:Hid (R=.mk 2 0 s []):=zq (by rw [F.out];unfold Lt;rw [if_pos B];rfl)
  rw [X.out]
  have b3:(c.E.q==3)=true:=by simpa using B
  have I:=V.out _ C
  have HB:=zq C
  clear C Z B O Y F hs
  generalize c.E.q=q at *
  go_enter Tryz.func127,Tryz.ntmps127
  go_wp2_with fail
  refine ay (v:=aN #[ab ae 2,ab ae 0,aa s,.slice none 0 0]) (by simp [results,Tryz.results127,go_sem]) rfl ⟨none,0,rfl,?_,TmsK.nil⟩
  exact (aj _ _).alloc (ag _) _
 ·have b3:(c.E.q==3)=false:=by simpa using B
  have X:=zq (Y.out B)
  have I:=V.out _ C
  have HB:=zq C
  have HK:=zq Z
  clear C Z B Y F
  generalize c.E.q=q at *
  go_enter Tryz.func127,Tryz.ntmps127
  go_wp2_with fail
  clear I
  go_loopw [5,16] (fun v5 i wr=>∃k:Nat,i=ab ae k/\k<=s.size/\∃f:List TR,f.map (·.1)=(s.data.toList.take k).map (MM q)/\Hid (OwnR (w.heap.size+1) 25 wr v5 f)/\Hid (ax w.heap.size w wr)/\Hid (Bks wr [(w.heap.size,[ab ae 0,ab ae 0,aa ⟨#[]⟩,.slice none 0 0])])) (fun _ i _=>s.size-(intOf i).toNat)
  case atStart=>exact ⟨0,rfl,bp _,[],by simp,zq (OwnR.nul _ _ _),HB,HK⟩
  case round=>
   obtain ⟨k,rfl,hk,f,H,o,m,y⟩:=hrel
   have L:f.length=k:=by have:=congrArg List.length H;simpa [Nat.min_eq_left hk] using this
   by_cases a1:k<s.size
   ·have a:decide ((k:Int)<(s.size:Int))=true:=by simp;omega
    have I:=V.out _ m.out
    have c0:wrap64 ((k:Int)+1)=(k:Int)+1:=nF (by omega)
    obtain ⟨A5,c5,a2,_⟩:=o.out.tms
    subst a2
    have a9:=zY s k a1
    have b6:=zq a9
    have a4:=zq H
    have S:=zq L
    clear H a9 L
    by_cases j:q=1
    ·have b1:(q==1)=true:=by simpa using j
     have M:=zq j
     clear j
     have b8:wrap64 (s[k].toNat:Int)=(s[k].toNat:Int):=IntWalk.wrap64_in _ (by have:=s[k].toNat_lt;omega)
     go_wp2_with fail
     rw [b8]
     refine (Gq _ _).mono ?_;rintro e l ⟨rfl,d⟩
     have T:=zq (o.out.below d)
     have u:=bz m d
     have g:=zq (y.out.call d)
     have z:Hid (w.heap.size+1<=l.heap.size):=zq (g.out.lt 0 rfl)
     clear d o m y I
     go_wp2_with (at_builtin;go_must (refine nB rfl _ _ rfl (w.heap.size+1) _ f rfl T.out z.out (Fc s[k].toNat,none,0) rfl rfl rfl (by have:=S.out;omega) ?_;intro v5 w5 U G;have N:=zq (u.out.trans (G.out.mono (cQ _)));have Q:=zq (g.out.keep (fun (x:Nat×List az) hx=>G.out.block x.1 (by rw [aG] at hx;subst hx;exact bY _)))))
     have D:(f++[((Fc s[k].toNat,none,0):TR)]).map (fun r:TR=>r.1)=(s.data.toList.take (k+1)).map (MM q):=by
      have a0:k<s.data.toList.length:=by simpa using a1
      rw [bC,a4.out,aO a0,bC,bE,eG,bE,eG,O.out]
      congr 1
      rw [if_pos M.out]
      rfl
     go_roundw
     case rel=>exact ⟨k+1,rfl,by omega,_,D,U,N,Q⟩
     case measure=>simp [intOf] <;> omega
    ·have b1:(q==1)=false:=by simpa using j
     have M:=zq j
     clear j
     go_wp2_with fail
     rw [b6.out]
     refine (kX _ (by show 1<=100;omega) _).mono ?_;rintro e l ⟨t,A,rfl,d⟩
     have T:=zq (o.out.below d)
     have u:=bz m d
     have g:=zq (y.out.call d)
     have z:Hid (w.heap.size+1<=l.heap.size):=zq (g.out.lt 0 rfl)
     clear d o m y I
     go_wp2_with (at_builtin;go_must (refine nB rfl _ _ rfl (w.heap.size+1) _ f rfl T.out z.out (AB ⟨#[s[k]]⟩,t,A) rfl rfl rfl (by have:=S.out;omega) ?_;intro v5 w5 U G;have N:=zq (u.out.trans (G.out.mono (cQ _)));have Q:=zq (g.out.keep (fun (x:Nat×List az) hx=>G.out.block x.1 (by rw [aG] at hx;subst hx;exact bY _)))))
     have D:(f++[((AB ⟨#[s[k]]⟩,t,A):TR)]).map (fun r:TR=>r.1)=(s.data.toList.take (k+1)).map (MM q):=by
      have a0:k<s.data.toList.length:=by simpa using a1
      rw [bC,a4.out,aO a0,bC,bE,eG,bE,eG,O.out]
      congr 1
      rw [if_neg M.out]
      rfl
     go_roundw
     case rel=>exact ⟨k+1,rfl,by omega,_,D,U,N,Q⟩
     case measure=>simp [intOf] <;> omega
   ·have a:decide ((k:Int)<(s.size:Int))=false:=by simp;omega
    have b7:k=s.size:=by omega
    subst b7
    have D:f.map (·.1)=s.data.toList.map (MM q):=by rw [H,List.take_of_length_le (by simp)]
    obtain ⟨A5,c5,a2,a7⟩:=o.out.tms
    subst a2
    have a3:Hid (R=sB (f.map (·.1)) rD):=zq (by rw [X.out,D])
    have a5:=zq a7
    have S:=zq L
    clear H D a7 L
    go_wp2_with fail
    refine (kX ⟨#[91,93]⟩ (by decide) _).mono ?_;rintro e l ⟨t,A,rfl,d⟩
    have a6:=a5.out.keep (fun b a=>d.block b a.2) (fun b a=>(⟨a.1,aC a.2 d.size⟩:w.heap.size+1<=b/\b<l.heap.size))
    have J:=zq (xx (fun b=>w.heap.size+1<=b/\b<l.heap.size) (f.map (·.1)) A5 f.length c5 rD t A l (by simp) (fun b a=>a.2) a6 TmsK.nil)
    rw [<-a3.out] at J
    have u:=bz m d
    have g:=zq (y.out.call d)
    clear d a6 m y o a5
    have e4:er rD t A=aN #[ab ae 2,ab ae 0,aa ⟨#[91,93]⟩,.slice t 0 A]:=rfl
    rw [e4] at J
    go_wp2_with fail
    refine J.out.mono ?_;rintro e w6 ⟨A6,c6,rfl,K,a8⟩
    have b0:=bz u K
    have b2:=zq (g.out.call K)
    have b5:=zq a8
    have z:Hid (w.heap.size+1<=l.heap.size):=zq (g.out.lt 0 rfl)
    have b4:=zq K.size
    clear K a8 J u g a3
    have cc:=b2.out.all
    simp only [aU,bd,ap,ar,and_true] at cc
    unfold er
    go_wp2_with fail
    refine ay (v:=aN #[ab ae R.kind,ab ae R.num,aa R.name,.slice A6 R.args.length c6]) (by simp [results,Tryz.results127,go_sem,cc]) rfl ⟨A6,c6,rfl,nZ b0.out _ (ag _) _ _ _ _,?_⟩
    refine b5.out.keep (fun b a=>bR _ _ _ _ _ _ _ ?_) fun b a=>⟨?_,?_⟩
    ·rcases a with a | a
     ·omega
     ·have:=z.out;omega
    ·rcases a with a | a
     ·omega
     ·have:=z.out;omega
    ·rcases a with a | a
     ·have j:=a.2;simp;exact aC j b4.out
     ·simpa using a.2
structure Pz (c:PC) (x:List az) (NV NO:Nat) (fV:List UInt8->Option Nat) (fO:Nat->Nat) (nv:az) (m:List (List UInt8×Nat)) (nv0:az) (w0:ai) (L:List (Nat×List az)) (w:ai):Prop where
 ok:c.Ok
 low:c.lo<=w0.heap.size
 bk:Bk w c.P x
 tk:AF w c.g c.E.T
 ops:OpsAt w c.OA c.E.P
 vm:NumMap ah 9 2 w c.V NV fV
 om:CntMap ah 2 3 w c.O NO fO
 nm:w.ownsRow c.lo 86 2 nv m.length (iF m)
 s:Stp c nv0 w0 nv w
 bs:Bks w L
 off:∀x∈L,¬c.mine nv x.1/\w0.heap.size<=x.1
theorem Pz.of {c:PC} {n:Nat} {v:VS} {e d:az} {w0 w:ai} {L:List (Nat×List az)} (h:Wk c n v e w0 d w L) (f:PsAt c n v e w0) (g:∀x∈L,w0.heap.size<=x.1):Pz c (c.cells n v d) v.o.length v.o.length v.look (fun x=>v.o.count x) d v.m e w0 L w :=
 ⟨f.ok,f.low,h.p.bk,h.p.tk,h.p.ops,h.p.vm,h.p.om,h.p.nm,h.s,⟨fun x a=>h.b.bk x (List.mem_append_left _ a),by have:=h.b.ord;rw [bC,List.pairwise_append] at this;exact this.1⟩,fun x a=>⟨h.off x a,g x a⟩⟩
theorem Pz.keep {c:PC} {x:List az} {d b:Nat} {f:List UInt8->Option Nat} {e:Nat->Nat} {g:az} {m:List (List UInt8×Nat)} {i:az} {w0 w w':ai} {L:List (Nat×List az)} (h:Pz c x d b f e g m i w0 L w) (a:ax w.heap.size w w'):Pz c x d b f e g m i w0 L w' :=
 ⟨h.ok,h.low,h.bk.call a,kF h.tk (a.block _ (by have:=h.ok.gl;have:=h.ok.p1;have:=h.low;have:=h.s.size;omega)),h.ops.below a,h.vm.keep (a.block _ h.vm.lt),h.om.keep (a.block _ h.om.lt),iS h.nm fun k j=>a.block k (h.nm.lt k j).2,h.s.trans (.of a),h.bs.call a,h.off⟩
theorem Pz.turn {c:PC} {x:List az} {t r:Nat} {v:List UInt8->Option Nat} {u:Nat->Nat} {l:az} {m:List (List UInt8×Nat)} {p:az} {w0 w w':ai} {L:List (Nat×List az)} (h:Pz c x t r v u l m p w0 L w) {b:Nat} (j:c.mine l b) (a:w.grownBy w' (some b)) :
  AF w' c.g c.E.T/\OpsAt w' c.OA c.E.P/\Stp c p w0 l w'/\Bks w' L/\∀k,k<w.heap.size->k≠b->w'.heap[k]? = w.heap[k]?:=by
 have d:∀k,k<w.heap.size->k≠b->w'.heap[k]? = w.heap[k]?:=fun k f i=>a.block k f fun e=>i (by injection e)
 have C:=h.s.size
 have f:=h.ok.p1
 have i:=h.ok.v1
 have z:=h.ok.o1
 have B:=h.low
 have A:c.B1<=b:=by
  rcases j with e | e | e | e
  ·omega
  ·omega
  ·omega
  ·have:=(h.nm.lt b e).1;omega
 refine ⟨kF h.tk (d _ (by have:=h.ok.gl;omega) (by have:=h.ok.gl;omega)),mI h.ops a.size (fun n k q e=>d k (by have:=h.ok.ob n k q e;omega) (by have:=h.ok.ob n k q e;omega)),h.s.trans ⟨a.os,a.tape,a.output,a.size,fun k f i=>d k f (fun e=>i (e ▸ j)),fun _ h=>.inl h⟩,h.bs.keep fun y o=>d _ (h.bs.bk y o).lt (fun e=>(h.off y o).1 (e ▸ j)),d⟩
theorem Pz.cell {c:PC} {x:List az} {d b:Nat} {g:List UInt8->Option Nat} {f:Nat->Nat} {l:az} {m:List (List UInt8×Nat)} {n:az} {w0 w:ai} {L:List (Nat×List az)} (h:Pz c x d b g f l m n w0 L w) (i:Nat) (u:az):Pz c (x.set i u) d b g f l m n w0 L (w.setCell ⟨c.P,i,none⟩ u):=by
 have s:w.grownBy (w.setCell ⟨c.P,i,none⟩ u) (some c.P):=⟨rfl,rfl,rfl,by simp,fun k _ a=>aS _ _ _ _ (fun e=>a (by rw [e]))⟩
 obtain ⟨o,p,q,r,a⟩:=h.turn (.inl rfl) s
 exact ⟨h.ok,h.low,h.bk.set i u,o,p,h.vm.keep (a _ h.vm.lt (fun e=>h.ok.pv e.symm)),h.om.keep (a _ h.om.lt (fun e=>h.ok.po e.symm)),iS h.nm (fun k j=>a k (h.nm.lt k j).2 (by have:=(h.nm.lt k j).1;have:=h.ok.p1;omega)),q,r,h.off⟩
theorem Pz.vput {c:PC} {x:List az} {n d b:Nat} {o f:List UInt8->Option Nat} {g:Nat->Nat} {j:az} {m:List (List UInt8×Nat)} {l:az} {w0 w w':ai} {L:List (Nat×List az)} (h:Pz c x n d o g j m l w0 L w) (u:NumMap ah 9 2 w' c.V b f) (t:w.grownBy w' (some c.V)):Pz c x b d f g j m l w0 L w':=by
 obtain ⟨p,q,r,s,a⟩:=h.turn (.inr (.inl rfl)) t
 exact ⟨h.ok,h.low,h.bk.keeps (a _ h.bk.lt h.ok.pv),p,q,u,h.om.keep (a _ h.om.lt (fun e=>h.ok.vo e.symm)),iS h.nm (fun k i=>a k (h.nm.lt k i).2 (by have:=(h.nm.lt k i).1;have:=h.ok.v1;omega)),r,s,h.off⟩
theorem Pz.oput {c:PC} {x:List az} {d l b:Nat} {f:List UInt8->Option Nat} {n e:Nat->Nat} {i:az} {m:List (List UInt8×Nat)} {j:az} {w0 w w':ai} {L:List (Nat×List az)} (h:Pz c x d l f n i m j w0 L w) (t:CntMap ah 2 3 w' c.O b e) (s:w.grownBy w' (some c.O)):Pz c x d b f e i m j w0 L w':=by
 obtain ⟨o,p,q,r,a⟩:=h.turn (.inr (.inr (.inl rfl))) s
 exact ⟨h.ok,h.low,h.bk.keeps (a _ h.bk.lt h.ok.po),o,p,h.vm.keep (a _ h.vm.lt h.ok.vo),t,iS h.nm (fun k g=>a k (h.nm.lt k g).2 (by have:=(h.nm.lt k g).1;have:=h.ok.o1;omega)),q,r,h.off⟩
theorem Pz.grow {c:PC} {x:List az} {u t:Nat} {z:List UInt8->Option Nat} {v:Nat->Nat} {i l:az} {m:List (List UInt8×Nat)} {C:az} {w0 w w':ai} {L:List (Nat×List az)} (h:Pz c x u t z v i m C w0 L w) (p:List UInt8×Nat)
  (E:w'.ownsRow c.lo 86 2 l (m.length+1) (iF m++[aa ⟨p.1.toArray⟩,ab ae (p.2:Int)])) (g:w.grownBy w' i.ownBlock) (A:l.ownBlock=i.ownBlock\/l.ownBlock=some w.heap.size):Pz c x u t z v l (m++[p]) C w0 L w':=by
 have f:∀k,k<w.heap.size->i.ownBlock≠some k->w'.heap[k]? = w.heap[k]?:=fun k q n=>g.block k q fun e=>n e.symm
 have j:∀k,k<c.lo->i.ownBlock≠some k:=fun k q n=>by have:=(h.nm.lt k n).1;omega
 have I:=h.s.size
 have q:=h.ok.p1
 have n:=h.ok.v1
 have G:=h.ok.o1
 have H:=h.low
 have F:Stp c i w l w':=⟨g.os,g.tape,g.output,g.size,fun b d r=>f b d (fun e=>r (.inr (.inr (.inr e)))),fun b d=>by
  rcases A with e | e
  ·rw [e] at d;exact .inl d
  ·rw [e] at d;injection d with d;exact .inr (by omega)⟩
 refine ⟨h.ok,h.low,h.bk.keeps (f _ h.bk.lt (j _ (by omega))),kF h.tk (f _ (by have:=h.ok.gl;omega) (j _ (by have:=h.ok.gl;omega))),mI h.ops g.size (fun B k D e=>f k (by have:=h.ok.ob B k D e;omega) (j _ (by have:=h.ok.ob B k D e;omega))),h.vm.keep (f _ h.vm.lt (j _ (by omega))),h.om.keep (f _ h.om.lt (j _ (by omega))),?_,h.s.trans F,h.bs.keep fun y a=>f _ (h.bs.bk y a).lt (fun e=>(h.off y a).1 (.inr (.inr (.inr e)))),fun y a=>⟨fun r=>?_,(h.off y a).2⟩⟩
 ·unfold iF at *
  rw [List.flatMap_append,List.length_append]
  exact E
 ·rcases r with e | e | e | e
  ·exact (h.off y a).1 (.inl e)
  ·exact (h.off y a).1 (.inr (.inl e))
  ·exact (h.off y a).1 (.inr (.inr (.inl e)))
  ·rcases A with o | o
   ·rw [o] at e;exact (h.off y a).1 (.inr (.inr (.inr e)))
   ·rw [o] at e;injection e with e
    have:=(h.bs.bk y a).lt;omega
theorem Pz.back {c:PC} {n:Nat} {v:VS} {a:az} {A:az} {w0 w:ai} {L:List (Nat×List az)} {b d:Nat} {f:List UInt8->Option Nat} {e:Nat->Nat} {m:List (List UInt8×Nat)} {x:List az} (h:Pz c x b d f e a m A w0 L w) (z:x=c.cells n v a) (g:b<=v.o.length) (i:d<=v.o.length) (l:f=v.look) (k:e=fun x=>v.o.count x) (p:m=v.m) (q:n<c.E.T.length) (y:v.o.length<=n) (u:v.Ok):PsAt c n v a w:=by
 subst z l k p
 have t:CntMap ah 2 3 w c.O v.o.length (fun x=>v.o.count x):=by
  obtain ⟨D,r,j⟩:=h.om;exact ⟨D,r.mono i,j⟩
 exact ⟨h.ok,aI h.low h.s.size,h.bk,h.tk,h.ops,h.vm.mono g,t,h.nm,q,y,u⟩
theorem Pz.put4 {c:PC} {x:List az} {v u:Nat} {B:List UInt8->Option Nat} {A:Nat->Nat} {t:az} {m:List (List UInt8×Nat)} {D:az} {w0 w:ai} {L:List (Nat×List az)} (h:Pz c x v u B A t m D w0 L w) (j:Nat) {g:Nat} {u0 u1 u2 u3:az} (r:L[j]? = some (g,[u0,u1,u2,u3])) (d f i l:az) :
  Pz c x v u B A t m D w0 (L.set j (g,[d,f,i,l])) ((((w.setCell ⟨g,0,none⟩ d).setCell ⟨g,1,none⟩ f).setCell ⟨g,2,none⟩ i).setCell ⟨g,3,none⟩ l):=by
 have p:=h.bs.set4 j r d f i l
 have q:=h.off _ (List.mem_of_getElem? r)
 have a:∀k,k≠g->((((w.setCell ⟨g,0,none⟩ d).setCell ⟨g,1,none⟩ f).setCell ⟨g,2,none⟩ i).setCell ⟨g,3,none⟩ l).heap[k]? = w.heap[k]?:=fun k a=>by
  rw [aS _ _ _ _ a,aS _ _ _ _ a,aS _ _ _ _ a,aS _ _ _ _ a]
 have o:∀k,c.mine t k->k≠g:=fun k n e=>q.1 (e ▸ n)
 have C:∀k,k<c.B1->k≠g:=fun k n e=>by have:=q.2;have:=h.low;have:=h.ok.p1;simp only at *;omega
 refine ⟨h.ok,h.low,h.bk.keeps (a _ (o _ (.inl rfl))),kF h.tk (a _ (C _ h.ok.gl)),mI h.ops (by simp) (fun F b I e=>a b (C b (h.ok.ob F b I e))),h.vm.keep (a _ (o _ (.inr (.inl rfl)))),h.om.keep (a _ (o _ (.inr (.inr (.inl rfl))))),iS h.nm (fun b p=>a b (o b (.inr (.inr (.inr p))))),⟨h.s.os,h.s.tape,h.s.output,by simpa using h.s.size,fun b E n=>(a b (by have:=q.2;simp only at *;omega)).trans (h.s.block b E n),h.s.own⟩,p,fun y G=>?_⟩
 obtain ⟨z,H,e⟩:=CO [d,f,i,l] r y G
 rw [<-e];exact h.off z H
theorem zj {B:Nat} {w0 w:ai} (h:ax B w0 w) (g:Nat) (a:B<=g) (x y z u:az):ax B w0 ((((w.setCell ⟨g,0,none⟩ x).setCell ⟨g,1,none⟩ y).setCell ⟨g,2,none⟩ z).setCell ⟨g,3,none⟩ u) :=
 (((h.setCell (p:=⟨_,_,none⟩) a _).setCell (p:=⟨_,_,none⟩) a _).setCell (p:=⟨_,_,none⟩) a _).setCell (p:=⟨_,_,none⟩) a _
theorem Iv:(Tryz.prog.info? 86).map (fun i=>(i.zero,i.size,i.bytes))=some (some (aN #[aa ⟨#[]⟩,ab ae 0]),2,24):=by kernel_rfl
theorem sv {w W:ai} {r:Array Oper} {rest:List Oper} {o:Oper} {a:Act} {Q:Exit->Act->ai->Prop} (v:o.guard=none) (s x:Operand)
  (B:o.op=.call { callee:=.builtin .append,args:=#[s,x],argTypes:=#[43,43] }) {c:PC} {xs:List az} {g f:Nat} {l:List UInt8->Option Nat} {k:Nat->Nat} {e:az} {m:List (List UInt8×Nat)} {q:az} {w0:ai} {L:List (Nat×List az)} (h:Pz c xs g f l k e m q w0 L W) (D:a.eval s=e)
  (p:List UInt8×Nat) (E:w=W.alloc (.cells #[aa ⟨p.1.toArray⟩,ab ae (p.2:Int)] 86)) (F:a.eval x=.slice (some ⟨W.heap.size,0,none⟩) 1 1) (M:m.length<=100000)
  (K:∀d w',Hid (Pz c xs g f l k d (m++[p]) q w0 L w')->cH ah r Q rest (a.put o.dst d) w'):cH ah r Q (o::rest) a w:=by
 obtain ⟨i,A,G,H,I⟩:=info_parts Iv
 subst E
 have t:ax W.heap.size W (W.alloc (.cells #[aa ⟨p.1.toArray⟩,ab ae (p.2:Int)] 86)):=(aj _ _).alloc (ag _) _
 have n:=h.keep t
 have J:c.lo<=W.heap.size:=aI h.low h.s.size
 refine gU _ v s x 43 B c.lo 86 i _ 2 24 Tryz.underlying43 A G H I rfl (by decide) e m.length (iF m) D n.nm ⟨W.heap.size,0,none⟩ 1 1 [aa ⟨p.1.toArray⟩,ab ae (p.2:Int)] F rfl ?_ (by
   intro y b
   simp only [bg,bQ,or_false] at b
   rcases b with rfl|rfl <;> rfl) (by unfold be;omega) (by omega) (by simp;omega) ?_
 ·intro j y b
  rw [fC]
  have:=aq W #[aa ⟨p.1.toArray⟩,ab ae (p.2:Int)] 86 j
  rw [show 0+j=j by omega,this]
  simpa using b
 ·intro d w' C z _ u
  exact K d w' (zq (n.grow p C z u))
theorem VS.step_look (v:VS) (x:List UInt8):(v.step x).look=if v.old x=true\/x=[95] then v.look else sw v.look x (some v.c):=by
 funext y
 by_cases h:v.old x=true\/x=[95]
 ·rw [if_pos h]
  unfold VS.look VS.step
  simp only [h,if_true]
 ·rw [if_neg h]
  have b:¬x=[95]:=fun e=>h (.inr e)
  have a:v.look x=none:=by
   cases hk:v.look x with
   | none=>rfl
   | some k=>exact absurd (.inl (by unfold VS.old;simp [b,hk])) h
  have:=VS.look_snoc v x v.c (v.step x).c (v.step x).o a y
  unfold sw
  rw [<-this]
  unfold VS.look VS.step
  simp only [h,if_false]
theorem uA (v:VS) (x:List UInt8):sw (fun y=>v.o.count y) (v.num x) (v.o.count (v.num x)+1)=fun y=>(v.step x).o.count y:=by
 funext y
 unfold sw VS.step
 simp only [List.count_append,List.count_singleton]
 by_cases e:y=v.num x
 ·subst e;simp
 ·rw [if_neg e];simp;exact fun h=>e h.symm
theorem Gp (n:Int) (a:0<=n/\n<=1099511627776) (w:ai):aJ ah 162 #[ab ae n] w fun e w'=>e=aw (aN #[ab ae 0,ab ae n,aa ⟨#[]⟩,.slice none 0 0])/\ax w.heap.size w w':=by
 have f:∀W:ai,aJ ah 183 #[ab ae n] W fun e w'=>e=aw (am true)/\ax W.heap.size W w':=fun W=>by
  have j:decide (0<=n)=true:=decide_eq_true a.1
  have k:decide (n<=1099511627776)=true:=decide_eq_true a.2
  clear a
  go_enter Tryz.func183,Tryz.ntmps183
  go_wp2_with fail
  go_ret
  exact ⟨rfl,aj _ _⟩
 have h:=zq f
 have b:=zq ((aj w.heap.size w).alloc (ag _) (.cells #[ab ae 0,ab ae 0,aa ⟨#[]⟩,.slice none 0 0] 25))
 have g:=zq ((Bks.nil w).new [ab ae 0,ab ae 0,aa ⟨#[]⟩,.slice none 0 0] 25 rfl)
 clear a f
 go_enter Tryz.func162,Tryz.ntmps162
 go_wp2_with fail
 refine (h.out _).mono ?_;rintro e l ⟨rfl,d⟩
 have c:=(g.out.call d).all
 simp only [aU,bd,ap,ar,and_true] at c
 have i:=b.out.trans (d.mono b.out.size)
 go_wp2_with fail
 refine ay (v:=aN #[ab ae 0,ab ae n,aa ⟨#[]⟩,.slice none 0 0]) (by simp [results,Tryz.results162,go_sem,c]) rfl ⟨rfl,?_⟩
 exact zj i _ (ag _) _ _ _ _
theorem LH (w:ai):(zeroValue 2).run ah w=.ok (ab ae 0) w:=by kernel_rfl
theorem Lj (w:ai):(zeroValue 3).run ah w=.ok (ab ae 0) w:=by kernel_rfl
theorem ze {c:PC} {n:Nat} {v:VS} {nv:az} {w:ai} (p:PsAt c n v nv w) (t:ByteArray) (ht:t.size<=20000) (hn:v.o.length<n):aJ ah 126 #[au (some ⟨c.P,0,none⟩),aa t] w fun e w'=>e=aw (aN #[ab ae 0,ab ae (v.num t.data.toList:Nat),aa ⟨#[]⟩,.slice none 0 0])/\∃i,PsAt c n (v.step t.data.toList) i w'/\Stp c nv w i w':=by
 have a7:v.o.length<=20000:=by have:=p.n1;have:=p.ok.len;omega
 have b3:v.c<=20000:=by have:=p.vc.co;omega
 have b4:v.m.length<=20000:=by have:=p.vc.mo;omega
 have c0:=VS.num_le p.vc t.data.toList
 have hK:v.num t.data.toList<=20000:=by omega
 have h0:=Pz.of ((Wk.start p).new [ab ae 0,ab ae 0,aa ⟨#[]⟩,.slice none 0 0] 25 rfl) p (by intro x a;rw [aG] at a;subst a;exact ag _)
 obtain ⟨lc,lb,M,b2⟩:=h0.vm.look cE Tryz.underlying76 da t (by unfold be;omega) (LH _)
 obtain ⟨W0,Z⟩:=lz (w.alloc (.cells #[ab ae 0,ab ae 0,aa ⟨#[]⟩,.slice none 0 0] 25))
 have g:=zq h0
 rw [<-Z.out] at g M
 have R:=zq a7
 have J:=zq b3
 have b7:=zq b4
 have HK:=zq hK
 have a2:=zq (⟨p.n1,hn,p.vc⟩:n<c.E.T.length/\v.o.length<n/\v.Ok)
 have Q:=zq b2
 have I:Hid ((t.toList==[95])=decide (t.data.toList=[95])):=zq (by rw [eZ];by_cases h:t.data.toList=[95] <;> simp [h])
 have b1:∀(W:ai) (f:Nat->Nat) (N:Nat),CntMap ah 2 3 W c.O N f->N<=20000->f (v.num t.data.toList)<=20000->(Instr.lookup 77 (.map (some c.O)) (ab ae (v.num t.data.toList:Nat)) false).run ah W=.ok (ab ae (f (v.num t.data.toList):Nat)) W/\∃W',(Instr.mapUpdate 77 (.map (some c.O)) (ab ae (v.num t.data.toList:Nat)) (ab ae ((f (v.num t.data.toList):Nat)+1:Int))).run ah W=.ok () W'/\CntMap ah 2 3 W' c.O (N+1) (sw f (v.num t.data.toList) (f (v.num t.data.toList)+1))/\W.grownBy W' (some c.O):=fun W f N h h1 h2=>
  ⟨h.look da Tryz.underlying77 dY _ (by omega) (Lj _),h.put da Tryz.underlying77 dY _ (f (v.num t.data.toList)+1) (by omega) (by unfold be;omega) (by omega)⟩
 have a3:=zq b1
 have b0:v.o.count (v.num t.data.toList)<=20000:=aI List.count_le_length a7
 have G:=zq b0
 clear a7 b3 b4 c0 hK h0 b2 b1 b0 p hn
 have a4:Hid (∀(N1 N2:Nat) (fV:List UInt8->Option Nat) (fO:Nat->Nat) (i:az) (m:List (List UInt8×Nat)) (x:List az) (W:ai) (L:List (Nat×List az)),Pz c x N1 N2 fV fO i m nv w L W->x=c.cells n (v.step t.data.toList) i->N1<=v.o.length+1->N2<=v.o.length+1->fV=(v.step t.data.toList).look->fO=(fun y=>(v.step t.data.toList).o.count y)->m=(v.step t.data.toList).m->∃i,PsAt c n (v.step t.data.toList) i W/\Stp c nv w i W):=zq fun N1 N2 fV fO i m x W L h a h1 h2 hV hO hm=>
  ⟨i,h.back a (by rw [VS.step_len];exact h1) (by rw [VS.step_len];exact h2) hV hO hm a2.out.1 (by rw [VS.step_len];exact a2.out.2.1) (VS.step_ok a2.out.2.2 _),h.s⟩
 by_cases b:v.old t.data.toList=true
 ·obtain ⟨a,k,K⟩:=VS.look_old b
  have a1:(t.toList==[95])=false:=by rw [I.out];simpa using a
  obtain ⟨rfl,rfl⟩:=Q.out a
  have j:v.num t.data.toList=k:=by unfold VS.num;rw [if_neg a,K];rfl
  have e1:(v.look t.data.toList).isSome=true:=by rw [K];rfl
  have e2:(v.look t.data.toList).getD 0=v.num t.data.toList:=by rw [K,j];rfl
  rw [e1,e2] at M
  have d:Hid ((v.step t.data.toList).c=v.c/\(v.step t.data.toList).m=v.m/\(v.step t.data.toList).look=v.look):=zq ⟨by unfold VS.step;simp [b],by unfold VS.step;simp [b],by rw [VS.step_look,if_pos (.inl b)]⟩
  have C:=Z.out
  clear Q I b a K j e1 e2
  have r:=g.out.bk.all0
  simp only [PC.cells,cy,cB,bd,ap,ar,and_true] at r
  obtain ⟨D,c3,F,B,A⟩:=a3.out W0 _ _ g.out.om (by have:=R.out;omega) G.out
  have b5:=zq (g.out.oput B A)
  have a0:wrap64 ((v.o.count (v.num t.data.toList):Int)+1)=(v.o.count (v.num t.data.toList):Int)+1:=nF (by have:=G.out;omega)
  clear B A
  go_enter Tryz.func126,Tryz.ntmps126
  go_upto_region 1 with fail
  rw [<-C]
  clear C
  go_wp2_with fail
  clear r M D F
  refine (Gp (v.num t.data.toList:Nat) (by have:=HK.out;omega) _).mono ?_;rintro e wl ⟨rfl,z⟩
  have q:=zq (b5.out.keep z)
  clear z
  have u:=q.out.bs.all
  simp only [aU,bd,ap,ar,and_true] at u
  go_wp2_with fail
  refine ay (v:=aN #[ab ae 0,ab ae (v.num t.data.toList:Nat),aa ⟨#[]⟩,.slice none 0 0]) (by simp [results,Tryz.results126,go_sem,u]) rfl ⟨rfl,?_⟩
  have X:=q.out.put4 0 rfl (ab ae 0) (ab ae (v.num t.data.toList:Nat)) (aa ⟨#[]⟩) (.slice none 0 0)
  exact a4.out _ _ _ _ _ _ _ _ _ X (by unfold PC.cells;rw [d.out.1]) (cQ _) (ag _) d.out.2.2.symm (uA v _) d.out.2.1.symm
 by_cases a:t.data.toList=[95]
 ·have a1:(t.toList==[95])=true:=by rw [I.out];simpa using a
  have c1:(t.toList != [95])=false:=by simp [bne,a1]
  have j:v.num t.data.toList=v.c:=by unfold VS.num;rw [if_pos a]
  have d:Hid ((v.step t.data.toList).c=v.c+1/\(v.step t.data.toList).m=v.m/\(v.step t.data.toList).look=v.look):=zq ⟨by unfold VS.step;simp [b],by unfold VS.step;simp [a],by rw [VS.step_look,if_pos (.inr a)]⟩
  have C:=Z.out
  have b8:wrap64 ((v.c:Int)+1)=(v.c:Int)+1:=nF (by have:=J.out;omega)
  obtain ⟨w2,a6,V,U⟩:=(g.out.cell 6 (ab ae ((v.c:Int)+1))).vm.put cE Tryz.underlying76 da t v.c (by unfold be;omega) (by have:=R.out;unfold be;omega) (by have:=J.out;omega)
  have l:=zq ((g.out.cell 6 (ab ae ((v.c:Int)+1))).vput V U)
  clear V U
  rw [if_pos a] at l
  have r:=g.out.bk.all0
  simp only [PC.cells,cy,cB,bd,ap,ar,and_true] at r
  have S:=l.out.bk.all0
  simp only [PC.cells,cy,cB,bd,ap,ar,and_true] at S
  obtain ⟨D,c4,F,B,A⟩:=a3.out w2 _ _ l.out.om (by have:=R.out;omega) G.out
  have H:=zq (l.out.oput B A)
  have a0:wrap64 ((v.o.count (v.num t.data.toList):Int)+1)=(v.o.count (v.num t.data.toList):Int)+1:=nF (by have:=G.out;omega)
  clear B A
  rw [j] at D F a0
  have Y:=zq j
  clear Q I b a j
  cases lb
  all_goals
   go_enter Tryz.func126,Tryz.ntmps126
   go_upto_region 1 with fail
   rw [<-C]
   clear C
   go_wp2_with fail
   clear r S M D F a6
   refine (Gp (v.c:Nat) (by have:=J.out;omega) _).mono ?_;rintro e wl ⟨rfl,z⟩
   have q:=zq (H.out.keep z)
   clear z
   have u:=q.out.bs.all
   simp only [aU,bd,ap,ar,and_true] at u
   go_wp2_with fail
   refine ay (v:=aN #[ab ae 0,ab ae (v.c:Nat),aa ⟨#[]⟩,.slice none 0 0]) (by simp [results,Tryz.results126,go_sem,u]) rfl ⟨by rw [Y.out],?_⟩
   have X:=q.out.put4 0 rfl (ab ae 0) (ab ae (v.c:Nat)) (aa ⟨#[]⟩) (.slice none 0 0)
   exact a4.out _ _ _ _ _ _ _ _ _ X (by unfold PC.cells;rw [d.out.1];rfl) (ag _) (ag _) d.out.2.2.symm (uA v _) d.out.2.1.symm
 have a1:(t.toList==[95])=false:=by rw [I.out];simpa using a
 have c1:(t.toList != [95])=true:=by simp [bne,a1]
 have a5:v.look t.data.toList=none:=by
  cases K:v.look t.data.toList with
  | none=>rfl
  | some k=>exact absurd (by unfold VS.old;simp [a,K]) b
 obtain ⟨rfl,rfl⟩:=Q.out a
 rw [a5] at M
 have j:v.num t.data.toList=v.c:=by unfold VS.num;rw [if_neg a,a5];rfl
 have d:Hid ((v.step t.data.toList).c=v.c+1/\(v.step t.data.toList).m=v.m++[(t.data.toList,v.c)]/\(v.step t.data.toList).look=sw v.look t.data.toList (some v.c)):=zq ⟨by unfold VS.step;simp [b],by unfold VS.step;simp [b,a],by rw [VS.step_look,if_neg (by simp [b,a])]⟩
 have C:=Z.out
 have b8:wrap64 ((v.c:Int)+1)=(v.c:Int)+1:=nF (by have:=J.out;omega)
 obtain ⟨w2,a6,V,U⟩:=(g.out.cell 6 (ab ae ((v.c:Int)+1))).vm.put cE Tryz.underlying76 da t v.c (by unfold be;omega) (by have:=R.out;unfold be;omega) (by have:=J.out;omega)
 have l:=zq ((g.out.cell 6 (ab ae ((v.c:Int)+1))).vput V U)
 clear V U
 rw [if_neg a] at l
 have r:=g.out.bk.all0
 simp only [PC.cells,cy,cB,bd,ap,ar,and_true] at r
 have S:=l.out.bk.all0
 simp only [PC.cells,cy,cB,bd,ap,ar,and_true] at S
 have Y:=zq j
 clear Q I b a j a5
 go_enter Tryz.func126,Tryz.ntmps126
 go_upto_region 1 with fail
 rw [<-C]
 clear C
 go_wp2_with (at_builtin;go_must (refine sv rfl _ _ rfl l.out rfl (t.data.toList,v.c) rfl rfl (by have:=b7.out;omega) ?_;intro c2 w3 H;(obtain ⟨A3,k3,rfl⟩:=kt H.out.nm);(obtain ⟨n3,b9⟩:∃n3,(v.m++[(t.data.toList,v.c)]).length=n3:=⟨_,rfl⟩);rw [b9] at H |-;have a8:=zq (H.out.cell 7 (.slice A3 n3 k3));(obtain ⟨D,c5,F,B,A⟩:=a3.out (w3.setCell ⟨c.P,7,none⟩ (.slice A3 n3 k3)) _ _ a8.out.om (by have:=R.out;omega) G.out);have b6:=zq (a8.out.oput B A);have a0:wrap64 ((v.o.count (v.num t.data.toList):Int)+1)=(v.o.count (v.num t.data.toList):Int)+1:=nF (by have:=G.out;omega);rw [Y.out] at D F a0;clear B A;have a9:=H.out.bk.all0;simp only [PC.cells,cy,cB,bd,ap,ar,and_true] at a9))
 clear r S a9 M D F a6
 refine (Gp (v.c:Nat) (by have:=J.out;omega) _).mono ?_;rintro e wl ⟨rfl,z⟩
 have q:=zq (b6.out.keep z)
 clear z
 have u:=q.out.bs.all
 simp only [aU,bd,ap,ar,and_true] at u
 go_wp2_with fail
 refine ay (v:=aN #[ab ae 0,ab ae (v.c:Nat),aa ⟨#[]⟩,.slice none 0 0]) (by simp [results,Tryz.results126,go_sem,u]) rfl ⟨by rw [Y.out],?_⟩
 have X:=q.out.put4 0 rfl (ab ae 0) (ab ae (v.c:Nat)) (aa ⟨#[]⟩) (.slice none 0 0)
 exact a4.out _ _ _ _ _ _ _ _ _ X (by unfold PC.cells;rw [d.out.1];rfl) (ag _) (ag _) d.out.2.2.symm (uA v _) d.out.2.1.symm
end Go.Proofs.YtlikcjbjibhjgaaGreatDoor
namespace Hb
open Go Go.RowKit
def zk (a:List Tm):RR (List Tm×Nat)->RR (List Tm×Nat)
 | .error k=>.error k
 | .ok (l,m)=>.ok (a++l,m)
theorem Hj (r:RR (List Tm×Nat)):zk [] r=r:=by cases r <;> rfl
theorem Hi (a b:List Tm) (r:RR (List Tm×Nat)):zk a (zk b r)=zk (a++b) r:=by
 cases r with
 | error k=>rfl
 | ok x=>simp [zk]
theorem EA (E:RE) (S:PT) (k n:Nat):ts E S (k+1) n=match S 999 n with
  | .error e=>.error e
  | .ok (t,_,m)=>if isP (E.at m) [44]=true then zk [t] (ts E S k (m+1)) else .ok ([t],m):=by
 rw [ts]
 cases S 999 n with
 | error e=>rfl
 | ok x=>
  simp only
  split
  ·cases ts E S k (x.2.2+1) <;> rfl
  ·rfl
end Hb
namespace Go.Proofs.YtlikcjbjibhjgaaGreatDoor
open Go.RowKit Hb
def TOut (c:PC) (n:Nat) (a:az) (w0:ai) (r:RR (Tm×Int×Nat)) (e:Ending) (w':ai):Prop:=match r with
 | .error k=>Li c a w0 k e w'
 | .ok (t,p,m)=>n<m/\∃A cap nv',e=aw (aK #[er t A cap,ab ae p])/\PsAt c m (cM c.E.T m) nv' w'/\Stp c a w0 nv' w'/\TmsK (c.new nv' w0 w') w' A t.args
def OM (c:PC) (n:Nat) (a:az) (w0:ai) (r:RR (List Tm×Nat)) (e:Ending) (w':ai):Prop:=match r with
 | .error k=>Li c a w0 k e w'
 | .ok (l,m)=>n<m/\∃A cap nv',e=aw (.slice A l.length cap)/\PsAt c m (cM c.E.T m) nv' w'/\Stp c a w0 nv' w'/\TmsK (c.new nv' w0 w') w' A l
def BOut (c:PC) (n:Nat) (a:az) (w0:ai) (r:RR (Tm×Nat)) (e:Ending) (w':ai):Prop:=match r with
 | .error k=>Li c a w0 k e w'
 | .ok (t,m)=>n<m/\∃A cap nv',e=aw (er t A cap)/\PsAt c m (cM c.E.T m) nv' w'/\Stp c a w0 nv' w'/\TmsK (c.new nv' w0 w') w' A t.args
def ON (c:PC) (n:Nat) (a:az) (w0:ai) (r:RR (Option Tm×Nat)) (e:Ending) (w':ai):Prop:=match r with
 | .error k=>Li c a w0 k e w'
 | .ok (some t,m)=>n<m/\∃A cap nv',e=aw (aK #[er t A cap,am true])/\PsAt c m (cM c.E.T m) nv' w'/\Stp c a w0 nv' w'/\TmsK (c.new nv' w0 w') w' A t.args
 | .ok (none,m)=>m=n/\e=aw (aK #[aN #[ab ae 0,ab ae 0,aa ⟨#[]⟩,.slice none 0 0],am false])/\PsAt c n (cM c.E.T n) a w'/\Stp c a w0 a w'
def uK (c:PC) (S:PT) (k:Nat):Prop:=∀(most:Int) (n:Nat) (a:az) (w:ai),k<=n->PsAt c n (cM c.E.T n) a w->aJ ah 61 #[au (some ⟨c.P,0,none⟩),ab ae most] w (TOut c n a w (S most n))
theorem PsAt.skip {c:PC} {n:Nat} {a:az} {w:ai} (b:qB (c.E.at n)=false) (d:n<c.E.T.length) (p:PsAt c (n+1) (cM c.E.T n) a w):PsAt c (n+1) (cM c.E.T (n+1)) a w:=by rw [Jv d b];exact p
theorem tv {c:PC} {S:PT} {k n:Nat} {I:az} {w:ai} (hS:uK c S k) (hk:k<=n) (p:PsAt c n (cM c.E.T n) I w) :
  aJ ah 168 #[au (some ⟨c.P,0,none⟩)] w (OM c n I w (rt c.E S n)):=by
 obtain ⟨R,X⟩:=lz (rt c.E S n)
 rw [<-X.out]
 have HS:=zq hS
 have b9:=zq (Wk.start p)
 have HK:=zq hk
 have b5:=zq p.ok.len
 clear p hS hk
 go_enter Tryz.func168,Tryz.ntmps168
 go_wp2_with fail
 go_loopw [3] (fun v3 wr=>∃(d:Nat) (J:az) (a:List TR) (j:Nat),n<=d/\(a=[]\/n<d)/\c.E.T.length<=d+j/\a.length<=d/\Hid (Wk c d (cM c.E.T d) I w J wr [])/\Hid (OwnT c J w wr [] v3 a)/\Hid (R=zk (a.map (·.1)) (ts c.E S j d))) (fun _ wr=>match wr.cell? ⟨c.P,1,none⟩ with | some (ab _ i)=>c.E.T.length-i.toNat | _=>0)
 case atStart=>exact ⟨n,I,[],c.E.T.length,ag _,.inl rfl,by omega,bp _,b9,zq (OwnT.nul _ _ _ _ _),zq (by rw [X.out,eG,Hj];rfl)⟩
 case round=>
  obtain ⟨d,J,a,j,M,c6,hj,a8,r,D,v⟩:=hrel
  have a2:=r.out.p.n1
  obtain ⟨j,rfl⟩:∃i,j=i+1:=⟨j-1,by omega⟩
  obtain ⟨Q,c3,c7,_⟩:=D.out.tms
  subst c7
  have x:=zq (HS.out 999 d J wr (aI HK.out M) r.out.p)
  have h:=zq (EA c.E S j d)
  have q:=zq (⟨M,hj,a8,a2⟩:_/\_/\_/\_)
  have a6:wr.cell? ⟨c.P,1,none⟩=some (ab ae (d:Int)):=r.out.p.bk.c 1 _ rfl
  have b7:=zq a6
  clear M c6 hj a8 a2 a6
  rcases hs:S 999 d with e | ⟨t,pr,m⟩
  ·rw [hs] at x h
   have A:Hid (R=.error e):=zq (by rw [v.out,h.out];rfl)
   rw [A.out]
   clear hs v h
   go_wp2_with fail
   refine x.out.mono ?_;rintro e o ⟨rfl,c5⟩
   exact ⟨rfl,rfl,r.out.fall c5⟩
  ·rw [hs] at x h
   clear hs
   go_wp2_with fail
   refine x.out.mono ?_;rintro e o ⟨a3,g,u,C,rfl,a4,N,a9⟩
   have W:=zq (r.out.step a4 N)
   have V:=zq (D.out.step N)
   have b3:=r.out.s.size
   have b0:TmsK (fun b=>(c.new C w o b/\b ∉ ([]:List Nat))/\(ev Q a.length c3).ownBlock≠some b) o g t.args:=a9.keep (fun _ _=>rfl) fun b f=>⟨⟨⟨aI b3 f.1,f.2⟩,by simp⟩,fun e=>by
    have:=(D.out.own.lt b e).2;have:=f.1;omega⟩
   have Y:=zq b0
   have U:=zq a3
   clear a4 N a9 b0 a3 x r D b3
   obtain ⟨wb,H⟩:=lz (o.alloc (.cells #[ab ae t.kind,ab ae t.num,aa t.name,.slice g t.args.length u] 25))
   have B:ax o.heap.size o wb:=by rw [H.out];exact (aj _ _).alloc (ag _) _
   have a0:Bk wb o.heap.size [ab ae t.kind,ab ae t.num,aa t.name,.slice g t.args.length u]:=by rw [H.out];exact Bk.new o _ _
   have G:=zq (W.out.call B)
   have K:=zq (V.out.call B)
   have Z:=zq (Y.out.keep (fun b f=>B.block b f.1.1.2.1) fun b f=>(⟨⟨⟨f.1.1.1,aC f.1.1.2.1 B.size,f.1.1.2.2⟩,f.1.2⟩,f.2⟩:(c.new C w wb b/\b ∉ ([]:List Nat))/\(ev Q a.length c3).ownBlock≠some b))
   have cb:=a0.all0
   simp only [bd,ap,ar,and_true] at cb
   have c1:Hid (w.heap.size<=wb.heap.size):=zq G.out.s.size
   have c0:Hid (a.length<=100000):=zq (by have:=q.out;have:=b5.out;omega)
   clear B a0 W V Y
   unfold er
   go_upto_region 3 with fail
   rw [<-H.out]
   clear H
   go_wp2_with (at_builtin;go_must (refine nA rfl _ _ rfl c m _ C w [] _ a rfl K.out G.out.p c1.out (by simp) (t,g,u) Z.out _ rfl rfl rfl c0.out ?_;intro v4 w4 F b4;have l:=zq ((G.out.call ((aj _ _).alloc (ag _) (.cells (iW (t,g,u)).toArray 25))).grown (K.out.call ((aj _ _).alloc (ag _) (.cells (iW (t,g,u)).toArray 25))) (by simp) b4.out)))
   clear cb K Z G
   cases hc:isP (c.E.at m) [44]
   ·have A:Hid (R=.ok (a.map (·.1)++[t],m)):=zq (by rw [v.out,h.out];simp only [hc];rfl)
    refine (jO l.out.p ⟨#[44]⟩ hc).mono ?_;rintro e w5 ⟨rfl,L⟩
    have z:=zq (l.out.call L)
    obtain ⟨A4,c4,c8,b1⟩:=(F.out.call L).tms
    have c2:=zq b1
    subst c8
    clear L l F v h hc b1
    go_wp2_with fail
    go_ret
    rw [A.out]
    exact ⟨Nat.lt_of_le_of_lt q.out.1 U.out,A4,c4,C,by rw [show (a.map (·.1)++[t]).length=a.length+1 by simp];rfl,z.out.p,z.out.s,by have:=c2.out.out;rwa [bC] at this⟩
   ·have b2:=gI hc
    have a1:=l.out.p.more (oq hc)
    have A:Hid (R=zk ((a++[((t,g,u):TR)]).map (·.1)) (ts c.E S j (m+1))):=zq (by rw [v.out,h.out];simp only [hc,if_true];rw [Hi,bC];rfl)
    refine (jk l.out.p ⟨#[44]⟩ hc).mono ?_;rintro e w5 ⟨rfl,a5,O⟩
    have z:=zq (l.out.step (PsAt.skip b2 l.out.p.n1 a5) O)
    have b6:=zq (F.out.step O)
    have a7:w5.cell? ⟨c.P,1,none⟩=some (ab ae ((m+1:Nat):Int)):=z.out.p.bk.c 1 _ rfl
    have b8:=zq a7
    have y:=zq (⟨U.out,a1⟩:d<m/\m+1<c.E.T.length)
    clear a5 O l F v h hc b2 a1 a7
    go_wp2_with fail
    go_roundw
    case rel=>exact ⟨m+1,C,a++[(t,g,u)],j,by have:=y.out;have:=q.out;omega,.inr (by have:=y.out;have:=q.out;omega),by have:=y.out;have:=q.out;omega,by have:=y.out;have:=q.out;simp;omega,z,b6,A⟩
    case measure=>rw [b8.out,b7.out];have:=y.out;have:=q.out;simp;omega
theorem Kq {t:NextR} (h:opn t=true):isP t [40]=true:=by unfold opn at h;rw [Bool.and_eq_true] at h;exact h.1
theorem sd {c:PC} {S:PT} {k n:Nat} {K:az} {w:ai} (hS:uK c S k) (hk:k<=n+1) (p:PsAt c n (cM c.E.T n) K w) (s:ByteArray) :
  aJ ah 167 #[au (some ⟨c.P,0,none⟩),aa s] w (ON c n K w (mc c.E S s n)):=by
 obtain ⟨R,y⟩:=lz (mc c.E S s n)
 rw [<-y.out]
 have i:=zq ((Wk.start p).new [ab ae 0,ab ae 0,aa ⟨#[]⟩,.slice none 0 0] 25 rfl)
 have Q:=zq (kc i.out.p 0 (by decide))
 have D:=zq fun W=>zg (c.E.at n) W
 have Y:=zq fun nv' W (h:PsAt c (n+1) (cM c.E.T (n+1)) nv' W)=>tv hS hk h
 have X:=zq fun (A:Option Addr) (m r:Nat) (W:ai)=>kb s A m r W
 have O:=zq p.n1
 have N:=zq p.more
 rw [Nat.add_zero] at Q
 clear p
 cases ho:opn (c.E.at n)
 ·skip
  have f:Hid (R=.ok (none,n)):=zq (by rw [y.out];unfold mc;rw [if_neg (by rw [ho];simp)])
  rw [f.out]
  rw [ho] at D
  clear ho Y X O N y
  generalize c.E.at n=t at *
  unfold qY at *
  go_enter Tryz.func167,Tryz.ntmps167
  go_wp2_with fail
  refine (Q.out).mono ?_;rintro e w1 ⟨rfl,a⟩
  have x:=zq (i.out.call a)
  clear i
  clear a 
  go_wp2_with fail
  refine (D.out _).mono ?_;rintro e w3 ⟨rfl,a⟩
  have j:=zq (x.out.call a)
  clear x
  clear a 
  have z:=j.out.b.all
  simp only [PC.cells,ak,an,aA,aU,bd,ap,ar,and_true] at z
  go_wp2_with fail
  have C:=j.out.put4 0 rfl (ab ae 0) (ab ae 0) (aa ⟨#[]⟩) (.slice none 0 0) (ag _)
  exact ay (v:=aK #[aN #[ab ae 0,ab ae 0,aa ⟨#[]⟩,.slice none 0 0],am false]) (by simp [results,Tryz.results167,go_sem,z]) rfl ⟨rfl,rfl,C.p,C.s⟩
 ·skip
  have M:=zq (Kq ho)
  have HM:=zq (N.out (oq M.out))
  have a8:=zq (gI M.out)
  have u:Hid (R=match rt c.E S (n+1) with | .error e=>.error e | .ok (l,m)=>im c.E [41] m (some (nC s l))):=zq (by rw [y.out];unfold mc;rw [if_pos ho];rfl)
  rw [ho] at D
  have a5:=zq (nF (n:=n) (by have:=i.out.p.ok.len;have:=O.out;omega))
  clear ho N y M
  unfold qY at *
  go_enter Tryz.func167,Tryz.ntmps167
  go_wp2_with fail
  refine (Q.out).mono ?_;rintro e w1 ⟨rfl,a⟩
  have x:=zq (i.out.call a)
  clear i
  clear a 
  go_wp2_with fail
  refine (D.out _).mono ?_;rintro e w3 ⟨rfl,a⟩
  have j:=zq (x.out.call a)
  clear x
  clear a 
  have z:=j.out.b.all
  simp only [PC.cells,ak,an,aA,aU,bd,ap,ar,and_true] at z
  have hi:=a5.out
  go_wp2_with fail
  have I:=j.out.inc HM.out
  obtain ⟨wn,a1⟩:=lz (w3.setCell ⟨c.P,1,none⟩ (ab ae ((n:Int)+1)))
  rw [<-a1.out] at I |-
  have a4:=PsAt.skip a8.out O.out I.p
  have q:=zq (I.step a4 (Stp.refl c K wn))
  clear I a1 j z hi a4
  have G:=zq (Y.out K wn q.out.p)
  rcases d:rt c.E S (n+1) with e | ⟨l,m⟩
  ·skip
   rw [d] at G u
   clear d
   have f:Hid (R=.error e):=u
   refine G.out.mono ?_;rintro e w1 ⟨rfl,b0⟩
   refine ⟨rfl,?_⟩
   rw [f.out]
   exact ⟨rfl,q.out.fall b0⟩
  rw [d] at G u
  clear d
  have L:Hid (R=im c.E [41] m (some (nC s l))):=u
  clear u
  refine (G.out).mono ?_;rintro e w6 ⟨a3,A,r,b2,rfl,B,d,J⟩
  have Z:=zq (Trm.sub (w0:=w) (F:=[w.heap.size]) J q.out.s.size (by intro b H;rw [aG] at H;subst H;exact q.out.b.lt 0 rfl))
  have a6:=zq a3
  clear J a3
  have o:=zq (q.out.step B d)
  clear q
  clear B d
  cases hc:isP (c.E.at m) [41]
  ·skip
   have f:Hid (R=.error m):=zq (by rw [L.out];unfold im;rw [hc];rfl)
   go_wp2_with fail
   refine (lE o.out.p ⟨#[41]⟩ hc).mono ?_;rintro e w9 ⟨rfl,b1⟩
   refine ⟨rfl,?_⟩
   rw [f.out]
   exact ⟨rfl,o.out.fall b1⟩
  have f:Hid (R=.ok (some (nC s l),m+1)):=zq (by rw [L.out];unfold im;rw [hc];rfl)
  have a9:=zq (gI hc)
  clear L
  go_wp2_with fail
  refine (kK o.out.p ⟨#[41]⟩ hc).mono ?_;rintro e w8 ⟨rfl,B,d⟩
  have V:=zq (o.out.step (PsAt.skip a9.out o.out.p.n1 B) d)
  have a0:=zq (Z.out.step d)
  clear o Z
  clear B d
  go_wp2_with fail
  refine (X.out _ _ _ _).mono ?_;rintro e b3 ⟨rfl,a⟩
  have U:=zq (V.out.call a)
  have a7:=zq (a0.out.call a)
  clear V a0
  clear a 
  have a2:=U.out.b.all
  simp only [PC.cells,ak,an,aA,aU,bd,ap,ar,and_true] at a2
  go_wp2_with fail
  have C:=U.out.put4 0 rfl (ab ae 3) (ab ae 0) (aa s) (.slice A l.length r) (ag _)
  have J:=a7.out.put (g:=w.heap.size) (by simp) (fun b H=>bR _ _ (ab ae 3) (ab ae 0) (aa s) (.slice A l.length r) b H) (by simp)
  refine ay (v:=aK #[aN #[ab ae 3,ab ae 0,aa s,.slice A l.length r],am true]) (by simp [results,Tryz.results167,go_sem,a2]) rfl ?_
  rw [f.out]
  exact ⟨by have:=a6.out;omega,A,r,b2,rfl,C.p,C.s,J.out⟩
end Go.Proofs.YtlikcjbjibhjgaaGreatDoor
