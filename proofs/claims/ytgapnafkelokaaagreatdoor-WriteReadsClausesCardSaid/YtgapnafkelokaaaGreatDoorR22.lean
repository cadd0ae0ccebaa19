/- Parts of the proof. -/
import Derived.Test.YtgapnafkelokaaaGreatDoorR01
import Derived.Test.YtgapnafkelokaaaGreatDoorR03
import Derived.Test.YtgapnafkelokaaaGreatDoorR20
import Derived.Test.YtgapnafkelokaaaGreatDoorR21
set_option maxHeartbeats 12800000
set_option maxRecDepth 100000
set_option linter.unusedSimpArgs false
open Go renaming Calls -> aG, Value -> aA, World -> aj, bodyPost_ret -> aw, heap_setCell_other -> bd, maxLen -> bc, wpList -> dW, wpList_append_own_at -> gs
open Go.Ending renaming returned -> av
open Go.IntKind renaming i64 -> ae
open Go.Proofs.Tryz renaming prog -> ah, underlying2 -> fa, underlying3 -> dL, underlying9 -> ci
open Go.RowKit renaming Below -> ay
open Go.RowKit.Below renaming refl -> ak
open Go.Value renaming agg -> aN, bool -> an, int -> ab, pointer -> ax, slice -> ex, string -> aa, tuple -> aF
open Go.World renaming cell?_alloc_new -> aq
open List renaming append_nil -> az, cons_append -> ai, drop_eq_getElem_cons -> dU, map_append -> bv, map_cons -> bR, map_nil -> ek, mem_cons -> bi, mem_nil_iff -> bV, mem_singleton -> aJ, nil_append -> am, set_cons_succ -> bE, set_cons_zero -> bD, take_succ_eq_append_getElem -> aK
open Nat renaming le_refl -> ag, le_succ -> dc, le_trans -> aH, lt_of_lt_of_le -> aB, lt_succ_self -> bS, reduceAdd -> ar, zero_add -> ap, zero_le -> bj
namespace Hb
open Go Go.RowKit
structure FlR where
 q:Int
 u:Int
 c:Bool
 d:Bool
def Ke (f:FlR):aA:=aN #[ab ae f.q,ab ae f.u,an f.c,an f.d]
def pl (f:FlR):Bool:=decide (1<=f.q)&&(decide (f.q<=3)&&(f.u==1||f.u==2))
def uE (s:ByteArray):Tm:=.mk 2 0 s []
end Hb
namespace Go.Proofs.YtgapnafkelokaaaGreatDoor
open Go.RowKit Hb
theorem Hv (f:FlR) (w:aj):aG ah 70 #[Ke f] w fun e w'=>e=av (an (pl f))/\ay w.heap.size w w':=by
 have h:=(ak w.heap.size w).alloc (ag _) (.cells #[ab ae f.q,ab ae f.u,an f.c,an f.d] 53)
 have g:Hid (pl f=(decide (1<=f.q)&&(decide (f.q<=3)&&(f.u==1||f.u==2)))):=zq rfl
 unfold Ke
 generalize pl f=r at *
 generalize f.q=q at *
 generalize f.u=u at *
 have a:(q<1)\/(3<q)\/(1<=q/\q<=3):=by omega
 have b:u=1\/u=2\/(¬u=1/\¬u=2):=by omega
 rcases a with a | a | ⟨a,i⟩ <;> rcases b with rfl|rfl | ⟨b,j⟩
 all_goals
  go_enter Tryz.func70,Tryz.ntmps70
  go_wp2_with fail
  go_ret
  refine ⟨bC ?_,h⟩
  rw [g.out]
  simp [*] <;> omega
end Go.Proofs.YtgapnafkelokaaaGreatDoor
namespace Hb
open Go Go.RowKit
theorem FM {s:ByteArray} (h:s.size<=100):bu (uE s)=true:=(gV _).2 ⟨by rw [Tm.nodes_eq];simp [uE,Tm.args],by
 rw [Tm.allOk_eq]
 unfold dH uE Tm.kind Tm.num Tm.name Tm.args
 simp [h]⟩
theorem Ac {t:Tm} (h:bu t=true):kj t=t:=by unfold kj;rw [if_pos h]
end Hb
namespace Go.Proofs.YtgapnafkelokaaaGreatDoor
open Go.RowKit Hb
theorem Ja (s:ByteArray) (h:s.size<=100) (w:aj) :
  aG ah 183 #[aa s] w fun e w'=>∃b cap',e=av (dR (uE s) b cap')/\ay w.heap.size w w':=by
 have i:=R4.start (w0:=w) (w:=w) (ak _ _) (ab ae 0) (ab ae 0) (aa ⟨#[]⟩) (.slice none 0 0) 24
 have l:=zq i
 have f:=zq (fun (W:aj)=>uL (uE s) none 0 W TmsK.nil)
 rw [Ac (FM h)] at f
 have j:Hid (∀(b:Option Addr) (g:Nat),dR (uE s) b g=aN #[ab ae 2,ab ae 0,aa s,.slice b 0 g]):=zq (fun _ _=>rfl)
 clear i
 go_enter Tryz.func183,Tryz.ntmps183
 go_wp2_with fail
 refine (f.out _).mono ?_;rintro e D ⟨c,d,rfl,m,n⟩
 rw [j.out]
 have a:=l.out.call m
 obtain ⟨z,o⟩:=a.r0
 obtain ⟨A,p⟩:=a.r1
 obtain ⟨B,q⟩:=a.r2
 obtain ⟨C,r⟩:=a.r3
 have t:=a.fr 0
 have u:=a.fr 1
 have x:=a.fr 2
 have y:=a.fr 3
 have k:=zq (a.put (ab ae 2) (ab ae 0) (aa s) (.slice c 0 d))
 clear n
 go_wp2_with fail
 exact aw (v:=aN #[ab ae 2,ab ae 0,aa s,.slice c 0 d]) (by simp [results,Tryz.results183,go_sem,o,p,q,r]) rfl ⟨c,d,rfl,k.out⟩
theorem DM (n:Int) (w:aj):aG ah 154 #[ab ae n] w fun e w'=>e=av (aN #[ab ae 1,ab ae n,aa ⟨#[]⟩,.slice none 0 0])/\ay w.heap.size w w':=by
 have a:=(ak w.heap.size w).alloc (ag _) (.cells #[ab ae 1,ab ae n,aa ⟨#[]⟩,.slice none 0 0] 24)
 go_enter Tryz.func154,Tryz.ntmps154
 go_wp2_with fail
 exact aw (v:=aN #[ab ae 1,ab ae n,aa ⟨#[]⟩,.slice none 0 0]) (by simp [results,Tryz.results154,go_sem]) rfl ⟨rfl,a⟩
end Go.Proofs.YtgapnafkelokaaaGreatDoor
namespace Hb
open Go Go.RowKit
theorem EU (l:List Tm) (t:Tm) (j:Nat) (h:j<l.length):qV (l.drop j) t=mw ⟨#[46]⟩ [l[j],qV (l.drop (j+1)) t]:=by rw [dU h];rfl
theorem Hh (l:List Tm) (t:Tm):qV (l.drop l.length) t=t:=by rw [List.drop_length];rfl
structure LsM (K:Nat->Prop) (w0 w:aj) (t:Tm) (A:Option Addr) (cap:Nat):Prop where
 bel:ay w0.heap.size w0 w
 bs:Bks w [(w0.heap.size+1,[ab ae 0,ab ae 0,aa ⟨#[]⟩,.slice none 0 0]),(w0.heap.size,[ab ae t.kind,ab ae t.num,aa t.name,.slice A t.args.length cap])]
 tms:TmsK (fun b=>K b\/(w0.heap.size+1<b/\b<w.heap.size)) w A t.args
end Hb
namespace Go.Proofs.YtgapnafkelokaaaGreatDoor
open Go.RowKit Hb
theorem kl (s:ByteArray) (h:s.size<=100) (w:aj):aG ah 183 #[aa s] w fun e w'=>∃A' c',e=av (aN #[ab ae 2,ab ae 0,aa s,.slice A' 0 c'])/\ay w.heap.size w w':=Ja s h w
theorem mP {B:Nat} {w0 w:aj} (h:ay B w0 w) (g:Nat) (a:B<=g) (x y z u:aA):ay B w0 ((((w.setCell ⟨g,0,none⟩ x).setCell ⟨g,1,none⟩ y).setCell ⟨g,2,none⟩ z).setCell ⟨g,3,none⟩ u) :=
 (((h.setCell (p:=⟨_,_,none⟩) a _).setCell (p:=⟨_,_,none⟩) a _).setCell (p:=⟨_,_,none⟩) a _).setCell (p:=⟨_,_,none⟩) a _
theorem LsM.start {K:Nat->Prop} (w:aj) (t:Tm) (A:Option Addr) (a:Nat) (h:TmsK K w A t.args) (d:∀b,K b->b<w.heap.size):LsM K w ((w.alloc (.cells #[ab ae t.kind,ab ae t.num,aa t.name,.slice A t.args.length a] 24)).alloc (.cells #[ab ae 0,ab ae 0,aa ⟨#[]⟩,.slice none 0 0] 24)) t A a where
 bel:=((ak _ _).alloc (ag _) _).alloc (by simp) _
 bs:=((Bks.nil w).new [ab ae t.kind,ab ae t.num,aa t.name,.slice A t.args.length a] 24 rfl).new [ab ae 0,ab ae 0,aa ⟨#[]⟩,.slice none 0 0] 24 (by simp)
 tms:=h.keep (fun b c=>((((ak w.heap.size w).alloc (ag _) _).alloc (by simp) _).block b (d b c))) fun b c=>.inl c
theorem LsM.step {K:Nat->Prop} {w0 w wS:aj} {t x:Tm} {A B:Option Addr} {c cb:Nat} (h:LsM K w0 w t A c) (o:TmsK K w0 B x.args) (d:∀b,K b->b<w0.heap.size) (e:ay (w.heap.size+1) (w.alloc (.cells (dN [(x,B,cb),(t,A,c)]).toArray 24)) wS) :
  LsM K w0 ((((wS.setCell ⟨w0.heap.size,0,none⟩ (ab ae 3)).setCell ⟨w0.heap.size,1,none⟩ (ab ae 0)).setCell ⟨w0.heap.size,2,none⟩ (aa ⟨#[46]⟩)).setCell ⟨w0.heap.size,3,none⟩ (.slice (some ⟨w.heap.size,0,none⟩) 2 2)) (mw ⟨#[46]⟩ [x,t]) (some ⟨w.heap.size,0,none⟩) 2:=by
 have k:=h.bs.lt 0 rfl
 have i:ay w.heap.size w (w.alloc (.cells (dN [(x,B,cb),(t,A,c)]).toArray 24)):=(ak _ _).alloc (ag _) _
 have f:ay w.heap.size w wS:=i.trans (e.mono (dc _))
 have m:=wH (K:=fun b=>K b\/(w0.heap.size+1<b/\b<w.heap.size+1)) (K':=fun b=>K b\/(w0.heap.size+1<b/\b<w.heap.size)) (w:=w) 24 [(x,B,cb),(t,A,c)] (by unfold bc;simp) (.inr ⟨k,bS _⟩) (fun b a=>by
   rcases a with a | a
   ·exact ⟨.inl a,by have:=d b a;have:=h.bel.size;omega⟩
   ·exact ⟨.inr ⟨a.1,by omega⟩,a.2⟩) (fun r g=>by
   simp only [bi,bV,or_false] at g
   rcases g with rfl|rfl
   ·exact o.keep (fun b a=>h.bel.block b (d b a)) fun b a=>.inl a
   ·exact h.tms)
 have n:(w.alloc (.cells (dN [(x,B,cb),(t,A,c)]).toArray 24)).heap.size=w.heap.size+1:=by simp
 refine ⟨mP (h.bel.trans (f.mono h.bel.size)) _ (ag _) _ _ _ _,(h.bs.call f).set4 1 rfl _ _ _ _,TmsK.keep m (fun b a=>?_) fun b a=>?_⟩
 ·have j:b<w.heap.size+1:=by
   rcases a with a | a
   ·have:=d b a;have:=h.bel.size;omega
   ·exact a.2
  have l:b≠w0.heap.size:=by
   rcases a with a | a
   ·have:=d b a;omega
   ·omega
  rw [ce _ _ _ _ _ _ _ l]
  exact e.block b j
 ·rcases a with a | a
  ·exact .inl a
  ·exact .inr ⟨a.1,by have:=e.size;rw [n] at this;simp;omega⟩
theorem vr (K:Nat->Prop) (l:List Tm) (A:Option Addr) (n a1:Nat) (t:Tm) (B:Option Addr) (cb:Nat) (w:aj) (J:n=l.length) (E:∀b,K b->b<w.heap.size) (I:TmsK K w A l) (X:TmsK K w B t.args) :
  aG ah 184 #[.slice A n a1,dR t B cb] w fun e w'=>∃f c',e=av (dR (qV l t) f c')/\ay w.heap.size w w'/\TmsK (fun b=>K b\/(w.heap.size<=b/\b<w'.heap.size)) w' f (qV l t).args:=by
 have hm:n<=bc:=by rw [J];exact I.len
 unfold bc at hm
 have M:=zq J
 have L:=zq I
 have y:=zq E
 have a0:=zq (fun (s:ByteArray) A n c W=>jA s A n c W)
 have HS:=zq (LsM.start w t B cb X E)
 clear I X J E
 obtain ⟨q,z⟩:=lz (qV l t)
 rw [<-z.out]
 unfold dR
 go_enter Tryz.func184,Tryz.ntmps184
 go_wp2_with fail
 go_loopw [5] (fun i wr=>∃k:Nat,k<=n/\(k=0->i=ab ae (-1))/\(∀j:Nat,k=j+1->i=ab ae j)/\∃f r,Hid (LsM K w wr (qV (l.drop k) t) f r)) (fun i _=>(intOf i+1).toNat)
 case atStart=>exact ⟨n,ag _,fun h=>by subst h;rfl,fun j h=>by congr 1;omega,B,cb,by rw [M.out,Hh l t];exact HS⟩
 case round=>
  obtain ⟨k,hk,G,H,f,r,d⟩:=hrel
  rcases Nat.eq_zero_or_pos k with rfl | a4
  ·have F:=G rfl
   subst F
   rw [List.drop_zero,<-z.out] at d
   have g:=d.out.bs.all
   simp only [aU,aW,ap,ar,and_true] at g
   clear G H z
   go_wp2_with fail
   refine aw (v:=aN #[ab ae q.kind,ab ae q.num,aa q.name,.slice f q.args.length r]) (by simp [results,Tryz.results184,go_sem,g]) rfl ⟨f,r,rfl,mP d.out.bel _ (dc _) _ _ _ _,?_⟩
   refine d.out.tms.keep (fun b a=>ce _ _ _ _ _ _ _ ?_) fun b a=>?_
   ·rcases a with a | a
    ·have:=y.out b a;omega
    ·omega
   ·rcases a with a | a
    ·exact .inl a
    ·exact .inr ⟨by omega,by simpa using a.2⟩
  ·obtain ⟨j,rfl⟩:∃j,k=j+1:=⟨k-1,by omega⟩
   have F:=H j rfl
   subst F
   have U:j<l.length:=by have:=M.out;omega
   obtain ⟨b,a5,B',a2,rfl,a,P,Q,R,S,V⟩:=L.out.get j U
   have a3:=y.out b a
   have m:∀o,wr.cell? ⟨b,o,none⟩=w.cell? ⟨b,o,none⟩:=fun o=>d.out.bel.cell (p:=⟨b,o,none⟩) a3
   have d0:=(m _).trans P
   have d1:=(m _).trans Q
   have d2:=(m _).trans R
   have d3:=(m _).trans S
   have C:=zq (fun wS h=>LsM.step (cb:=a2) (wS:=wS) d.out V y.out h)
   have Z:Hid (mw ⟨#[46]⟩ [l[j],qV (l.drop (j+1)) t]=qV (l.drop j) t):=zq (EU l t j U).symm
   have g:=d.out.bs.all
   simp only [aU,aW,ap,ar,and_true] at g
   have Y:=zq d.out.bs
   have k0:(0:Int)<=(j:Int):=by omega
   have k1:(j:Int)<(n:Int):=by omega
   clear G H V m P Q R S d L
   generalize qV (l.drop (j+1)) t=u at *
   generalize l[j]=x at *
   unfold dN ir at C
   simp only [List.flatMap_cons,List.flatMap_nil,ai,am] at C
   go_wp2_with fail
   go_region_with (go_at_call 114;refine (a0.out _ _ _ _ _).mono ?_;rintro e wS ⟨rfl,D⟩;(have T:=((ak wr.heap.size wr).alloc (ag _) _).drew.trans (D.mono (by simp [World.drew])));have O:=(Y.out.call T).all;simp only [aU,aW,ap,ar,and_true] at O)
   all_goals
    have N:=zq (C.out _ ((ak _ _).drew.trans (D.mono (by simp [World.drew]))))
    rw [Z.out] at N
    clear D T O g
    go_wp2_with fail
    go_roundw
    case rel=>exact ⟨j,by omega,fun h=>by subst h;rfl,fun i h=>by congr 1;omega,_,_,N⟩
    case measure=>simp [intOf] <;> omega
theorem mv {w W:aj} {l:Array Oper} {rest:List Oper} {o:Oper} {a:Act} {Q:Exit->Act->aj->Prop} (p:o.guard=none) (s x:Operand)
  (z:o.op=.call { callee:=.builtin .append,args:=#[s,x],argTypes:=#[22,22] }) (b:Nat) (v:aA) (rs:List TR) (C:a.eval s=v) (m:OwnR b 24 W v rs) (u:b<=W.heap.size)
  (r:TR) (B:r.1.args=[]) (D:w=W.alloc (.cells (ir r).toArray 24)) (E:a.eval x=.slice (some ⟨W.heap.size,0,none⟩) 1 1) (I:rs.length<=100000)
  (h:∀d w',Hid (OwnR b 24 w' d (rs++[r]))->Hid (ay b W w')->dW ah l Q rest (a.put o.dst d) w'):dW ah l Q (o::rest) a w:=by
 obtain ⟨i,q,F,G,H⟩:=info_parts um
 subst D
 have f:ay W.heap.size W (W.alloc (.cells (ir r).toArray 24)):=(ak _ _).alloc (ag _) _
 have e:=m.below f
 refine gs _ p s x 22 z b 24 i _ 4 56 Tryz.underlying22 q F G H rfl (by decide) v rs.length (dN rs) C e.own ⟨W.heap.size,0,none⟩ 1 1 (ir r) E rfl ?_ (by
   intro y c
   simp only [ir,bi,bV,or_false] at c
   rcases c with rfl|rfl|rfl|rfl <;> rfl) (by unfold bc;omega) (by omega) (by simp;omega) ?_
 ·intro j y c
  rw [iM]
  have:=aq W (ir r).toArray 24 j
  rw [show 0+j=j by omega,this]
  simpa using c
 ·intro d w' A g _ n
  refine h d w' (zq (e.snoc r (by rw [B];exact TmsK.nil) A g n)) (zq ((f.mono u).grown g (by simp;omega) fun k t=>(e.own.lt k t).1))
theorem yf (s:ByteArray) (k:Nat) (h:k<s.size):s.extract k (k+1)=⟨#[s[k]]⟩:=by
 apply ByteArray.ext
 apply Array.ext'
 rw [ByteArray.data_extract]
 simp
 have:k<s.data.toList.length:=by simpa using h
 rw [dU this]
 rfl
theorem vq {c:PC} {n:Nat} {v:VS} {nv:aA} {w:aj} (p:PsAt c n v nv w) (s:ByteArray) (hs:s.size<=20000) :
  aG ah 156 #[ax (some ⟨c.P,0,none⟩),aa s] w fun e w'=>∃A' c',e=av (dR (IA c.E.q s.data.toList) A' c')/\ay w.heap.size w w'/\TmsK (fun b=>w.heap.size<=b/\b<w'.heap.size) w' A' (IA c.E.q s.data.toList).args:=by
 have B:ay w.heap.size w (w.alloc (.cells #[ab ae 0,ab ae 0,aa ⟨#[]⟩,.slice none 0 0] 24)):=(ak _ _).alloc (ag _) _
 have Y:=(Bks.nil w).new [ab ae 0,ab ae 0,aa ⟨#[]⟩,.slice none 0 0] 24 rfl
 have HP:=zq p
 obtain ⟨R,D⟩:=lz (IA c.E.q s.data.toList)
 have b8:=zq hs
 have X:Hid (¬c.E.q=3->R=qV (s.data.toList.map (JQ c.E.q)) pU):=zq fun h=>by rw [D.out];unfold IA;rw [if_neg h]
 have N:Hid (∀b,JQ c.E.q b=if c.E.q=1 then Cw b.toNat else yB ⟨#[b]⟩):=zq fun _=>rfl
 rw [<-D.out]
 have U:Hid (∀W,ay w.heap.size w W->W.cell? ⟨c.P,3,none⟩=some (ab ae c.E.q)):=zq fun W h=>(HP.out.bk.call h).c 3 _ rfl
 clear p
 by_cases A:c.E.q=3
 ·have V:Hid (R=.mk 2 0 s []):=zq (by rw [D.out];unfold IA;rw [if_pos A];rfl)
  rw [V.out]
  have b3:(c.E.q==3)=true:=by simpa using A
  have H:=U.out _ B
  have HB:=zq B
  clear B Y A N X D hs
  generalize c.E.q=q at *
  go_enter Tryz.func156,Tryz.ntmps156
  go_wp2_with fail
  refine aw (v:=aN #[ab ae 2,ab ae 0,aa s,.slice none 0 0]) (by simp [results,Tryz.results156,go_sem]) rfl ⟨none,0,rfl,?_,TmsK.nil⟩
  exact (ak _ _).alloc (ag _) _
 ·have b3:(c.E.q==3)=false:=by simpa using A
  have V:=zq (X.out A)
  have H:=U.out _ B
  have HB:=zq B
  have HK:=zq Y
  clear B Y A X D
  generalize c.E.q=q at *
  go_enter Tryz.func156,Tryz.ntmps156
  go_wp2_with fail
  clear H
  go_loopw [5,16] (fun v5 i wr=>∃k:Nat,i=ab ae k/\k<=s.size/\∃rs:List TR,rs.map (·.1)=(s.data.toList.take k).map (JQ q)/\Hid (OwnR (w.heap.size+1) 24 wr v5 rs)/\Hid (ay w.heap.size w wr)/\Hid (Bks wr [(w.heap.size,[ab ae 0,ab ae 0,aa ⟨#[]⟩,.slice none 0 0])])) (fun _ i _=>s.size-(intOf i).toNat)
  case atStart=>exact ⟨0,rfl,bj _,[],by simp,zq (OwnR.nul _ _ _),HB,HK⟩
  case round=>
   obtain ⟨k,rfl,hk,rs,G,m,l,u⟩:=hrel
   have K:rs.length=k:=by have:=congrArg List.length G;simpa [Nat.min_eq_left hk] using this
   by_cases a0:k<s.size
   ·have a:decide ((k:Int)<(s.size:Int))=true:=by simp;omega
    have H:=U.out _ l.out
    have b9:wrap64 ((k:Int)+1)=(k:Int)+1:=mA (by omega)
    obtain ⟨A5,c5,a1,_⟩:=m.out.tms
    subst a1
    have a8:=yf s k a0
    have b5:=zq a8
    have a3:=zq G
    have Q:=zq K
    clear G a8 K
    by_cases g:q=1
    ·have b1:(q==1)=true:=by simpa using g
     have L:=zq g
     clear g
     have b7:wrap64 (s[k].toNat:Int)=(s[k].toNat:Int):=IntWalk.wrap64_in _ (by have:=s[k].toNat_lt;omega)
     go_wp2_with fail
     rw [b7]
     refine (DM _ _).mono ?_;rintro e j ⟨rfl,d⟩
     have S:=zq (m.out.below d)
     have t:=bz l d
     have f:=zq (u.out.call d)
     have y:Hid (w.heap.size+1<=j.heap.size):=zq (f.out.lt 0 rfl)
     clear d m l u H
     go_wp2_with (at_builtin;go_must (refine mv rfl _ _ rfl (w.heap.size+1) _ rs rfl S.out y.out (Cw s[k].toNat,none,0) rfl rfl rfl (by have:=Q.out;omega) ?_;intro v5 w5 T F;have M:=zq (t.out.trans (F.out.mono (dc _)));have O:=zq (f.out.keep (fun (x:Nat×List aA) hx=>F.out.block x.1 (by rw [aJ] at hx;subst hx;exact bS _)))))
     have C:(rs++[((Cw s[k].toNat,none,0):TR)]).map (fun r:TR=>r.1)=(s.data.toList.take (k+1)).map (JQ q):=by
      have Z:k<s.data.toList.length:=by simpa using a0
      rw [bv,a3.out,aK Z,bv,bR,ek,bR,ek,N.out]
      congr 1
      rw [if_pos L.out]
      rfl
     go_roundw
     case rel=>exact ⟨k+1,rfl,by omega,_,C,T,M,O⟩
     case measure=>simp [intOf] <;> omega
    ·have b1:(q==1)=false:=by simpa using g
     have L:=zq g
     clear g
     go_wp2_with fail
     rw [b5.out]
     refine (kl _ (by show 1<=100;omega) _).mono ?_;rintro e j ⟨o,z,rfl,d⟩
     have S:=zq (m.out.below d)
     have t:=bz l d
     have f:=zq (u.out.call d)
     have y:Hid (w.heap.size+1<=j.heap.size):=zq (f.out.lt 0 rfl)
     clear d m l u H
     go_wp2_with (at_builtin;go_must (refine mv rfl _ _ rfl (w.heap.size+1) _ rs rfl S.out y.out (yB ⟨#[s[k]]⟩,o,z) rfl rfl rfl (by have:=Q.out;omega) ?_;intro v5 w5 T F;have M:=zq (t.out.trans (F.out.mono (dc _)));have O:=zq (f.out.keep (fun (x:Nat×List aA) hx=>F.out.block x.1 (by rw [aJ] at hx;subst hx;exact bS _)))))
     have C:(rs++[((yB ⟨#[s[k]]⟩,o,z):TR)]).map (fun r:TR=>r.1)=(s.data.toList.take (k+1)).map (JQ q):=by
      have Z:k<s.data.toList.length:=by simpa using a0
      rw [bv,a3.out,aK Z,bv,bR,ek,bR,ek,N.out]
      congr 1
      rw [if_neg L.out]
      rfl
     go_roundw
     case rel=>exact ⟨k+1,rfl,by omega,_,C,T,M,O⟩
     case measure=>simp [intOf] <;> omega
   ·have a:decide ((k:Int)<(s.size:Int))=false:=by simp;omega
    have b6:k=s.size:=by omega
    subst b6
    have C:rs.map (·.1)=s.data.toList.map (JQ q):=by rw [G,List.take_of_length_le (by simp)]
    obtain ⟨A5,c5,a1,a6⟩:=m.out.tms
    subst a1
    have a2:Hid (R=qV (rs.map (·.1)) pU):=zq (by rw [V.out,C])
    have a4:=zq a6
    have Q:=zq K
    clear G C a6 K
    go_wp2_with fail
    refine (kl ⟨#[91,93]⟩ (by decide) _).mono ?_;rintro e j ⟨o,z,rfl,d⟩
    have a5:=a4.out.keep (fun b a=>d.block b a.2) (fun b a=>(⟨a.1,aB a.2 d.size⟩:w.heap.size+1<=b/\b<j.heap.size))
    have I:=zq (vr (fun b=>w.heap.size+1<=b/\b<j.heap.size) (rs.map (·.1)) A5 rs.length c5 pU o z j (by simp) (fun b a=>a.2) a5 TmsK.nil)
    rw [<-a2.out] at I
    have t:=bz l d
    have f:=zq (u.out.call d)
    clear d a5 l u m a4
    have e4:dR pU o z=aN #[ab ae 2,ab ae 0,aa ⟨#[91,93]⟩,.slice o 0 z]:=rfl
    rw [e4] at I
    go_wp2_with fail
    refine I.out.mono ?_;rintro e w6 ⟨A6,c6,rfl,J,a7⟩
    have a9:=bz t J
    have b0:=zq (f.out.call J)
    have b4:=zq a7
    have y:Hid (w.heap.size+1<=j.heap.size):=zq (f.out.lt 0 rfl)
    have b2:=zq J.size
    clear J a7 I t f a2
    have cc:=b0.out.all
    simp only [aU,aW,ap,ar,and_true] at cc
    unfold dR
    go_wp2_with fail
    refine aw (v:=aN #[ab ae R.kind,ab ae R.num,aa R.name,.slice A6 R.args.length c6]) (by simp [results,Tryz.results156,go_sem,cc]) rfl ⟨A6,c6,rfl,mP a9.out _ (ag _) _ _ _ _,?_⟩
    refine b4.out.keep (fun b a=>ce _ _ _ _ _ _ _ ?_) fun b a=>⟨?_,?_⟩
    ·rcases a with a | a
     ·omega
     ·have:=y.out;omega
    ·rcases a with a | a
     ·omega
     ·have:=y.out;omega
    ·rcases a with a | a
     ·have g:=a.2;simp;exact aB g b2.out
     ·simpa using a.2
structure Pz (c:PC) (x:List aA) (NV NO:Nat) (fV:List UInt8->Option Nat) (fO:Nat->Nat) (nv:aA) (m:List (List UInt8×Nat)) (nv0:aA) (w0:aj) (L:List (Nat×List aA)) (w:aj):Prop where
 ok:c.Ok
 low:c.lo<=w0.heap.size
 bk:Bk w c.P x
 tk:yF w c.g c.E.T
 ops:OpsAt w c.OA c.E.P
 vm:NumMap ah 9 2 w c.V NV fV
 om:CntMap ah 2 3 w c.O NO fO
 nm:w.ownsRow c.lo 103 2 nv m.length (gZ m)
 s:Stp c nv0 w0 nv w
 bs:Bks w L
 off:∀x∈L,¬c.mine nv x.1/\w0.heap.size<=x.1
theorem Pz.of {c:PC} {n:Nat} {v:VS} {e d:aA} {w0 w:aj} {L:List (Nat×List aA)} (h:Wk c n v e w0 d w L) (f:PsAt c n v e w0) (g:∀x∈L,w0.heap.size<=x.1):Pz c (c.cells n v d) v.o.length v.o.length v.look (fun x=>v.o.count x) d v.m e w0 L w :=
 ⟨f.ok,f.low,h.p.bk,h.p.tk,h.p.ops,h.p.vm,h.p.om,h.p.nm,h.s,⟨fun x a=>h.b.bk x (List.mem_append_left _ a),by have:=h.b.ord;rw [bv,List.pairwise_append] at this;exact this.1⟩,fun x a=>⟨h.off x a,g x a⟩⟩
theorem Pz.keep {c:PC} {x:List aA} {d b:Nat} {f:List UInt8->Option Nat} {e:Nat->Nat} {g:aA} {m:List (List UInt8×Nat)} {i:aA} {w0 w w':aj} {L:List (Nat×List aA)} (h:Pz c x d b f e g m i w0 L w) (a:ay w.heap.size w w'):Pz c x d b f e g m i w0 L w' :=
 ⟨h.ok,h.low,h.bk.call a,jW h.tk (a.block _ (by have:=h.ok.gl;have:=h.ok.p1;have:=h.low;have:=h.s.size;omega)),h.ops.below a,h.vm.keep (a.block _ h.vm.lt),h.om.keep (a.block _ h.om.lt),iq h.nm fun k j=>a.block k (h.nm.lt k j).2,h.s.trans (.of a),h.bs.call a,h.off⟩
theorem Pz.turn {c:PC} {x:List aA} {t r:Nat} {v:List UInt8->Option Nat} {u:Nat->Nat} {l:aA} {m:List (List UInt8×Nat)} {p:aA} {w0 w w':aj} {L:List (Nat×List aA)} (h:Pz c x t r v u l m p w0 L w) {b:Nat} (j:c.mine l b) (a:w.grownBy w' (some b)) :
  yF w' c.g c.E.T/\OpsAt w' c.OA c.E.P/\Stp c p w0 l w'/\Bks w' L/\∀k,k<w.heap.size->k≠b->w'.heap[k]? = w.heap[k]?:=by
 have d:∀k,k<w.heap.size->k≠b->w'.heap[k]? = w.heap[k]?:=fun k f i=>a.block k f fun e=>i (by injection e)
 have C:=h.s.size
 have f:=h.ok.p1
 have i:=h.ok.v1
 have z:=h.ok.o1
 have B:=h.low
 have A:c.B1<=b:=by
  rcases j with e | e | e | e
  ·omega
  ·omega
  ·omega
  ·have:=(h.nm.lt b e).1;omega
 refine ⟨jW h.tk (d _ (by have:=h.ok.gl;omega) (by have:=h.ok.gl;omega)),lK h.ops a.size (fun n k q e=>d k (by have:=h.ok.ob n k q e;omega) (by have:=h.ok.ob n k q e;omega)),h.s.trans ⟨a.os,a.tape,a.output,a.size,fun k f i=>d k f (fun e=>i (e ▸ j)),fun _ h=>.inl h⟩,h.bs.keep fun y o=>d _ (h.bs.bk y o).lt (fun e=>(h.off y o).1 (e ▸ j)),d⟩
theorem Pz.cell {c:PC} {x:List aA} {d b:Nat} {g:List UInt8->Option Nat} {f:Nat->Nat} {l:aA} {m:List (List UInt8×Nat)} {n:aA} {w0 w:aj} {L:List (Nat×List aA)} (h:Pz c x d b g f l m n w0 L w) (i:Nat) (u:aA):Pz c (x.set i u) d b g f l m n w0 L (w.setCell ⟨c.P,i,none⟩ u):=by
 have s:w.grownBy (w.setCell ⟨c.P,i,none⟩ u) (some c.P):=⟨rfl,rfl,rfl,by simp,fun k _ a=>bd _ _ _ _ (fun e=>a (by rw [e]))⟩
 obtain ⟨o,p,q,r,a⟩:=h.turn (.inl rfl) s
 exact ⟨h.ok,h.low,h.bk.set i u,o,p,h.vm.keep (a _ h.vm.lt (fun e=>h.ok.pv e.symm)),h.om.keep (a _ h.om.lt (fun e=>h.ok.po e.symm)),iq h.nm (fun k j=>a k (h.nm.lt k j).2 (by have:=(h.nm.lt k j).1;have:=h.ok.p1;omega)),q,r,h.off⟩
theorem Pz.vput {c:PC} {x:List aA} {n d b:Nat} {o f:List UInt8->Option Nat} {g:Nat->Nat} {j:aA} {m:List (List UInt8×Nat)} {l:aA} {w0 w w':aj} {L:List (Nat×List aA)} (h:Pz c x n d o g j m l w0 L w) (u:NumMap ah 9 2 w' c.V b f) (t:w.grownBy w' (some c.V)):Pz c x b d f g j m l w0 L w':=by
 obtain ⟨p,q,r,s,a⟩:=h.turn (.inr (.inl rfl)) t
 exact ⟨h.ok,h.low,h.bk.keeps (a _ h.bk.lt h.ok.pv),p,q,u,h.om.keep (a _ h.om.lt (fun e=>h.ok.vo e.symm)),iq h.nm (fun k i=>a k (h.nm.lt k i).2 (by have:=(h.nm.lt k i).1;have:=h.ok.v1;omega)),r,s,h.off⟩
theorem Pz.oput {c:PC} {x:List aA} {d l b:Nat} {f:List UInt8->Option Nat} {n e:Nat->Nat} {i:aA} {m:List (List UInt8×Nat)} {j:aA} {w0 w w':aj} {L:List (Nat×List aA)} (h:Pz c x d l f n i m j w0 L w) (t:CntMap ah 2 3 w' c.O b e) (s:w.grownBy w' (some c.O)):Pz c x d b f e i m j w0 L w':=by
 obtain ⟨o,p,q,r,a⟩:=h.turn (.inr (.inr (.inl rfl))) s
 exact ⟨h.ok,h.low,h.bk.keeps (a _ h.bk.lt h.ok.po),o,p,h.vm.keep (a _ h.vm.lt h.ok.vo),t,iq h.nm (fun k g=>a k (h.nm.lt k g).2 (by have:=(h.nm.lt k g).1;have:=h.ok.o1;omega)),q,r,h.off⟩
theorem Pz.grow {c:PC} {x:List aA} {u t:Nat} {z:List UInt8->Option Nat} {v:Nat->Nat} {i l:aA} {m:List (List UInt8×Nat)} {C:aA} {w0 w w':aj} {L:List (Nat×List aA)} (h:Pz c x u t z v i m C w0 L w) (p:List UInt8×Nat)
  (E:w'.ownsRow c.lo 103 2 l (m.length+1) (gZ m++[aa ⟨p.1.toArray⟩,ab ae (p.2:Int)])) (g:w.grownBy w' i.ownBlock) (A:l.ownBlock=i.ownBlock\/l.ownBlock=some w.heap.size):Pz c x u t z v l (m++[p]) C w0 L w':=by
 have f:∀k,k<w.heap.size->i.ownBlock≠some k->w'.heap[k]? = w.heap[k]?:=fun k q n=>g.block k q fun e=>n e.symm
 have j:∀k,k<c.lo->i.ownBlock≠some k:=fun k q n=>by have:=(h.nm.lt k n).1;omega
 have I:=h.s.size
 have q:=h.ok.p1
 have n:=h.ok.v1
 have G:=h.ok.o1
 have H:=h.low
 have F:Stp c i w l w':=⟨g.os,g.tape,g.output,g.size,fun b d r=>f b d (fun e=>r (.inr (.inr (.inr e)))),fun b d=>by
  rcases A with e | e
  ·rw [e] at d;exact .inl d
  ·rw [e] at d;injection d with d;exact .inr (by omega)⟩
 refine ⟨h.ok,h.low,h.bk.keeps (f _ h.bk.lt (j _ (by omega))),jW h.tk (f _ (by have:=h.ok.gl;omega) (j _ (by have:=h.ok.gl;omega))),lK h.ops g.size (fun B k D e=>f k (by have:=h.ok.ob B k D e;omega) (j _ (by have:=h.ok.ob B k D e;omega))),h.vm.keep (f _ h.vm.lt (j _ (by omega))),h.om.keep (f _ h.om.lt (j _ (by omega))),?_,h.s.trans F,h.bs.keep fun y a=>f _ (h.bs.bk y a).lt (fun e=>(h.off y a).1 (.inr (.inr (.inr e)))),fun y a=>⟨fun r=>?_,(h.off y a).2⟩⟩
 ·unfold gZ at *
  rw [List.flatMap_append,List.length_append]
  exact E
 ·rcases r with e | e | e | e
  ·exact (h.off y a).1 (.inl e)
  ·exact (h.off y a).1 (.inr (.inl e))
  ·exact (h.off y a).1 (.inr (.inr (.inl e)))
  ·rcases A with o | o
   ·rw [o] at e;exact (h.off y a).1 (.inr (.inr (.inr e)))
   ·rw [o] at e;injection e with e
    have:=(h.bs.bk y a).lt;omega
theorem Pz.back {c:PC} {n:Nat} {v:VS} {a:aA} {A:aA} {w0 w:aj} {L:List (Nat×List aA)} {b d:Nat} {f:List UInt8->Option Nat} {e:Nat->Nat} {m:List (List UInt8×Nat)} {x:List aA} (h:Pz c x b d f e a m A w0 L w) (z:x=c.cells n v a) (g:b<=v.o.length) (i:d<=v.o.length) (l:f=v.look) (k:e=fun x=>v.o.count x) (p:m=v.m) (q:n<c.E.T.length) (y:v.o.length<=n) (u:v.Ok):PsAt c n v a w:=by
 subst z l k p
 have t:CntMap ah 2 3 w c.O v.o.length (fun x=>v.o.count x):=by
  obtain ⟨D,r,j⟩:=h.om;exact ⟨D,r.mono i,j⟩
 exact ⟨h.ok,aH h.low h.s.size,h.bk,h.tk,h.ops,h.vm.mono g,t,h.nm,q,y,u⟩
theorem Pz.put4 {c:PC} {x:List aA} {v u:Nat} {B:List UInt8->Option Nat} {A:Nat->Nat} {t:aA} {m:List (List UInt8×Nat)} {D:aA} {w0 w:aj} {L:List (Nat×List aA)} (h:Pz c x v u B A t m D w0 L w) (j:Nat) {g:Nat} {u0 u1 u2 u3:aA} (r:L[j]? = some (g,[u0,u1,u2,u3])) (d f i l:aA) :
  Pz c x v u B A t m D w0 (L.set j (g,[d,f,i,l])) ((((w.setCell ⟨g,0,none⟩ d).setCell ⟨g,1,none⟩ f).setCell ⟨g,2,none⟩ i).setCell ⟨g,3,none⟩ l):=by
 have p:=h.bs.set4 j r d f i l
 have q:=h.off _ (List.mem_of_getElem? r)
 have a:∀k,k≠g->((((w.setCell ⟨g,0,none⟩ d).setCell ⟨g,1,none⟩ f).setCell ⟨g,2,none⟩ i).setCell ⟨g,3,none⟩ l).heap[k]? = w.heap[k]?:=fun k a=>by
  rw [bd _ _ _ _ a,bd _ _ _ _ a,bd _ _ _ _ a,bd _ _ _ _ a]
 have o:∀k,c.mine t k->k≠g:=fun k n e=>q.1 (e ▸ n)
 have C:∀k,k<c.B1->k≠g:=fun k n e=>by have:=q.2;have:=h.low;have:=h.ok.p1;simp only at *;omega
 refine ⟨h.ok,h.low,h.bk.keeps (a _ (o _ (.inl rfl))),jW h.tk (a _ (C _ h.ok.gl)),lK h.ops (by simp) (fun F b I e=>a b (C b (h.ok.ob F b I e))),h.vm.keep (a _ (o _ (.inr (.inl rfl)))),h.om.keep (a _ (o _ (.inr (.inr (.inl rfl))))),iq h.nm (fun b p=>a b (o b (.inr (.inr (.inr p))))),⟨h.s.os,h.s.tape,h.s.output,by simpa using h.s.size,fun b E n=>(a b (by have:=q.2;simp only at *;omega)).trans (h.s.block b E n),h.s.own⟩,p,fun y G=>?_⟩
 obtain ⟨z,H,e⟩:=Ay [d,f,i,l] r y G
 rw [<-e];exact h.off z H
theorem xp {B:Nat} {w0 w:aj} (h:ay B w0 w) (g:Nat) (a:B<=g) (x y z u:aA):ay B w0 ((((w.setCell ⟨g,0,none⟩ x).setCell ⟨g,1,none⟩ y).setCell ⟨g,2,none⟩ z).setCell ⟨g,3,none⟩ u) :=
 (((h.setCell (p:=⟨_,_,none⟩) a _).setCell (p:=⟨_,_,none⟩) a _).setCell (p:=⟨_,_,none⟩) a _).setCell (p:=⟨_,_,none⟩) a _
theorem Ff:(Tryz.prog.info? 103).map (fun i=>(i.zero,i.size,i.bytes))=some (some (aN #[aa ⟨#[]⟩,ab ae 0]),2,24):=by kernel_rfl
theorem qR {w W:aj} {r:Array Oper} {rest:List Oper} {o:Oper} {a:Act} {Q:Exit->Act->aj->Prop} (v:o.guard=none) (s x:Operand)
  (B:o.op=.call { callee:=.builtin .append,args:=#[s,x],argTypes:=#[55,55] }) {c:PC} {xs:List aA} {g f:Nat} {l:List UInt8->Option Nat} {k:Nat->Nat} {e:aA} {m:List (List UInt8×Nat)} {q:aA} {w0:aj} {L:List (Nat×List aA)} (h:Pz c xs g f l k e m q w0 L W) (D:a.eval s=e)
  (p:List UInt8×Nat) (E:w=W.alloc (.cells #[aa ⟨p.1.toArray⟩,ab ae (p.2:Int)] 103)) (F:a.eval x=.slice (some ⟨W.heap.size,0,none⟩) 1 1) (M:m.length<=100000)
  (K:∀d w',Hid (Pz c xs g f l k d (m++[p]) q w0 L w')->dW ah r Q rest (a.put o.dst d) w'):dW ah r Q (o::rest) a w:=by
 obtain ⟨i,A,G,H,I⟩:=info_parts Ff
 subst E
 have t:ay W.heap.size W (W.alloc (.cells #[aa ⟨p.1.toArray⟩,ab ae (p.2:Int)] 103)):=(ak _ _).alloc (ag _) _
 have n:=h.keep t
 have J:c.lo<=W.heap.size:=aH h.low h.s.size
 refine gs _ v s x 55 B c.lo 103 i _ 2 24 Tryz.underlying55 A G H I rfl (by decide) e m.length (gZ m) D n.nm ⟨W.heap.size,0,none⟩ 1 1 [aa ⟨p.1.toArray⟩,ab ae (p.2:Int)] F rfl ?_ (by
   intro y b
   simp only [bi,bV,or_false] at b
   rcases b with rfl|rfl <;> rfl) (by unfold bc;omega) (by omega) (by simp;omega) ?_
 ·intro j y b
  rw [iM]
  have:=aq W #[aa ⟨p.1.toArray⟩,ab ae (p.2:Int)] 103 j
  rw [show 0+j=j by omega,this]
  simpa using b
 ·intro d w' C z _ u
  exact K d w' (zq (n.grow p C z u))
theorem VS.step_look (v:VS) (x:List UInt8):(v.step x).look=if v.old x=true\/x=[95] then v.look else qT v.look x (some v.c):=by
 funext y
 by_cases h:v.old x=true\/x=[95]
 ·rw [if_pos h]
  unfold VS.look VS.step
  simp only [h,if_true]
 ·rw [if_neg h]
  have b:¬x=[95]:=fun e=>h (.inr e)
  have a:v.look x=none:=by
   cases hk:v.look x with
   | none=>rfl
   | some k=>exact absurd (.inl (by unfold VS.old;simp [b,hk])) h
  have:=VS.look_snoc v x v.c (v.step x).c (v.step x).o a y
  unfold qT
  rw [<-this]
  unfold VS.look VS.step
  simp only [h,if_false]
theorem sX (v:VS) (x:List UInt8):qT (fun y=>v.o.count y) (v.num x) (v.o.count (v.num x)+1)=fun y=>(v.step x).o.count y:=by
 funext y
 unfold qT VS.step
 simp only [List.count_append,List.count_singleton]
 by_cases e:y=v.num x
 ·subst e;simp
 ·rw [if_neg e];simp;exact fun h=>e h.symm
theorem DL (n:Int) (a:0<=n/\n<=1099511627776) (w:aj):aG ah 182 #[ab ae n] w fun e w'=>e=av (aN #[ab ae 0,ab ae n,aa ⟨#[]⟩,.slice none 0 0])/\ay w.heap.size w w':=by
 have f:∀W:aj,aG ah 209 #[ab ae n] W fun e w'=>e=av (an true)/\ay W.heap.size W w':=fun W=>by
  have j:decide (0<=n)=true:=decide_eq_true a.1
  have k:decide (n<=1099511627776)=true:=decide_eq_true a.2
  clear a
  go_enter Tryz.func209,Tryz.ntmps209
  go_wp2_with fail
  go_ret
  exact ⟨rfl,ak _ _⟩
 have h:=zq f
 have b:=zq ((ak w.heap.size w).alloc (ag _) (.cells #[ab ae 0,ab ae 0,aa ⟨#[]⟩,.slice none 0 0] 24))
 have g:=zq ((Bks.nil w).new [ab ae 0,ab ae 0,aa ⟨#[]⟩,.slice none 0 0] 24 rfl)
 clear a f
 go_enter Tryz.func182,Tryz.ntmps182
 go_wp2_with fail
 refine (h.out _).mono ?_;rintro e l ⟨rfl,d⟩
 have c:=(g.out.call d).all
 simp only [aU,aW,ap,ar,and_true] at c
 have i:=b.out.trans (d.mono b.out.size)
 go_wp2_with fail
 refine aw (v:=aN #[ab ae 0,ab ae n,aa ⟨#[]⟩,.slice none 0 0]) (by simp [results,Tryz.results182,go_sem,c]) rfl ⟨rfl,?_⟩
 exact xp i _ (ag _) _ _ _ _
theorem IK (w:aj):(zeroValue 2).run ah w=.ok (ab ae 0) w:=by kernel_rfl
theorem It (w:aj):(zeroValue 3).run ah w=.ok (ab ae 0) w:=by kernel_rfl
theorem xi {c:PC} {n:Nat} {v:VS} {nv:aA} {w:aj} (p:PsAt c n v nv w) (t:ByteArray) (ht:t.size<=20000) (hn:v.o.length<n):aG ah 155 #[ax (some ⟨c.P,0,none⟩),aa t] w fun e w'=>e=av (aN #[ab ae 0,ab ae (v.num t.data.toList:Nat),aa ⟨#[]⟩,.slice none 0 0])/\∃i,PsAt c n (v.step t.data.toList) i w'/\Stp c nv w i w':=by
 have a7:v.o.length<=20000:=by have:=p.n1;have:=p.ok.len;omega
 have b3:v.c<=20000:=by have:=p.vc.co;omega
 have b4:v.m.length<=20000:=by have:=p.vc.mo;omega
 have c0:=VS.num_le p.vc t.data.toList
 have hK:v.num t.data.toList<=20000:=by omega
 have h0:=Pz.of ((Wk.start p).new [ab ae 0,ab ae 0,aa ⟨#[]⟩,.slice none 0 0] 24 rfl) p (by intro x a;rw [aJ] at a;subst a;exact ag _)
 obtain ⟨lc,lb,M,b2⟩:=h0.vm.look ci Tryz.underlying93 fa t (by unfold bc;omega) (IK _)
 obtain ⟨W0,Z⟩:=lz (w.alloc (.cells #[ab ae 0,ab ae 0,aa ⟨#[]⟩,.slice none 0 0] 24))
 have g:=zq h0
 rw [<-Z.out] at g M
 have R:=zq a7
 have J:=zq b3
 have b7:=zq b4
 have HK:=zq hK
 have a2:=zq (⟨p.n1,hn,p.vc⟩:n<c.E.T.length/\v.o.length<n/\v.Ok)
 have Q:=zq b2
 have I:Hid ((t.toList==[95])=decide (t.data.toList=[95])):=zq (by rw [eC];by_cases h:t.data.toList=[95] <;> simp [h])
 have b1:∀(W:aj) (f:Nat->Nat) (N:Nat),CntMap ah 2 3 W c.O N f->N<=20000->f (v.num t.data.toList)<=20000->(Instr.lookup 94 (.map (some c.O)) (ab ae (v.num t.data.toList:Nat)) false).run ah W=.ok (ab ae (f (v.num t.data.toList):Nat)) W/\∃W',(Instr.mapUpdate 94 (.map (some c.O)) (ab ae (v.num t.data.toList:Nat)) (ab ae ((f (v.num t.data.toList):Nat)+1:Int))).run ah W=.ok () W'/\CntMap ah 2 3 W' c.O (N+1) (qT f (v.num t.data.toList) (f (v.num t.data.toList)+1))/\W.grownBy W' (some c.O):=fun W f N h h1 h2=>
  ⟨h.look fa Tryz.underlying94 dL _ (by omega) (It _),h.put fa Tryz.underlying94 dL _ (f (v.num t.data.toList)+1) (by omega) (by unfold bc;omega) (by omega)⟩
 have a3:=zq b1
 have b0:v.o.count (v.num t.data.toList)<=20000:=aH List.count_le_length a7
 have G:=zq b0
 clear a7 b3 b4 c0 hK h0 b2 b1 b0 p hn
 have a4:Hid (∀(N1 N2:Nat) (fV:List UInt8->Option Nat) (fO:Nat->Nat) (i:aA) (m:List (List UInt8×Nat)) (x:List aA) (W:aj) (L:List (Nat×List aA)),Pz c x N1 N2 fV fO i m nv w L W->x=c.cells n (v.step t.data.toList) i->N1<=v.o.length+1->N2<=v.o.length+1->fV=(v.step t.data.toList).look->fO=(fun y=>(v.step t.data.toList).o.count y)->m=(v.step t.data.toList).m->∃i,PsAt c n (v.step t.data.toList) i W/\Stp c nv w i W):=zq fun N1 N2 fV fO i m x W L h a h1 h2 hV hO hm=>
  ⟨i,h.back a (by rw [VS.step_len];exact h1) (by rw [VS.step_len];exact h2) hV hO hm a2.out.1 (by rw [VS.step_len];exact a2.out.2.1) (VS.step_ok a2.out.2.2 _),h.s⟩
 by_cases b:v.old t.data.toList=true
 ·obtain ⟨a,k,K⟩:=VS.look_old b
  have a1:(t.toList==[95])=false:=by rw [I.out];simpa using a
  obtain ⟨rfl,rfl⟩:=Q.out a
  have j:v.num t.data.toList=k:=by unfold VS.num;rw [if_neg a,K];rfl
  have e1:(v.look t.data.toList).isSome=true:=by rw [K];rfl
  have e2:(v.look t.data.toList).getD 0=v.num t.data.toList:=by rw [K,j];rfl
  rw [e1,e2] at M
  have d:Hid ((v.step t.data.toList).c=v.c/\(v.step t.data.toList).m=v.m/\(v.step t.data.toList).look=v.look):=zq ⟨by unfold VS.step;simp [b],by unfold VS.step;simp [b],by rw [VS.step_look,if_pos (.inl b)]⟩
  have C:=Z.out
  clear Q I b a K j e1 e2
  have r:=g.out.bk.all0
  simp only [PC.cells,bD,bE,aW,ap,ar,and_true] at r
  obtain ⟨D,c3,F,B,A⟩:=a3.out W0 _ _ g.out.om (by have:=R.out;omega) G.out
  have b5:=zq (g.out.oput B A)
  have a0:wrap64 ((v.o.count (v.num t.data.toList):Int)+1)=(v.o.count (v.num t.data.toList):Int)+1:=mA (by have:=G.out;omega)
  clear B A
  go_enter Tryz.func155,Tryz.ntmps155
  go_upto_region 1 with fail
  rw [<-C]
  clear C
  go_wp2_with fail
  clear r M D F
  refine (DL (v.num t.data.toList:Nat) (by have:=HK.out;omega) _).mono ?_;rintro e wl ⟨rfl,z⟩
  have q:=zq (b5.out.keep z)
  clear z
  have u:=q.out.bs.all
  simp only [aU,aW,ap,ar,and_true] at u
  go_wp2_with fail
  refine aw (v:=aN #[ab ae 0,ab ae (v.num t.data.toList:Nat),aa ⟨#[]⟩,.slice none 0 0]) (by simp [results,Tryz.results155,go_sem,u]) rfl ⟨rfl,?_⟩
  have X:=q.out.put4 0 rfl (ab ae 0) (ab ae (v.num t.data.toList:Nat)) (aa ⟨#[]⟩) (.slice none 0 0)
  exact a4.out _ _ _ _ _ _ _ _ _ X (by unfold PC.cells;rw [d.out.1]) (dc _) (ag _) d.out.2.2.symm (sX v _) d.out.2.1.symm
 by_cases a:t.data.toList=[95]
 ·have a1:(t.toList==[95])=true:=by rw [I.out];simpa using a
  have c1:(t.toList != [95])=false:=by simp [bne,a1]
  have j:v.num t.data.toList=v.c:=by unfold VS.num;rw [if_pos a]
  have d:Hid ((v.step t.data.toList).c=v.c+1/\(v.step t.data.toList).m=v.m/\(v.step t.data.toList).look=v.look):=zq ⟨by unfold VS.step;simp [b],by unfold VS.step;simp [a],by rw [VS.step_look,if_pos (.inr a)]⟩
  have C:=Z.out
  have b8:wrap64 ((v.c:Int)+1)=(v.c:Int)+1:=mA (by have:=J.out;omega)
  obtain ⟨w2,a6,V,U⟩:=(g.out.cell 6 (ab ae ((v.c:Int)+1))).vm.put ci Tryz.underlying93 fa t v.c (by unfold bc;omega) (by have:=R.out;unfold bc;omega) (by have:=J.out;omega)
  have l:=zq ((g.out.cell 6 (ab ae ((v.c:Int)+1))).vput V U)
  clear V U
  rw [if_pos a] at l
  have r:=g.out.bk.all0
  simp only [PC.cells,bD,bE,aW,ap,ar,and_true] at r
  have S:=l.out.bk.all0
  simp only [PC.cells,bD,bE,aW,ap,ar,and_true] at S
  obtain ⟨D,c4,F,B,A⟩:=a3.out w2 _ _ l.out.om (by have:=R.out;omega) G.out
  have H:=zq (l.out.oput B A)
  have a0:wrap64 ((v.o.count (v.num t.data.toList):Int)+1)=(v.o.count (v.num t.data.toList):Int)+1:=mA (by have:=G.out;omega)
  clear B A
  rw [j] at D F a0
  have Y:=zq j
  clear Q I b a j
  cases lb
  all_goals
   go_enter Tryz.func155,Tryz.ntmps155
   go_upto_region 1 with fail
   rw [<-C]
   clear C
   go_wp2_with fail
   clear r S M D F a6
   refine (DL (v.c:Nat) (by have:=J.out;omega) _).mono ?_;rintro e wl ⟨rfl,z⟩
   have q:=zq (H.out.keep z)
   clear z
   have u:=q.out.bs.all
   simp only [aU,aW,ap,ar,and_true] at u
   go_wp2_with fail
   refine aw (v:=aN #[ab ae 0,ab ae (v.c:Nat),aa ⟨#[]⟩,.slice none 0 0]) (by simp [results,Tryz.results155,go_sem,u]) rfl ⟨by rw [Y.out],?_⟩
   have X:=q.out.put4 0 rfl (ab ae 0) (ab ae (v.c:Nat)) (aa ⟨#[]⟩) (.slice none 0 0)
   exact a4.out _ _ _ _ _ _ _ _ _ X (by unfold PC.cells;rw [d.out.1];rfl) (ag _) (ag _) d.out.2.2.symm (sX v _) d.out.2.1.symm
 have a1:(t.toList==[95])=false:=by rw [I.out];simpa using a
 have c1:(t.toList != [95])=true:=by simp [bne,a1]
 have a5:v.look t.data.toList=none:=by
  cases K:v.look t.data.toList with
  | none=>rfl
  | some k=>exact absurd (by unfold VS.old;simp [a,K]) b
 obtain ⟨rfl,rfl⟩:=Q.out a
 rw [a5] at M
 have j:v.num t.data.toList=v.c:=by unfold VS.num;rw [if_neg a,a5];rfl
 have d:Hid ((v.step t.data.toList).c=v.c+1/\(v.step t.data.toList).m=v.m++[(t.data.toList,v.c)]/\(v.step t.data.toList).look=qT v.look t.data.toList (some v.c)):=zq ⟨by unfold VS.step;simp [b],by unfold VS.step;simp [b,a],by rw [VS.step_look,if_neg (by simp [b,a])]⟩
 have C:=Z.out
 have b8:wrap64 ((v.c:Int)+1)=(v.c:Int)+1:=mA (by have:=J.out;omega)
 obtain ⟨w2,a6,V,U⟩:=(g.out.cell 6 (ab ae ((v.c:Int)+1))).vm.put ci Tryz.underlying93 fa t v.c (by unfold bc;omega) (by have:=R.out;unfold bc;omega) (by have:=J.out;omega)
 have l:=zq ((g.out.cell 6 (ab ae ((v.c:Int)+1))).vput V U)
 clear V U
 rw [if_neg a] at l
 have r:=g.out.bk.all0
 simp only [PC.cells,bD,bE,aW,ap,ar,and_true] at r
 have S:=l.out.bk.all0
 simp only [PC.cells,bD,bE,aW,ap,ar,and_true] at S
 have Y:=zq j
 clear Q I b a j a5
 go_enter Tryz.func155,Tryz.ntmps155
 go_upto_region 1 with fail
 rw [<-C]
 clear C
 go_wp2_with (at_builtin;go_must (refine qR rfl _ _ rfl l.out rfl (t.data.toList,v.c) rfl rfl (by have:=b7.out;omega) ?_;intro c2 w3 H;(obtain ⟨A3,k3,rfl⟩:=jQ H.out.nm);(obtain ⟨n3,b9⟩:∃n3,(v.m++[(t.data.toList,v.c)]).length=n3:=⟨_,rfl⟩);rw [b9] at H |-;have a8:=zq (H.out.cell 7 (.slice A3 n3 k3));(obtain ⟨D,c5,F,B,A⟩:=a3.out (w3.setCell ⟨c.P,7,none⟩ (.slice A3 n3 k3)) _ _ a8.out.om (by have:=R.out;omega) G.out);have b6:=zq (a8.out.oput B A);have a0:wrap64 ((v.o.count (v.num t.data.toList):Int)+1)=(v.o.count (v.num t.data.toList):Int)+1:=mA (by have:=G.out;omega);rw [Y.out] at D F a0;clear B A;have a9:=H.out.bk.all0;simp only [PC.cells,bD,bE,aW,ap,ar,and_true] at a9))
 clear r S a9 M D F a6
 refine (DL (v.c:Nat) (by have:=J.out;omega) _).mono ?_;rintro e wl ⟨rfl,z⟩
 have q:=zq (b6.out.keep z)
 clear z
 have u:=q.out.bs.all
 simp only [aU,aW,ap,ar,and_true] at u
 go_wp2_with fail
 refine aw (v:=aN #[ab ae 0,ab ae (v.c:Nat),aa ⟨#[]⟩,.slice none 0 0]) (by simp [results,Tryz.results155,go_sem,u]) rfl ⟨by rw [Y.out],?_⟩
 have X:=q.out.put4 0 rfl (ab ae 0) (ab ae (v.c:Nat)) (aa ⟨#[]⟩) (.slice none 0 0)
 exact a4.out _ _ _ _ _ _ _ _ _ X (by unfold PC.cells;rw [d.out.1];rfl) (ag _) (ag _) d.out.2.2.symm (sX v _) d.out.2.1.symm
end Go.Proofs.YtgapnafkelokaaaGreatDoor
namespace Hb
open Go Go.RowKit
def xq (a:List Tm):RR (List Tm×Nat)->RR (List Tm×Nat)
 | .error k=>.error k
 | .ok (l,m)=>.ok (a++l,m)
theorem Ew (r:RR (List Tm×Nat)):xq [] r=r:=by cases r <;> rfl
theorem Ev (a b:List Tm) (r:RR (List Tm×Nat)):xq a (xq b r)=xq (a++b) r:=by
 cases r with
 | error k=>rfl
 | ok x=>simp [xq]
theorem BW (E:RE) (S:PT) (k n:Nat):rM E S (k+1) n=match S 999 n with
  | .error e=>.error e
  | .ok (t,_,m)=>if isP (E.at m) [44]=true then xq [t] (rM E S k (m+1)) else .ok ([t],m):=by
 rw [rM]
 cases S 999 n with
 | error e=>rfl
 | ok x=>
  simp only
  split
  ·cases rM E S k (x.2.2+1) <;> rfl
  ·rfl
end Hb
namespace Go.Proofs.YtgapnafkelokaaaGreatDoor
open Go.RowKit Hb
def TOut (c:PC) (n:Nat) (a:aA) (w0:aj) (r:RR (Tm×Int×Nat)) (e:Ending) (w':aj):Prop:=match r with
 | .error k=>Is c a w0 k e w'
 | .ok (t,p,m)=>n<m/\∃A cap nv',e=av (aF #[dR t A cap,ab ae p])/\PsAt c m (cq c.E.T m) nv' w'/\Stp c a w0 nv' w'/\TmsK (c.new nv' w0 w') w' A t.args
def LX (c:PC) (n:Nat) (a:aA) (w0:aj) (r:RR (List Tm×Nat)) (e:Ending) (w':aj):Prop:=match r with
 | .error k=>Is c a w0 k e w'
 | .ok (l,m)=>n<m/\∃A cap nv',e=av (.slice A l.length cap)/\PsAt c m (cq c.E.T m) nv' w'/\Stp c a w0 nv' w'/\TmsK (c.new nv' w0 w') w' A l
def BOut (c:PC) (n:Nat) (a:aA) (w0:aj) (r:RR (Tm×Nat)) (e:Ending) (w':aj):Prop:=match r with
 | .error k=>Is c a w0 k e w'
 | .ok (t,m)=>n<m/\∃A cap nv',e=av (dR t A cap)/\PsAt c m (cq c.E.T m) nv' w'/\Stp c a w0 nv' w'/\TmsK (c.new nv' w0 w') w' A t.args
def LZ (c:PC) (n:Nat) (a:aA) (w0:aj) (r:RR (Option Tm×Nat)) (e:Ending) (w':aj):Prop:=match r with
 | .error k=>Is c a w0 k e w'
 | .ok (some t,m)=>n<m/\∃A cap nv',e=av (aF #[dR t A cap,an true])/\PsAt c m (cq c.E.T m) nv' w'/\Stp c a w0 nv' w'/\TmsK (c.new nv' w0 w') w' A t.args
 | .ok (none,m)=>m=n/\e=av (aF #[aN #[ab ae 0,ab ae 0,aa ⟨#[]⟩,.slice none 0 0],an false])/\PsAt c n (cq c.E.T n) a w'/\Stp c a w0 a w'
def tm (c:PC) (S:PT) (k:Nat):Prop:=∀(most:Int) (n:Nat) (a:aA) (w:aj),k<=n->PsAt c n (cq c.E.T n) a w->aG ah 75 #[ax (some ⟨c.P,0,none⟩),ab ae most] w (TOut c n a w (S most n))
theorem PsAt.skip {c:PC} {n:Nat} {a:aA} {w:aj} (b:qK (c.E.at n)=false) (d:n<c.E.T.length) (p:PsAt c (n+1) (cq c.E.T n) a w):PsAt c (n+1) (cq c.E.T (n+1)) a w:=by rw [Gc d b];exact p
theorem rR {c:PC} {S:PT} {k n:Nat} {H:aA} {w:aj} (hS:tm c S k) (hk:k<=n) (p:PsAt c n (cq c.E.T n) H w) :
  aG ah 188 #[ax (some ⟨c.P,0,none⟩)] w (LX c n H w (pN c.E S n)):=by
 obtain ⟨R,W⟩:=lz (pN c.E S n)
 rw [<-W.out]
 have HS:=zq hS
 have b9:=zq (Wk.start p)
 have HK:=zq hk
 have b5:=zq p.ok.len
 clear p hS hk
 go_enter Tryz.func188,Tryz.ntmps188
 go_wp2_with fail
 go_loopw [3] (fun v3 wr=>∃(a:Nat) (I:aA) (rs:List TR) (j:Nat),n<=a/\(rs=[]\/n<a)/\c.E.T.length<=a+j/\rs.length<=a/\Hid (Wk c a (cq c.E.T a) H w I wr [])/\Hid (OwnT c I w wr [] v3 rs)/\Hid (R=xq (rs.map (·.1)) (rM c.E S j a))) (fun _ wr=>match wr.cell? ⟨c.P,1,none⟩ with | some (ab _ i)=>c.E.T.length-i.toNat | _=>0)
 case atStart=>exact ⟨n,H,[],c.E.T.length,ag _,.inl rfl,by omega,bj _,b9,zq (OwnT.nul _ _ _ _ _),zq (by rw [W.out,ek,Ew];rfl)⟩
 case round=>
  obtain ⟨a,I,rs,j,L,c6,hj,a8,q,C,u⟩:=hrel
  have a2:=q.out.p.n1
  obtain ⟨j,rfl⟩:∃i,j=i+1:=⟨j-1,by omega⟩
  obtain ⟨O,Z,c7,_⟩:=C.out.tms
  subst c7
  have v:=zq (HS.out 999 a I wr (aH HK.out L) q.out.p)
  have g:=zq (BW c.E S j a)
  have o:=zq (⟨L,hj,a8,a2⟩:_/\_/\_/\_)
  have a6:wr.cell? ⟨c.P,1,none⟩=some (ab ae (a:Int)):=q.out.p.bk.c 1 _ rfl
  have b7:=zq a6
  clear L c6 hj a8 a2 a6
  rcases hs:S 999 a with e | ⟨t,pr,m⟩
  ·rw [hs] at v g
   have z:Hid (R=.error e):=zq (by rw [u.out,g.out];rfl)
   rw [z.out]
   clear hs u g
   go_wp2_with fail
   refine v.out.mono ?_;rintro e l ⟨rfl,c5⟩
   exact ⟨rfl,rfl,q.out.fall c5⟩
  ·rw [hs] at v g
   clear hs
   go_wp2_with fail
   refine v.out.mono ?_;rintro e l ⟨a3,f,r,B,rfl,a4,M,a9⟩
   have V:=zq (q.out.step a4 M)
   have U:=zq (C.out.step M)
   have b3:=q.out.s.size
   have b0:TmsK (fun b=>(c.new B w l b/\b ∉ ([]:List Nat))/\(ex O rs.length Z).ownBlock≠some b) l f t.args:=a9.keep (fun _ _=>rfl) fun b d=>⟨⟨⟨aH b3 d.1,d.2⟩,by simp⟩,fun e=>by
    have:=(C.out.own.lt b e).2;have:=d.1;omega⟩
   have X:=zq b0
   have Q:=zq a3
   clear a4 M a9 b0 a3 v q C b3
   obtain ⟨wb,G⟩:=lz (l.alloc (.cells #[ab ae t.kind,ab ae t.num,aa t.name,.slice f t.args.length r] 24))
   have A:ay l.heap.size l wb:=by rw [G.out];exact (ak _ _).alloc (ag _) _
   have a0:Bk wb l.heap.size [ab ae t.kind,ab ae t.num,aa t.name,.slice f t.args.length r]:=by rw [G.out];exact Bk.new l _ _
   have F:=zq (V.out.call A)
   have J:=zq (U.out.call A)
   have Y:=zq (X.out.keep (fun b d=>A.block b d.1.1.2.1) fun b d=>(⟨⟨⟨d.1.1.1,aB d.1.1.2.1 A.size,d.1.1.2.2⟩,d.1.2⟩,d.2⟩:(c.new B w wb b/\b ∉ ([]:List Nat))/\(ex O rs.length Z).ownBlock≠some b))
   have cb:=a0.all0
   simp only [aW,ap,ar,and_true] at cb
   have c1:Hid (w.heap.size<=wb.heap.size):=zq F.out.s.size
   have c0:Hid (rs.length<=100000):=zq (by have:=o.out;have:=b5.out;omega)
   clear A a0 V U X
   unfold dR
   go_upto_region 3 with fail
   rw [<-G.out]
   clear G
   go_wp2_with (at_builtin;go_must (refine mu rfl _ _ rfl c m _ B w [] _ rs rfl J.out F.out.p c1.out (by simp) (t,f,r) Y.out _ rfl rfl rfl c0.out ?_;intro v4 w4 D b4;have h:=zq ((F.out.call ((ak _ _).alloc (ag _) (.cells (ir (t,f,r)).toArray 24))).grown (J.out.call ((ak _ _).alloc (ag _) (.cells (ir (t,f,r)).toArray 24))) (by simp) b4.out)))
   clear cb J Y F
   cases hc:isP (c.E.at m) [44]
   ·have z:Hid (R=.ok (rs.map (·.1)++[t],m)):=zq (by rw [u.out,g.out];simp only [hc];rfl)
    refine (jg h.out.p ⟨#[44]⟩ hc).mono ?_;rintro e w5 ⟨rfl,K⟩
    have y:=zq (h.out.call K)
    obtain ⟨A4,c4,c8,b1⟩:=(D.out.call K).tms
    have c2:=zq b1
    subst c8
    clear K h D u g hc b1
    go_wp2_with fail
    go_ret
    rw [z.out]
    exact ⟨Nat.lt_of_le_of_lt o.out.1 Q.out,A4,c4,B,by rw [show (rs.map (·.1)++[t]).length=rs.length+1 by simp];rfl,y.out.p,y.out.s,by have:=c2.out.out;rwa [bv] at this⟩
   ·have b2:=gf hc
    have a1:=h.out.p.more (mY hc)
    have z:Hid (R=xq ((rs++[((t,f,r):TR)]).map (·.1)) (rM c.E S j (m+1))):=zq (by rw [u.out,g.out];simp only [hc,if_true];rw [Ev,bv];rfl)
    refine (iG h.out.p ⟨#[44]⟩ hc).mono ?_;rintro e w5 ⟨rfl,a5,N⟩
    have y:=zq (h.out.step (PsAt.skip b2 h.out.p.n1 a5) N)
    have b6:=zq (D.out.step N)
    have a7:w5.cell? ⟨c.P,1,none⟩=some (ab ae ((m+1:Nat):Int)):=y.out.p.bk.c 1 _ rfl
    have b8:=zq a7
    have x:=zq (⟨Q.out,a1⟩:a<m/\m+1<c.E.T.length)
    clear a5 N h D u g hc b2 a1 a7
    go_wp2_with fail
    go_roundw
    case rel=>exact ⟨m+1,B,rs++[(t,f,r)],j,by have:=x.out;have:=o.out;omega,.inr (by have:=x.out;have:=o.out;omega),by have:=x.out;have:=o.out;omega,by have:=x.out;have:=o.out;simp;omega,y,b6,z⟩
    case measure=>rw [b8.out,b7.out];have:=x.out;have:=o.out;simp;omega
theorem GS {t:NextR} (h:opn t=true):isP t [40]=true:=by unfold opn at h;rw [Bool.and_eq_true] at h;exact h.1
theorem qA {c:PC} {S:PT} {k n:Nat} {K:aA} {w:aj} (hS:tm c S k) (hk:k<=n+1) (p:PsAt c n (cq c.E.T n) K w) (s:ByteArray) :
  aG ah 187 #[ax (some ⟨c.P,0,none⟩),aa s] w (LZ c n K w (ll c.E S s n)):=by
 obtain ⟨R,y⟩:=lz (ll c.E S s n)
 rw [<-y.out]
 have i:=zq ((Wk.start p).new [ab ae 0,ab ae 0,aa ⟨#[]⟩,.slice none 0 0] 24 rfl)
 have Q:=zq (jB i.out.p 0 (by decide))
 have D:=zq fun W=>xk (c.E.at n) W
 have Y:=zq fun nv' W (h:PsAt c (n+1) (cq c.E.T (n+1)) nv' W)=>rR hS hk h
 have X:=zq fun (A:Option Addr) (m r:Nat) (W:aj)=>jA s A m r W
 have O:=zq p.n1
 have N:=zq p.more
 rw [Nat.add_zero] at Q
 clear p
 cases ho:opn (c.E.at n)
 ·skip
  have f:Hid (R=.ok (none,n)):=zq (by rw [y.out];unfold ll;rw [if_neg (by rw [ho];simp)])
  rw [f.out]
  rw [ho] at D
  clear ho Y X O N y
  generalize c.E.at n=t at *
  unfold pC at *
  go_enter Tryz.func187,Tryz.ntmps187
  go_wp2_with fail
  refine (Q.out).mono ?_;rintro e w1 ⟨rfl,a⟩
  have x:=zq (i.out.call a)
  clear i
  clear a 
  go_wp2_with fail
  refine (D.out _).mono ?_;rintro e w3 ⟨rfl,a⟩
  have j:=zq (x.out.call a)
  clear x
  clear a 
  have z:=j.out.b.all
  simp only [PC.cells,ai,am,az,aU,aW,ap,ar,and_true] at z
  go_wp2_with fail
  have C:=j.out.put4 0 rfl (ab ae 0) (ab ae 0) (aa ⟨#[]⟩) (.slice none 0 0) (ag _)
  exact aw (v:=aF #[aN #[ab ae 0,ab ae 0,aa ⟨#[]⟩,.slice none 0 0],an false]) (by simp [results,Tryz.results187,go_sem,z]) rfl ⟨rfl,rfl,C.p,C.s⟩
 ·skip
  have M:=zq (GS ho)
  have HM:=zq (N.out (mY M.out))
  have a8:=zq (gf M.out)
  have u:Hid (R=match pN c.E S (n+1) with | .error e=>.error e | .ok (l,m)=>gK c.E [41] m (some (mw s l))):=zq (by rw [y.out];unfold ll;rw [if_pos ho];rfl)
  rw [ho] at D
  have a5:=zq (mA (n:=n) (by have:=i.out.p.ok.len;have:=O.out;omega))
  clear ho N y M
  unfold pC at *
  go_enter Tryz.func187,Tryz.ntmps187
  go_wp2_with fail
  refine (Q.out).mono ?_;rintro e w1 ⟨rfl,a⟩
  have x:=zq (i.out.call a)
  clear i
  clear a 
  go_wp2_with fail
  refine (D.out _).mono ?_;rintro e w3 ⟨rfl,a⟩
  have j:=zq (x.out.call a)
  clear x
  clear a 
  have z:=j.out.b.all
  simp only [PC.cells,ai,am,az,aU,aW,ap,ar,and_true] at z
  have hi:=a5.out
  go_wp2_with fail
  have I:=j.out.inc HM.out
  obtain ⟨wn,a1⟩:=lz (w3.setCell ⟨c.P,1,none⟩ (ab ae ((n:Int)+1)))
  rw [<-a1.out] at I |-
  have a4:=PsAt.skip a8.out O.out I.p
  have q:=zq (I.step a4 (Stp.refl c K wn))
  clear I a1 j z hi a4
  have G:=zq (Y.out K wn q.out.p)
  rcases d:pN c.E S (n+1) with e | ⟨l,m⟩
  ·skip
   rw [d] at G u
   clear d
   have f:Hid (R=.error e):=u
   refine G.out.mono ?_;rintro e w1 ⟨rfl,b0⟩
   refine ⟨rfl,?_⟩
   rw [f.out]
   exact ⟨rfl,q.out.fall b0⟩
  rw [d] at G u
  clear d
  have L:Hid (R=gK c.E [41] m (some (mw s l))):=u
  clear u
  refine (G.out).mono ?_;rintro e w6 ⟨a3,A,r,b2,rfl,B,d,J⟩
  have Z:=zq (Trm.sub (w0:=w) (F:=[w.heap.size]) J q.out.s.size (by intro b H;rw [aJ] at H;subst H;exact q.out.b.lt 0 rfl))
  have a6:=zq a3
  clear J a3
  have o:=zq (q.out.step B d)
  clear q
  clear B d
  cases hc:isP (c.E.at m) [41]
  ·skip
   have f:Hid (R=.error m):=zq (by rw [L.out];unfold gK;rw [hc];rfl)
   go_wp2_with fail
   refine (kK o.out.p ⟨#[41]⟩ hc).mono ?_;rintro e w9 ⟨rfl,b1⟩
   refine ⟨rfl,?_⟩
   rw [f.out]
   exact ⟨rfl,o.out.fall b1⟩
  have f:Hid (R=.ok (some (mw s l),m+1)):=zq (by rw [L.out];unfold gK;rw [hc];rfl)
  have a9:=zq (gf hc)
  clear L
  go_wp2_with fail
  refine (ka o.out.p ⟨#[41]⟩ hc).mono ?_;rintro e w8 ⟨rfl,B,d⟩
  have V:=zq (o.out.step (PsAt.skip a9.out o.out.p.n1 B) d)
  have a0:=zq (Z.out.step d)
  clear o Z
  clear B d
  go_wp2_with fail
  refine (X.out _ _ _ _).mono ?_;rintro e b3 ⟨rfl,a⟩
  have U:=zq (V.out.call a)
  have a7:=zq (a0.out.call a)
  clear V a0
  clear a 
  have a2:=U.out.b.all
  simp only [PC.cells,ai,am,az,aU,aW,ap,ar,and_true] at a2
  go_wp2_with fail
  have C:=U.out.put4 0 rfl (ab ae 3) (ab ae 0) (aa s) (.slice A l.length r) (ag _)
  have J:=a7.out.put (g:=w.heap.size) (by simp) (fun b H=>ce _ _ (ab ae 3) (ab ae 0) (aa s) (.slice A l.length r) b H) (by simp)
  refine aw (v:=aF #[aN #[ab ae 3,ab ae 0,aa s,.slice A l.length r],an true]) (by simp [results,Tryz.results187,go_sem,a2]) rfl ?_
  rw [f.out]
  exact ⟨by have:=a6.out;omega,A,r,b2,rfl,C.p,C.s,J.out⟩
end Go.Proofs.YtgapnafkelokaaaGreatDoor
