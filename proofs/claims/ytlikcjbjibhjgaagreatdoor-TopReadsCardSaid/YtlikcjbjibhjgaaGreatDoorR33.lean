/- Parts of the proof. -/
import Derived.Test.YtlikcjbjibhjgaaGreatDoorR01
import Derived.Test.YtlikcjbjibhjgaaGreatDoorR28
import Derived.Test.YtlikcjbjibhjgaaGreatDoorR12
import Derived.Test.YtlikcjbjibhjgaaGreatDoorR10
import Derived.Test.YtlikcjbjibhjgaaGreatDoorR11
import Derived.Test.YtlikcjbjibhjgaaGreatDoorR20
set_option maxHeartbeats 12800000
set_option maxRecDepth 100000
open Array renaming getElem?_eq_getElem -> bf, getElem?_eq_some_iff -> aM
open Bool renaming and_eq_true -> aF, or_eq_true -> eU, true_and -> dl
open Go renaming Calls -> aJ, Program -> dz, Value -> az, World -> ai, execOp -> aP
open Go.Ending renaming returned -> aw
open Go.IntKind renaming i64 -> ae
open Go.Proofs.Tryz renaming prog -> ah
open Go.Region renaming binds -> gX, ready -> iQ, wanted -> eQ
open Go.RowKit renaming Below -> ax
open Go.RowKit.Below renaming refl -> aj
open Go.Value renaming agg -> aN, bool -> am, int -> ab, pointer -> au, string -> aa
open List renaming all_eq_true -> bh, mem_range -> dx, mem_singleton -> aG, range -> aY
open Nat renaming le_refl -> ag
namespace Hb
open Go Go.RowKit
noncomputable def pW (g:Tm):Bool:=cd g&&Lv g (gy g)
theorem wm {t:Tm} (h:cd t=true):pW t=nG t (gy t):=by
 unfold pW Lv
 rw [h,dl,dl]
 cases he:nG t (gy t) with
 | false=>simp
 | true=>rw [<-oX.1 he,h];rfl
end Hb
namespace Go.Proofs.YtlikcjbjibhjgaaGreatDoor
open Go.RowKit Hb
theorem Bh (t:Tm) (A:Option Addr) (i:Nat) (w:ai) (hT:TmsAt w.heap.size w A t.args) (hv:cd t=true):aJ ah 11 #[er t A i] w fun e w'=>e=aw (am (pW t))/\ax w.heap.size w w':=by
 obtain ⟨q,W⟩:=lz (gy t)
 have Q:=zq hT
 have s:Hid (ax w.heap.size w (w.alloc (.cells #[ab ae t.kind,ab ae t.num,aa t.name,.slice A t.args.length i] 25))):=zq ((aj _ w).alloc (ag _) _)
 have x:Hid (Bks (w.alloc (.cells #[ab ae t.kind,ab ae t.num,aa t.name,.slice A t.args.length i] 25)) [(w.heap.size,[ab ae t.kind,ab ae t.num,aa t.name,.slice A t.args.length i])]):=zq ((Bks.nil w).new [ab ae t.kind,ab ae t.num,aa t.name,.slice A t.args.length i] 25 rfl)
 have a4:Hid (∀X,ax w.heap.size w X->aJ ah 8 #[aN #[ab ae t.kind,ab ae t.num,aa t.name,.slice A t.args.length i]] X fun e w'=>e=aw (am (cd t))/\ax X.heap.size X w'):=zq fun X m=>pC t A i X ((Q.out.keep m).mono m.size)
 have a2:Hid (∀X,ax w.heap.size w X->aJ ah 40 #[aN #[ab ae t.kind,ab ae t.num,aa t.name,.slice A t.args.length i]] X fun e w'=>∃a c,e=aw (aN #[ab ae q.kind,ab ae q.num,aa q.name,.slice a q.args.length c])/\ax X.heap.size X w'/\kk X w' a q.args):=zq fun X m=>by rw [W.out];exact EE t A i X ((Q.out.keep m).mono m.size)
 have a3:Hid (∀X a c,ax w.heap.size w X->TmsAt X.heap.size X a q.args->aJ ah 39 #[aN #[ab ae t.kind,ab ae t.num,aa t.name,.slice A t.args.length i],aN #[ab ae q.kind,ab ae q.num,aa q.name,.slice a q.args.length c]] X fun e w'=>e=aw (am (nG t q))/\ax X.heap.size X w'):=zq fun X a c m hq=>xz t q A a i c X ((Q.out.keep m).mono m.size) hq
 clear hT
 unfold er at *
 go_enter Tryz.func11,Tryz.ntmps11
 go_wp2_with fail
 obtain ⟨u,Z⟩:=lz ((w.alloc (.cells #[ab ae t.kind,ab ae t.num,aa t.name,.slice A t.args.length i] 25)))
 rw [<-Z.out] at s x |-
 clear Z
 rename_i K0 a0
 have R:=x.out.cell 0 0 rfl rfl
 have S:=x.out.cell 0 1 rfl rfl
 have T:=x.out.cell 0 2 rfl rfl
 have U:=x.out.cell 0 3 rfl rfl
 have l:w.heap.size<u.heap.size:=x.out.lt 0 rfl
 have a5:Hid (∀X,ax u.heap.size u X->aJ ah 8 #[aN #[ab ae t.kind,ab ae t.num,aa t.name,.slice A t.args.length i]] X fun e w'=>e=aw (am true)/\ax X.heap.size X w'):=zq fun X m=>by
  have h:=a4.out X (s.out.trans (m.mono s.out.size))
  rw [hv] at h
  exact h
 refine jN (w0:=u) [jn [] [0] (fun|[v]=>v=aN #[ab ae t.kind,ab ae t.num,aa t.name,.slice A t.args.length i]|_=>False),
   jn [0] [1] (fun|[v]=>v=am true|_=>False),
   cV [0,1] [2] (fun|[v]=>v=am true|_=>False),
   jn (aY 3) [3] (fun|[v]=>v=aN #[ab ae t.kind,ab ae t.num,aa t.name,.slice A t.args.length i]|_=>False),
   jn (aY 3) [4] (fun|[v]=>v=aN #[ab ae t.kind,ab ae t.num,aa t.name,.slice A t.args.length i]|_=>False),
   Oi [0,1,2,4] 5 u.heap.size q,
   GY (aY 6) [6] (fun|[v]=>v=am (nG t q)|_=>False) (fun _ _ _=>True) (fun _ _ _ _ _ _ _ _ _=>trivial),
   cV (aY 7) [7] (fun|[v]=>v=am (nG t q)|_=>False),
   cV (aY 8) [8] (fun|[v]=>v=am (nG t q)|_=>False)]
   [some 3,some 4,some 5,some 6,some 7,some 8,some 9,some 10,some 2] (fun _=>True) (u.heap.size) (by kernel_rfl) (ag _) (by kernel_rfl) (by kernel_rfl) (by kernel_rfl) (fun j o n=>?srv1) (fun val Y N r V=>?fin1)
 case srv1=>
   have a7:j<9:=(aM.1 n).1
   rcases (show j=0\/j=1\/j=2\/j=3\/j=4\/j=5\/j=6\/j=7\/j=8 by omega) with rfl|rfl|rfl|rfl|rfl|rfl|rfl|rfl|rfl
   ·cases n
    refine fI rfl rfl (fun _ _ _=>trivial) (fun val E X g k d=>?_)
    have z:=g.t 1 (au (some ⟨w.heap.size,0,none⟩)) rfl
    have D:X.cell? ⟨w.heap.size,0,none⟩=some (ab ae t.kind):=(k.cell (p:=⟨_,0,none⟩) l).trans R
    have F:X.cell? ⟨w.heap.size,1,none⟩=some (ab ae t.num):=(k.cell (p:=⟨_,1,none⟩) l).trans S
    have G:X.cell? ⟨w.heap.size,2,none⟩=some (aa t.name):=(k.cell (p:=⟨_,2,none⟩) l).trans T
    have H:X.cell? ⟨w.heap.size,3,none⟩=some (.slice A t.args.length i):=(k.cell (p:=⟨_,3,none⟩) l).trans U
    exact ⟨_,by simp [aP,go_sem,z,D,F,G,H],rfl⟩
   ·cases n
    refine ka rfl rfl (fun _ _ _=>trivial) (fun val E X g k d=>?_)
    have e3:=g.t 3 (val 0) rfl
    have I:val 0=_:=d 0 (oz rfl)
    exact ⟨_,_,_,by simp [aP,go_sem,g.f,e3,I] <;> rfl,a5.out X k,rfl⟩
   ·cases n
    refine bq rfl rfl (fun val E g d=>?_)
    have e4:=g.t 4 (val 1) rfl
    have J:val 1=_:=d 1 (oz rfl)
    exact ⟨_,fun X=>by simp [aP,go_sem,e4,J],rfl⟩
   ·cases n
    refine nR (true) rfl rfl (fun _ _ _=>trivial) (fun val d=>d 2 (oz rfl)) (fun _ val E X g k d=>?_) (fun h=>absurd rfl h)
    have z:=g.t 1 (au (some ⟨w.heap.size,0,none⟩)) rfl
    have D:X.cell? ⟨w.heap.size,0,none⟩=some (ab ae t.kind):=(k.cell (p:=⟨_,0,none⟩) l).trans R
    have F:X.cell? ⟨w.heap.size,1,none⟩=some (ab ae t.num):=(k.cell (p:=⟨_,1,none⟩) l).trans S
    have G:X.cell? ⟨w.heap.size,2,none⟩=some (aa t.name):=(k.cell (p:=⟨_,2,none⟩) l).trans T
    have H:X.cell? ⟨w.heap.size,3,none⟩=some (.slice A t.args.length i):=(k.cell (p:=⟨_,3,none⟩) l).trans U
    exact ⟨_,by simp [aP,go_sem,z,D,F,G,H],rfl⟩
   ·cases n
    refine nR (true) rfl rfl (fun _ _ _=>trivial) (fun val d=>d 2 (oz rfl)) (fun _ val E X g k d=>?_) (fun h=>absurd rfl h)
    have z:=g.t 1 (au (some ⟨w.heap.size,0,none⟩)) rfl
    have D:X.cell? ⟨w.heap.size,0,none⟩=some (ab ae t.kind):=(k.cell (p:=⟨_,0,none⟩) l).trans R
    have F:X.cell? ⟨w.heap.size,1,none⟩=some (ab ae t.num):=(k.cell (p:=⟨_,1,none⟩) l).trans S
    have G:X.cell? ⟨w.heap.size,2,none⟩=some (aa t.name):=(k.cell (p:=⟨_,2,none⟩) l).trans T
    have H:X.cell? ⟨w.heap.size,3,none⟩=some (.slice A t.args.length i):=(k.cell (p:=⟨_,3,none⟩) l).trans U
    exact ⟨_,by simp [aP,go_sem,z,D,F,G,H],rfl⟩
   ·cases n
    refine nS rfl rfl (fun val d=>d 2 (oz rfl)) fun val E X N g B d hc=>?_
    have e7:=g.t 7 (val 4) rfl
    have L:val 4=_:=d 4 (oz rfl)
    exact ⟨_,_,by simp [aP,go_sem,g.f,e7,L] <;> rfl,(a2.out X (s.out.trans (B.bel.mono s.out.size))).mono fun e w' h=>by
     obtain ⟨a,c,he,k,hN⟩:=h
     exact ⟨_,he,k,⟨a,c,rfl⟩,fun N' _ y=>⟨a,c,rfl,hN.keep (fun _ _=>rfl) (fun b C=>⟨y b C.1 C.2,Nat.le_trans B.bel.size C.1⟩)⟩⟩⟩
   ·cases n
    refine nS rfl rfl (fun val d=>d 2 (oz rfl)) fun val E X N g B d hc=>?_
    obtain ⟨a,c,M,ht⟩:∃a c,val 5=aN #[ab ae q.kind,ab ae q.num,aa q.name,.slice a q.args.length c]/\TmsK (fun b=>N b/\u.heap.size<=b) X a q.args:=hc 5 (oz rfl) rfl
    have e6:=g.t 6 (val 3) rfl
    have e8:=g.t 8 (val 5) rfl
    have K:val 3=_:=d 3 (oz rfl)
    exact ⟨_,_,by simp [aP,go_sem,g.f,e6,e8,K,M] <;> rfl,(a3.out X a c (s.out.trans (B.bel.mono s.out.size)) (TmsK.at' (ht.keep (fun _ _=>rfl) (fun b C=>B.lt b C.1)))).mono fun e w' h=>⟨_,h.1,h.2,rfl,fun _ _ _=>trivial⟩⟩
   ·cases n
    refine bq rfl rfl (fun val E g d=>?_)
    have e5:=g.t 5 (val 2) rfl
    have y:val 2=_:=d 2 (oz rfl)
    have e9:=g.t 9 (val 6) rfl
    have O:val 6=_:=d 6 (oz rfl)
    exact ⟨_,fun X=>by simp [aP,go_sem,g.c,e5,y,e9,O],rfl⟩
   ·cases n
    refine bq rfl rfl (fun val E g d=>?_)
    have a6:=g.t 10 (val 7) rfl
    have P:val 7=_:=d 7 (oz rfl)
    exact ⟨_,fun X=>by simp [aP,go_sem,a6,P],rfl⟩
 case fin1=>
  have I:val 0=aN #[ab ae t.kind,ab ae t.num,aa t.name,.slice A t.args.length i]:=r 0 (show 0<9 by decide)
  have J:val 1=am true:=r 1 (show 1<9 by decide)
  have y:val 2=am true:=r 2 (show 2<9 by decide)
  have K:val 3=aN #[ab ae t.kind,ab ae t.num,aa t.name,.slice A t.args.length i]:=r 3 (show 3<9 by decide)
  have L:val 4=aN #[ab ae t.kind,ab ae t.num,aa t.name,.slice A t.args.length i]:=r 4 (show 4<9 by decide)
  obtain ⟨_,_,M⟩:∃a c,val 5=aN #[ab ae q.kind,ab ae q.num,aa q.name,.slice a q.args.length c]:=r 5 (show 5<9 by decide)
  have O:val 6=am (nG t q):=r 6 (show 6<9 by decide)
  have P:val 7=am (nG t q):=r 7 (show 7<9 by decide)
  have h8:val 8=am (nG t q):=r 8 (show 8<9 by decide)
  have a1:=zq (s.out.trans (V.bel.mono s.out.size))
  refine a0 _ _ ?_
  simp only [jD,List.set_cons_zero,List.set_cons_succ,Nat.reduceAdd,Nat.zero_add,I,J,y,K,L,M,O,P,h8]
  clear r I J y K L M O P h8 a0 V
  go_wp2_with fail
  go_ret
  exact ⟨by rw [wm hv,<-W.out];rfl,a1.out⟩
end Go.Proofs.YtlikcjbjibhjgaaGreatDoor
namespace Hb
open Go Go.RowKit
theorem Hv {P:dz} {ops:Array Oper} {Q:Exit->Act->ai->Prop} (sp:List ROp) (BP:List az->Prop) (T:List az->ai->Prop) {w0:ai} {a0:Act} {B:Nat} (h:iC ops sp a0.tmps.size=true) (G:Serves P ops sp BP B w0 a0 T) :
  ∀S j o a X,ops[j]? = some o->S j=false->(∀e∈o.after,gX .any e=true->S e.on=true)->(∃val,RInv ops sp BP B w0 a0 T S a X val)->if eQ o (yielded ops a.tmps) then o.wp P a X (fun a X=>∃val,RInv ops sp BP B w0 a0 T (ik S j) a X val) Q else ∃val,RInv ops sp BP B w0 a0 T (ik S j) (a.put o.dst undef) X val:=by
 rintro S j o a X q r hp ⟨val,c⟩
 have U:=(aM.1 q).1
 have M:=fY h q
 have hr:∀d∈jx o,S d=true:=fun d hd=>by
  unfold jx at hd
  obtain ⟨e,y,rfl⟩:=List.mem_map.1 hd
  rw [List.mem_filter] at y
  exact hp e (by simpa using y.1) y.2
 have x:=vF h c.down q hr
 have a6:∀i∈(opAt sp j).A,(opAt sp i).vp (vals sp i val):=fun i g=>c.vps i (by have:=(M.anc i g).1;omega) (x i g)
 have V:∀i∈(opAt sp j).A,i<ops.size:=fun i g=>by have:=(M.anc i g).1;omega
 have N:=Af c.down q hr
 have c0:kU ops j=o.dst:=Dw q
 have J:∀v,a.put o.dst v=fz ops (ik S j) (updV val j v) a0 ops.size:=fun v=>by
  rw [zX (sR h) v r _ U,<-c.act,c0]
 have Z:∀v,(opAt sp j).vp (vals sp j (updV val j v))->∀k,k<ops.size->ik S j k=true->(opAt sp k).vp (vals sp k (updV val j v)):=fun v n k l f=>by
  by_cases e:k=j
  ·subst e;exact n
  ·rw [ce S e] at f
   rw [iU h c.down v r l f]
   exact c.vps k l f
 have a3:∀v Y,(opAt sp j).cl≠.last->(∀k,k<ops.size->(opAt sp k).cl=.last->S k=true->T (vals sp k val) Y)->∀k,k<ops.size->(opAt sp k).cl=.last->ik S j k=true->T (vals sp k (updV val j v)) Y:=fun v Y L hd k l s f=>by
  have e:k≠j:=fun e=>L (e ▸ s)
  rw [ce S e] at f
  rw [iU h c.down v r l f]
  exact hd k l s f
 -- nothing that acts comes behind the last one
 have D:(opAt sp j).cl.isPure=false->∀k,k<ops.size->(opAt sp k).cl=.last->S k=false:=fun c1 k l s=>by
  by_cases e:k=j
  ·subst e;exact r
  ·cases f:S k with
   | false=>rfl
   | true=>
    have:=c.down.anc h k l f j (nr (fY h (bf l)).cls s j U (fun e'=>e e'.symm) c1)
    rw [r] at this;cases this
 have c6:(∀k,k<ops.size->(opAt sp k).cl=.last->ik S j k=false)->∀k,k<ops.size->(opAt sp k).cl=.last->S k=false:=fun F k l L=>by
  have:=F k l L
  unfold ik at this
  split at this
  ·cases this
  ·exact this
 have hw:eQ o (yielded ops a.tmps)=wantB val o:=by rw [c.act];exact Cz h q hr
 have O:aP a.eval o=aP (eOf ops val a0 o) o:=by rw [c.act];exact Dt h c.down q r hr
 rw [hw]
 cases hcl:(opAt sp j).cl with
 | pure=>
  have z:=G.pure j o val q hcl a6
  have C:∀v,(opAt sp j).vp (vals sp j (updV val j v))->RInv ops sp BP B w0 a0 T (ik S j) (a.put o.dst v) X (updV val j v):=fun v n=>
   ⟨J v,N,Z v n,fun F=>(c.full (c6 F)).grow h c.down v r (by rw [hcl];rfl) (fun i=>by rw [hcl];intro e;cases e) (aj _ _) (fun e=>by rw [hcl] at e;cases e),a3 v X (by rw [hcl];intro e;cases e) c.done⟩
  split
  ·rename_i a2
   obtain ⟨v,c3,c4⟩:=z.1 a2
   refine RunsTo.wp (R:=fun u X'=>u=v/\X'=X) (.inl ⟨v,X,by rw [O];exact c3 X,rfl,rfl⟩) ?_
   rintro _ _ ⟨rfl,rfl⟩
   exact ⟨_,C _ c4⟩
  ·rename_i a1
   exact ⟨_,C _ (z.2 (by simpa using a1))⟩
 | call=>
  have m:=c.full (D (by rw [hcl];rfl))
  have z:=G.call j o val X (Nb ops.size sp S val X) q hcl m.bel (Nb.old m) (fun b K=>K.1) (Nb.not m) a6 (fun i g w=>m.vcs i (V i g) (x i g) w)
  have C:∀v Y,ax X.heap.size X Y->(opAt sp j).vp (vals sp j (updV val j v))->(∀H:Nat->Prop,(∀b,Nb ops.size sp S val X b->H b)->(∀b,X.heap.size<=b->b<Y.heap.size->H b)->(opAt sp j).vc (vals sp j (updV val j v)) H Y)->RInv ops sp BP B w0 a0 T (ik S j) (a.put o.dst v) Y (updV val j v):=fun v Y hY n W=>
   ⟨J v,N,Z v n,fun _=>m.grow h c.down v r (by rw [hcl];rfl) (fun i=>by rw [hcl];intro e;cases e) hY (fun _=>W _ (fun b K=>K.of v r (by rw [hcl];rfl) hY.size) (fun b c7 b8=>⟨b8,fun i a4 b0 a7 y=>by
     have e:i≠j:=fun e=>by subst e;rw [hcl] at a7;cases a7
     rw [ce S e] at b0
     rw [ep _ _ e] at y
     obtain ⟨zs,t,L⟩:=ow a7
     obtain ⟨b',p,_,E,_⟩:=m.bxs i a4 b0 zs t L
     rw [y] at p
     injection p with p;injection p with p;injection p with p
     have:=E.lt
     omega⟩)),a3 v Y (by rw [hcl];intro e;cases e) (fun k l s f=>by rw [D (by rw [hcl];rfl) k l s] at f;cases f)⟩
  split
  ·rename_i a2
   refine RunsTo.wp (by rw [O];exact z.1 a2) ?_
   rintro v Y ⟨hY,n,W⟩
   exact ⟨_,C v Y hY n W⟩
  ·rename_i a1
   obtain ⟨n,W⟩:=z.2 (by simpa using a1)
   exact ⟨_,C undef X (aj _ _) n (fun H _ _=>W H)⟩
 | last=>
  have m:=c.full (D (by rw [hcl];rfl))
  have z:=G.last j o val X (Nb ops.size sp S val X) q hcl m.bel (Nb.old m) (fun b K=>K.1) (Nb.not m) a6 (fun i g w=>m.vcs i (V i g) (x i g) w) (fun i g zs t w=>by
   obtain ⟨b,p,h2,E,_⟩:=m.bxs i (V i g) (x i g) zs t w
   refine ⟨b,p,h2,fun F=>F.2 i (V i g) (x i g) (by rw [w];rfl) p,?_⟩
   have a5:=(gJ (fY h (bf (V i g))).cls w)
   have a9:t∈(opAt sp j).A:=nr M.cls hcl t a5.2.1 (fun e=>by subst e;rw [hcl] at a5;cases a5.2.2) (by rw [a5.2.2];rfl)
   rw [if_pos (by simpa using a9)]
   rw [if_pos (x t a9)] at E
   exact E)
  have C:∀v Y,(opAt sp j).vp (vals sp j (updV val j v))->T (vals sp j (updV val j v)) Y->RInv ops sp BP B w0 a0 T (ik S j) (a.put o.dst v) Y (updV val j v):=fun v Y n I=>
   ⟨J v,N,Z v n,fun F=>absurd (F j U hcl) (by rw [lm];simp),fun k l s f=>by
    by_cases e:k=j
    ·subst e;exact I
    ·rw [ce S e,D (by rw [hcl];rfl) k l s] at f;cases f⟩
  split
  ·rename_i a2
   refine RunsTo.wp (by rw [O];exact z.1 a2) ?_
   rintro v Y ⟨n,I⟩
   exact ⟨_,C v Y n I⟩
  ·rename_i a1
   obtain ⟨n,I⟩:=z.2 (by simpa using a1)
   exact ⟨_,C undef X n I⟩
 | box zs t=>
  have m:=c.full (D (by rw [hcl];rfl))
  obtain ⟨hg,b1,c2⟩:=gJ M.cls hcl
  have a8:S t=false:=by
   cases a8:S t with
   | false=>rfl
   | true=>
    have:=c.down.anc h t b1 a8 j (mf (fY h (bf b1)).cls c2).2.2.1
    rw [r] at this;cases this
  rw [if_pos (show wantB val o=true by unfold wantB;rw [hg])]
  obtain ⟨b9,e,y⟩:=(G.box j o zs t val q hcl).2
  refine RunsTo.wp (R:=fun v Y=>v=au (some ⟨X.heap.size,0,none⟩)/\Y=X.alloc (.cells zs.toArray e)) (.inl ⟨_,_,by rw [O];exact y X,rfl,rfl⟩) ?_
  rintro _ _ ⟨rfl,rfl⟩
  exact ⟨_,J _,N,Z _ (G.box j o zs t _ q hcl).1,fun _=>m.box h c.down U r hcl a8 b9 e,a3 _ _ (by rw [hcl];intro e;cases e) (fun k l s f=>by rw [D (by rw [hcl];rfl) k l s] at f;cases f)⟩
 | store i=>
  have m:=c.full (D (by rw [hcl];rfl))
  obtain ⟨hg,a4,g,⟨zs,w⟩,b2⟩:=mf M.cls hcl
  rw [if_pos (show wantB val o=true by unfold wantB;rw [hg])]
  obtain ⟨b,p,h2,E,_⟩:=m.bxs i a4 (x i g) zs j w
  rw [if_neg (by rw [r];simp)] at E
  obtain ⟨c5,X',hx,b3,b4,b5,b6,b7⟩:=G.store j o i zs val X b q hcl w a6 p E
  refine RunsTo.wp (R:=fun v Y=>v=undef/\Y=X') (.inr (.inl ⟨X',by rw [O];exact hx,rfl,rfl⟩)) ?_
  rintro _ _ ⟨rfl,rfl⟩
  exact ⟨_,J _,N,Z _ (c5 _),fun _=>m.put h c.down U r hcl w a4 (x i g) p h2 b3 b4 b5 b6 b7 b2,a3 _ _ (by rw [hcl];intro e;cases e) (fun k l s f=>by rw [D (by rw [hcl];rfl) k l s] at f;cases f)⟩
theorem DK {P:dz} {ops:Array Oper} {Q:Exit->Act->ai->Prop} {md:Region.Mode} (I:(Nat->Bool)->Act->ai->Prop) (m:Nat) (B:m<ops.size) (C:tI md ops=true)
  (G:∀S j o a w,m<=j->ops[j]? = some o->I S a w->(∀q,m<=q->q<ops.size->S q=false)->(∀e∈o.after,gX md e=true->e.on<j->S e.on=true)->∀i,i<m->S i=true)
  (M:∀S j o a w,j<m->ops[j]? = some o->S j=false->(∀e∈o.after,gX md e=true->S e.on=true)->I S a w->if eQ o (yielded ops a.tmps) then o.wp P a w (I (ik S j)) Q else I (ik S j) (a.put o.dst undef) w)
  (L:∀S a w,(∀j,j<m->S j=true)->I S a w->wpAny P md ops Q (nM ops.size fun j=>decide (j<m)) (gR ops.size fun j=>decide (j<m)) a w) :
  ∀(k:Nat) (S:Nat->Bool) (a:Act) (w:ai),nM ops.size S=k->(∀j,m<=j->j<ops.size->S j=false)->I S a w->wpAny P md ops Q k (gR ops.size S) a w:=by
 intro k
 induction k with
 | zero=>
  intro S a w u l r
  have:=l m (ag _) B
  rw [rO ops.size S u m B] at this
  cases this
 | succ k ih=>
  intro S a w u l r
  by_cases s:∀j,j<m->S j=true
  ·have e:∀i,i<ops.size->S i=decide (i<m):=fun i b=>by
    by_cases h:i<m
    ·rw [s i h,decide_eq_true h]
    ·rw [l i (by omega) b,decide_eq_false h]
   have E:gR ops.size S=gR ops.size (fun j=>decide (j<m)):=by
    apply Array.ext
    ·simp [gR]
    ·intro i p F
     have b:i<ops.size:=by simpa [gR] using F
     rw [show (gR ops.size S)[i]=S i from Array.getElem_ofFn ..,show (gR ops.size (fun j=>decide (j<m)))[i]=decide (i<m) from Array.getElem_ofFn ..]
     exact e i b
   rw [E,<-u,uC _ _ _ e]
   exact L S a w s r
  ·have J:∀i,i∈iQ md ops (gR ops.size S)->i<m:=fun i b=>by
    obtain ⟨_,o,c,y⟩:=mem_ready.1 b
    rcases Nat.lt_or_ge i m with h | h
    ·exact h
    ·exfalso
     have x:=(aM.1 c).1
     exact s (G S i o a w h c r l fun e f d v=>by
      have:=y e f d
      rw [iV _ _ _ _ (by omega)] at this
      exact this)
   refine ⟨fun K=>?_,fun i b=>?_⟩
   ·exfalso
    refine s fun j=>?_
    induction j using Nat.strongRecOn with
    | ind j ihj=>
     intro A
     have g:j<ops.size:=by omega
     cases hs:S j with
     | true=>rfl
     | false=>
      have:j∈iQ md ops (gR ops.size S):=mem_ready.2 ⟨by rw [iV _ _ _ _ g];exact hs,_,bf g,fun e f d=>by
       have v:=qq C (bf g) f d
       rw [iV _ _ _ _ (by omega)]
       exact ihj e.on v (by omega)⟩
      rw [K] at this
      cases this
   ·have H:=J i b
    obtain ⟨p,o,c,y⟩:=mem_ready.1 b
    have x:=(aM.1 c).1
    rw [iV _ _ _ _ x] at p
    have t:=M S i o a w H c p (fun e f d=>by
     have:=y e f d
     have v:=qq C c f d
     rw [iV _ _ _ _ (by omega)] at this
     exact this) r
    have N:=uB ops.size S i x p
    have D:∀n w',I (ik S i) n w'->wpAny P md ops Q k ((gR ops.size S).setIfInBounds i true) n w':=fun n w' h=>by
     rw [vY]
     exact ih (ik S i) n w' (by omega) (fun j A g=>by rw [ce S (by omega)];exact l j A g) h
    unfold wpOp
    rw [c]
    dsimp only
    split
    ·rename_i z
     rw [if_pos z] at t
     exact .inl (Oper.wp_mono D t)
    ·rename_i z
     rw [if_neg z] at t
     exact D _ _ t
theorem Am (n:Nat):nM n (fun _=>false)=n:=by
 induction n with
 | zero=>rfl
 | succ n ih=>unfold nM;simp [ih]
def Ly (ops:Array Oper) (sp:List ROp) (m:Nat):Bool:=tI .any ops&&decide (m<ops.size)&&(ops.toList.all fun o=>o.guard.isNone)&&(aY ops.size).all fun j=>decide (j<m)||match ops[j]? with | some o=>(o.after.any fun e=>gX .any e&&(decide (m<=e.on)&&decide (e.on<j)))||(aY m).all fun i=>o.after.any fun e=>gX .any e&&decide (e.on<j)&&(e.on==i||(decide (e.on<m)&&(opAt sp e.on).A.contains i)) | none=>true
section
variable {P:dz} {sp:List ROp} {BP:List az->Prop} {B:Nat} {w0:ai}
abbrev ks (ops:Array Oper) (m:Nat):Array Oper:=(ops.toList.take m).toArray
theorem Bc {id m:Nat} {ops:Array Oper} {Q:Exit->Act->ai->Prop} {t:List az} {d:List Deferred} (sp:List ROp) (ds:List (Option Tmp)) (BP:List az->Prop) (B:Nat) (v:Ly ops sp m=true) (Y:P.follows .mixedOrders=true) (H:B<=w0.heap.size)
  (hd:(ks ops m).toList.map (·.dst)=ds) (h:iC (ks ops m) sp t.length=true) (W:Ii sp m=true)
  (b:∀j o,(ks ops m)[j]? = some o->iq P (ks ops m) sp BP B w0 ⟨t.toArray,d⟩ (fun _ _=>True) j o)
  (L:∀val X N,(∀j,j<m->(opAt sp j).vp (vals sp j val))->Abs m sp B w0 val X N->wpAny P .any ops Q (nM ops.size fun j=>decide (j<m)) (gR ops.size fun j=>decide (j<m)) ⟨(jD ds 0 val t).toArray,d⟩ X) :
  (Code.region id ops true).wp P Q ⟨t.toArray,d⟩ w0:=by
 unfold Ly at v
 simp only [aF,decide_eq_true_eq] at v
 obtain ⟨⟨⟨a2,a0⟩,R⟩,I⟩:=v
 have O:∀j o',ops[j]? = some o'->∀y,eQ o' y=true:=fun j o' q y=>by
  have T:=bh.1 R o' (by simpa using Array.mem_of_getElem? q)
  unfold eQ
  rw [Option.isNone_iff_eq_none.1 T]
 have a4:(ks ops m).size=m:=by simp [ks];omega
 have a3:∀j o',j<m->ops[j]? = some o'->(ks ops m)[j]? = some o':=fun j o' c q=>by
  simp only [ks,List.getElem?_toArray,List.getElem?_take,if_pos c,Array.getElem?_toList]
  exact q
 refine wp_region_any Y ?_
 have F:=DK (P:=P) (Q:=Q) (md:=.any) (fun S a X=>∃val,RInv (ks ops m) sp BP B w0 ⟨t.toArray,d⟩ (fun _ _=>True) S a X val) m a0 a2 ?all ?step ?rest (nM ops.size fun _=>false) (fun _=>false) ⟨t.toArray,d⟩ ({ w0 with drawn:=w0.drawn+1 }) rfl (fun _ _ _=>rfl) ?start
 ·rw [uw,Am] at F
  exact F
 case all=>
  rintro S j o' a X c n ⟨val,U⟩ a1 D i f
  have V:=(aM.1 n).1
  have l:=bh.1 I j (dx.2 V)
  rw [n,decide_eq_false (by omega),Bool.false_or] at l
  rw [eU] at l
  rcases l with x | l
  ·rw [Array.any_eq_true'] at x
   obtain ⟨e,u,g⟩:=x
   simp only [aF,decide_eq_true_eq] at g
   obtain ⟨s,Z,w⟩:=g
   have b:=D e u s w
   rw [a1 e.on Z (by omega)] at b
   cases b
  have z:=bh.1 l i (dx.2 f)
  rw [Array.any_eq_true'] at z
  obtain ⟨e,u,g⟩:=z
  simp only [aF,eU,beq_iff_eq,decide_eq_true_eq] at g
  obtain ⟨⟨s,w⟩,g⟩:=g
  have b:=D e u s w
  rcases g with rfl | ⟨h4,G⟩
  ·exact b
  ·exact U.down.anc h e.on (by omega) b i (by simpa using G)
 case step=>
  intro S j o' a X c n a5 K f
  have E:=Hv (P:=P) (Q:=Q) sp BP (fun _ _=>True) (by simpa using h) (Serves.of b) S j o' a X (a3 j o' c n) a5 K f
  rw [if_pos (O j o' n _)] at E |-
  exact E
 case rest=>
  rintro S a X r ⟨val,f⟩
  have A:a=fz (ks ops m) (fun _=>true) val ⟨t.toArray,d⟩ (ks ops m).size:=f.act.trans (pS _ (fun i f=>r i (by omega)) (fun _ _ _=>rfl))
  rw [pR hd] at A
  subst A
  have hn:∀j,j<(ks ops m).size->(opAt sp j).cl≠.last:=fun j c e=>by
   have:=bh.1 W j (dx.2 (by omega))
   rw [e] at this;cases this
  have M:=(f.full fun j c J=>absurd J (hn j c)).all h (fun j c=>r j (by omega))
  have C:=M.abs
  rw [a4] at C
  exact L val X _ (fun j c=>f.vps j (by omega) (r j c)) C
 case start=>
  refine ⟨fun _=>undef,?_,?_,?_,?_,?_⟩
  ·have:∀p,fz (ks ops m) (fun _=>false) (fun _=>undef) (⟨t.toArray,d⟩:Act) p=⟨t.toArray,d⟩:=by
    intro p
    induction p with
    | zero=>rfl
    | succ p ih=>unfold fz;rw [if_neg (by simp)];exact ih
   exact (this _).symm
  ·intro k o _ b;cases b
  ·intro j _ b;cases b
  ·intro _
   exact ⟨(aj _ w0).drew,H,fun j _ b=>(by cases b),fun i _ b=>(by cases b),fun i k _ _ b=>(by cases b)⟩
  ·intro j _ _ b;cases b
end
section
variable {P:dz} {ops:Array Oper} {Q:Exit->Act->ai->Prop} {md:Region.Mode} {k:Nat} {d:Array Bool} {a:Act} {w:ai}
theorem vf {i:Nat} {o:Oper} (e:iQ md ops d=[i]) (l:ops[i]? = some o) (g:o.guard=none) (h:o.wp P a w (fun f w'=>wpAny P md ops Q k (d.setIfInBounds i true) f w') Q):wpAny P md ops Q (k+1) d a w :=
 ⟨fun b=>(by rw [e] at b;cases b),fun j c=>by
  rw [e,aG] at c
  subst c
  unfold wpOp
  rw [l]
  dsimp only
  rw [if_pos (by unfold eQ;rw [g])]
  exact .inl h⟩
theorem ve {i j:Nat} {o p:Oper} (f:iQ md ops d=[i,j]) (n:ops[i]? = some o) (r:ops[j]? = some p) (l:o.guard=none) (m:p.guard=none) (g:o.wp P a w (fun b w'=>wpAny P md ops Q k (d.setIfInBounds i true) b w') Q) (h:p.wp P a w (fun b w'=>wpAny P md ops Q k (d.setIfInBounds j true) b w') Q):wpAny P md ops Q (k+1) d a w :=
 ⟨fun c=>(by rw [f] at c;cases c),fun q e=>by
  rw [f,List.mem_cons,aG] at e
  rcases e with rfl|rfl
  ·unfold wpOp
   rw [n]
   dsimp only
   rw [if_pos (by unfold eQ;rw [l])]
   exact .inl g
  ·unfold wpOp
   rw [r]
   dsimp only
   rw [if_pos (by unfold eQ;rw [m])]
   exact .inl h⟩
theorem ri (b:iQ md ops d=[]) (h:Q .normal a w):wpAny P md ops Q 0 d a w:=⟨b,h⟩
end
end Hb
