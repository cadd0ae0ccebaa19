/- Parts of the proof. -/
import Derived.Test.YtbojljpldcijgaaGreatR01
import Derived.Test.YtbojljpldcijgaaGreatR07
import Derived.Test.YtbojljpldcijgaaGreatR10
import Derived.Test.YtbojljpldcijgaaGreatR11
set_option maxHeartbeats 12800000
set_option maxRecDepth 100000
set_option linter.unusedSimpArgs false
open Go renaming Calls -> aU, Value -> aC, World -> au, bodyPost_ret -> aw, heap_setCell_other -> aW, maxLen -> bF, wpList -> cq, wpList_append_own_at -> eP
open Go.Ending renaming returned -> aD
open Go.IntKind renaming i64 -> ab
open Go.Proofs.Tryz renaming prog -> am, underlying2 -> gH, underlying3 -> ez, underlying9 -> bo
open Go.RowKit renaming Below -> aB
open Go.RowKit.Below renaming refl -> ap
open Go.Value renaming agg -> aV, bool -> av, int -> aa, pointer -> ar, slice -> dc, string -> ac, tuple -> aJ
open Go.World renaming cell?_alloc_new -> aF
open List renaming append_nil -> aj, cons_append -> ag, drop_eq_getElem_cons -> eC, map_append -> cF, map_cons -> da, map_nil -> dV, mem_cons -> bh, mem_nil_iff -> be, mem_singleton -> aK, nil_append -> ai, set_cons_succ -> ao, set_cons_zero -> an, take_succ_eq_append_getElem -> bl
open Nat renaming le_refl -> ae, le_succ -> bm, le_trans -> aQ, lt_of_lt_of_le -> aA, lt_succ_self -> bK, reduceAdd -> af, zero_add -> ah, zero_le -> bc
namespace Hb
open Go Go.RowKit
structure FlR where
 q:Int
 u:Int
 c:Bool
 d:Bool
def BB (f:FlR):aC:=aV #[aa ab f.q,aa ab f.u,av f.c,av f.d]
def pS (f:FlR):Bool:=decide (1<=f.q)&&(decide (f.q<=3)&&(f.u==1||f.u==2))
def vU:FlR:=⟨1,1,false,false⟩
def dB (s:ByteArray):Tm:=.mk 2 0 s []
def mS (n:Int):Tm:=.mk 1 n ⟨#[]⟩ []
end Hb
namespace Go.Proofs.YtbojljpldcijgaaGreat
open Go.RowKit Hb
theorem xu (w:au):aU am 48 #[] w fun e w'=>e=aD (BB vU)/\aB w.heap.size w w':=by
 have a:=(ap w.heap.size w).alloc (ae _) (.cells #[aa ab 1,aa ab 1,av false,av false] 24)
 go_enter Tryz.func48,Tryz.ntmps48
 go_wp2_with fail
 exact aw (v:=BB vU) (by simp [results,Tryz.results48,go_sem,BB,vU]) rfl ⟨rfl,a⟩
theorem Ao (f:FlR) (w:au):aU am 51 #[BB f] w fun e w'=>e=aD (av (pS f))/\aB w.heap.size w w':=by
 have h:=(ap w.heap.size w).alloc (ae _) (.cells #[aa ab f.q,aa ab f.u,av f.c,av f.d] 24)
 have g:Hid (pS f=(decide (1<=f.q)&&(decide (f.q<=3)&&(f.u==1||f.u==2)))):=zq rfl
 unfold BB
 generalize pS f=r at *
 generalize f.q=q at *
 generalize f.u=u at *
 have a:(q<1)\/(3<q)\/(1<=q/\q<=3):=by omega
 have b:u=1\/u=2\/(¬u=1/\¬u=2):=by omega
 rcases a with a | a | ⟨a,i⟩ <;> rcases b with rfl|rfl | ⟨b,j⟩
 all_goals
  go_enter Tryz.func51,Tryz.ntmps51
  go_wp2_with fail
  go_ret
  refine ⟨bY ?_,h⟩
  rw [g.out]
  simp [*] <;> omega
end Go.Proofs.YtbojljpldcijgaaGreat
namespace Hb
open Go Go.RowKit
theorem zl {s:ByteArray} (h:s.size<=100):dZ (dB s)=true:=(pe _).2 ⟨by rw [Tm.nodes_eq];simp [dB,Tm.args],by
 rw [Tm.allOk_eq]
 unfold iL dB Tm.kind Tm.num Tm.name Tm.args
 simp [h]⟩
theorem vk {t:Tm} (h:dZ t=true):lZ t=t:=by unfold lZ;rw [if_pos h]
end Hb
namespace Go.Proofs.YtbojljpldcijgaaGreat
open Go.RowKit Hb
theorem Ba (s:ByteArray) (h:s.size<=100) (w:au) :
  aU am 175 #[ac s] w fun e w'=>∃b cap',e=aD (fI (dB s) b cap')/\aB w.heap.size w w':=by
 have i:=R4.start (w0:=w) (w:=w) (ap _ _) (aa ab 0) (aa ab 0) (ac ⟨#[]⟩) (.slice none 0 0) 30
 have l:=zq i
 have f:=zq (fun (W:au)=>zM (dB s) none 0 W TmsK.nil)
 rw [vk (zl h)] at f
 have j:Hid (∀(b:Option Addr) (g:Nat),fI (dB s) b g=aV #[aa ab 2,aa ab 0,ac s,.slice b 0 g]):=zq (fun _ _=>rfl)
 clear i
 go_enter Tryz.func175,Tryz.ntmps175
 go_wp2_with fail
 refine (f.out _).mono ?_;rintro e D ⟨c,d,rfl,m,n⟩
 rw [j.out]
 have a:=l.out.call m
 obtain ⟨z,o⟩:=a.r0
 obtain ⟨A,p⟩:=a.r1
 obtain ⟨B,q⟩:=a.r2
 obtain ⟨C,r⟩:=a.r3
 have t:=a.fr 0
 have u:=a.fr 1
 have x:=a.fr 2
 have y:=a.fr 3
 have k:=zq (a.put (aa ab 2) (aa ab 0) (ac s) (.slice c 0 d))
 clear n
 go_wp2_with fail
 exact aw (v:=aV #[aa ab 2,aa ab 0,ac s,.slice c 0 d]) (by simp [results,Tryz.results175,go_sem,o,p,q,r]) rfl ⟨c,d,rfl,k.out⟩
theorem xW (n:Int) (w:au):aU am 138 #[aa ab n] w fun e w'=>e=aD (aV #[aa ab 1,aa ab n,ac ⟨#[]⟩,.slice none 0 0])/\aB w.heap.size w w':=by
 have a:=(ap w.heap.size w).alloc (ae _) (.cells #[aa ab 1,aa ab n,ac ⟨#[]⟩,.slice none 0 0] 30)
 go_enter Tryz.func138,Tryz.ntmps138
 go_wp2_with fail
 exact aw (v:=aV #[aa ab 1,aa ab n,ac ⟨#[]⟩,.slice none 0 0]) (by simp [results,Tryz.results138,go_sem]) rfl ⟨rfl,a⟩
end Go.Proofs.YtbojljpldcijgaaGreat
namespace Hb
open Go Go.RowKit
theorem tu (l:List Tm) (t:Tm) (j:Nat) (h:j<l.length):la (l.drop j) t=ju ⟨#[46]⟩ [l[j],la (l.drop (j+1)) t]:=by rw [eC h];rfl
theorem vP (l:List Tm) (t:Tm):la (l.drop l.length) t=t:=by rw [List.drop_length];rfl
structure LsM (K:Nat->Prop) (w0 w:au) (t:Tm) (A:Option Addr) (cap:Nat):Prop where
 bel:aB w0.heap.size w0 w
 bs:Bks w [(w0.heap.size+1,[aa ab 0,aa ab 0,ac ⟨#[]⟩,.slice none 0 0]),(w0.heap.size,[aa ab t.kind,aa ab t.num,ac t.name,.slice A t.args.length cap])]
 tms:TmsK (fun b=>K b\/(w0.heap.size+1<b/\b<w.heap.size)) w A t.args
end Hb
namespace Go.Proofs.YtbojljpldcijgaaGreat
open Go.RowKit Hb
theorem oX (s:ByteArray) (h:s.size<=100) (w:au):aU am 175 #[ac s] w fun e w'=>∃A' c',e=aD (aV #[aa ab 2,aa ab 0,ac s,.slice A' 0 c'])/\aB w.heap.size w w':=Ba s h w
theorem gM {B:Nat} {w0 w:au} (h:aB B w0 w) (g:Nat) (a:B<=g) (x y z u:aC):aB B w0 ((((w.setCell ⟨g,0,none⟩ x).setCell ⟨g,1,none⟩ y).setCell ⟨g,2,none⟩ z).setCell ⟨g,3,none⟩ u) :=
 (((h.setCell (p:=⟨_,_,none⟩) a _).setCell (p:=⟨_,_,none⟩) a _).setCell (p:=⟨_,_,none⟩) a _).setCell (p:=⟨_,_,none⟩) a _
theorem LsM.start {K:Nat->Prop} (w:au) (t:Tm) (A:Option Addr) (a:Nat) (h:TmsK K w A t.args) (d:∀b,K b->b<w.heap.size):LsM K w ((w.alloc (.cells #[aa ab t.kind,aa ab t.num,ac t.name,.slice A t.args.length a] 30)).alloc (.cells #[aa ab 0,aa ab 0,ac ⟨#[]⟩,.slice none 0 0] 30)) t A a where
 bel:=((ap _ _).alloc (ae _) _).alloc (by simp) _
 bs:=((Bks.nil w).new [aa ab t.kind,aa ab t.num,ac t.name,.slice A t.args.length a] 30 rfl).new [aa ab 0,aa ab 0,ac ⟨#[]⟩,.slice none 0 0] 30 (by simp)
 tms:=h.keep (fun b c=>((((ap w.heap.size w).alloc (ae _) _).alloc (by simp) _).block b (d b c))) fun b c=>.inl c
theorem LsM.step {K:Nat->Prop} {w0 w wS:au} {t x:Tm} {A B:Option Addr} {c cb:Nat} (h:LsM K w0 w t A c) (o:TmsK K w0 B x.args) (d:∀b,K b->b<w0.heap.size) (e:aB (w.heap.size+1) (w.alloc (.cells (dM [(x,B,cb),(t,A,c)]).toArray 30)) wS) :
  LsM K w0 ((((wS.setCell ⟨w0.heap.size,0,none⟩ (aa ab 3)).setCell ⟨w0.heap.size,1,none⟩ (aa ab 0)).setCell ⟨w0.heap.size,2,none⟩ (ac ⟨#[46]⟩)).setCell ⟨w0.heap.size,3,none⟩ (.slice (some ⟨w.heap.size,0,none⟩) 2 2)) (ju ⟨#[46]⟩ [x,t]) (some ⟨w.heap.size,0,none⟩) 2:=by
 have k:=h.bs.lt 0 rfl
 have i:aB w.heap.size w (w.alloc (.cells (dM [(x,B,cb),(t,A,c)]).toArray 30)):=(ap _ _).alloc (ae _) _
 have f:aB w.heap.size w wS:=i.trans (e.mono (bm _))
 have m:=mY (K:=fun b=>K b\/(w0.heap.size+1<b/\b<w.heap.size+1)) (K':=fun b=>K b\/(w0.heap.size+1<b/\b<w.heap.size)) (w:=w) 30 [(x,B,cb),(t,A,c)] (by unfold bF;simp) (.inr ⟨k,bK _⟩) (fun b a=>by
   rcases a with a | a
   ·exact ⟨.inl a,by have:=d b a;have:=h.bel.size;omega⟩
   ·exact ⟨.inr ⟨a.1,by omega⟩,a.2⟩) (fun r g=>by
   simp only [bh,be,or_false] at g
   rcases g with rfl|rfl
   ·exact o.keep (fun b a=>h.bel.block b (d b a)) fun b a=>.inl a
   ·exact h.tms)
 have n:(w.alloc (.cells (dM [(x,B,cb),(t,A,c)]).toArray 30)).heap.size=w.heap.size+1:=by simp
 refine ⟨gM (h.bel.trans (f.mono h.bel.size)) _ (ae _) _ _ _ _,(h.bs.call f).set4 1 rfl _ _ _ _,TmsK.keep m (fun b a=>?_) fun b a=>?_⟩
 ·have j:b<w.heap.size+1:=by
   rcases a with a | a
   ·have:=d b a;have:=h.bel.size;omega
   ·exact a.2
  have l:b≠w0.heap.size:=by
   rcases a with a | a
   ·have:=d b a;omega
   ·omega
  rw [bH _ _ _ _ _ _ _ l]
  exact e.block b j
 ·rcases a with a | a
  ·exact .inl a
  ·exact .inr ⟨a.1,by have:=e.size;rw [n] at this;simp;omega⟩
theorem rU (K:Nat->Prop) (l:List Tm) (A:Option Addr) (n a1:Nat) (t:Tm) (B:Option Addr) (cb:Nat) (w:au) (J:n=l.length) (E:∀b,K b->b<w.heap.size) (I:TmsK K w A l) (X:TmsK K w B t.args) :
  aU am 176 #[.slice A n a1,fI t B cb] w fun e w'=>∃f c',e=aD (fI (la l t) f c')/\aB w.heap.size w w'/\TmsK (fun b=>K b\/(w.heap.size<=b/\b<w'.heap.size)) w' f (la l t).args:=by
 have hm:n<=bF:=by rw [J];exact I.len
 unfold bF at hm
 have M:=zq J
 have L:=zq I
 have y:=zq E
 have a0:=zq (fun (s:ByteArray) A n c W=>iV s A n c W)
 have HS:=zq (LsM.start w t B cb X E)
 clear I X J E
 obtain ⟨q,z⟩:=lz (la l t)
 rw [<-z.out]
 unfold fI
 go_enter Tryz.func176,Tryz.ntmps176
 go_wp2_with fail
 go_loopw [5] (fun i wr=>∃k:Nat,k<=n/\(k=0->i=aa ab (-1))/\(∀j:Nat,k=j+1->i=aa ab j)/\∃f r,Hid (LsM K w wr (la (l.drop k) t) f r)) (fun i _=>(intOf i+1).toNat)
 case atStart=>exact ⟨n,ae _,fun h=>by subst h;rfl,fun j h=>by congr 1;omega,B,cb,by rw [M.out,vP l t];exact HS⟩
 case round=>
  obtain ⟨k,hk,G,H,f,r,d⟩:=hrel
  rcases Nat.eq_zero_or_pos k with rfl | a4
  ·have F:=G rfl
   subst F
   rw [List.drop_zero,<-z.out] at d
   have g:=d.out.bs.all
   simp only [aH,aP,ah,af,and_true] at g
   clear G H z
   go_wp2_with fail
   refine aw (v:=aV #[aa ab q.kind,aa ab q.num,ac q.name,.slice f q.args.length r]) (by simp [results,Tryz.results176,go_sem,g]) rfl ⟨f,r,rfl,gM d.out.bel _ (bm _) _ _ _ _,?_⟩
   refine d.out.tms.keep (fun b a=>bH _ _ _ _ _ _ _ ?_) fun b a=>?_
   ·rcases a with a | a
    ·have:=y.out b a;omega
    ·omega
   ·rcases a with a | a
    ·exact .inl a
    ·exact .inr ⟨by omega,by simpa using a.2⟩
  ·obtain ⟨j,rfl⟩:∃j,k=j+1:=⟨k-1,by omega⟩
   have F:=H j rfl
   subst F
   have U:j<l.length:=by have:=M.out;omega
   obtain ⟨b,a5,B',a2,rfl,a,P,Q,R,S,V⟩:=L.out.get j U
   have a3:=y.out b a
   have m:∀o,wr.cell? ⟨b,o,none⟩=w.cell? ⟨b,o,none⟩:=fun o=>d.out.bel.cell (p:=⟨b,o,none⟩) a3
   have d0:=(m _).trans P
   have d1:=(m _).trans Q
   have d2:=(m _).trans R
   have d3:=(m _).trans S
   have C:=zq (fun wS h=>LsM.step (cb:=a2) (wS:=wS) d.out V y.out h)
   have Z:Hid (ju ⟨#[46]⟩ [l[j],la (l.drop (j+1)) t]=la (l.drop j) t):=zq (tu l t j U).symm
   have g:=d.out.bs.all
   simp only [aH,aP,ah,af,and_true] at g
   have Y:=zq d.out.bs
   have k0:(0:Int)<=(j:Int):=by omega
   have k1:(j:Int)<(n:Int):=by omega
   clear G H V m P Q R S d L
   generalize la (l.drop (j+1)) t=u at *
   generalize l[j]=x at *
   unfold dM fL at C
   simp only [List.flatMap_cons,List.flatMap_nil,ag,ai] at C
   go_wp2_with fail
   go_region_with (go_at_call 97;refine (a0.out _ _ _ _ _).mono ?_;rintro e wS ⟨rfl,D⟩;(have T:=((ap wr.heap.size wr).alloc (ae _) _).drew.trans (D.mono (by simp [World.drew])));have O:=(Y.out.call T).all;simp only [aH,aP,ah,af,and_true] at O)
   all_goals
    have N:=zq (C.out _ ((ap _ _).drew.trans (D.mono (by simp [World.drew]))))
    rw [Z.out] at N
    clear D T O g
    go_wp2_with fail
    go_roundw
    case rel=>exact ⟨j,by omega,fun h=>by subst h;rfl,fun i h=>by congr 1;omega,_,_,N⟩
    case measure=>simp [intOf] <;> omega
theorem iH {w W:au} {l:Array Oper} {m:List Oper} {o:Oper} {a:Act} {Q:Exit->Act->au->Prop} (q:o.guard=none) (s x:Operand)
  (A:o.op=.call { callee:=.builtin .append,args:=#[s,x],argTypes:=#[28,28] }) (b:Nat) (v:aC) (rs:List TR) (D:a.eval s=v) (n:OwnR b 30 W v rs) (z:b<=W.heap.size)
  (r:TR) (C:r.1.args=[]) (E:w=W.alloc (.cells (fL r).toArray 30)) (F:a.eval x=.slice (some ⟨W.heap.size,0,none⟩) 1 1) (J:rs.length<=100000)
  (h:∀d w',Hid (OwnR b 30 w' d (rs++[r]))->Hid (aB b W w')->cq am l Q m (a.put o.dst d) w'):cq am l Q (o::m) a w:=by
 obtain ⟨i,t,G,H,I⟩:=info_parts nY
 subst E
 have f:aB W.heap.size W (W.alloc (.cells (fL r).toArray 30)):=(ap _ _).alloc (ae _) _
 have e:=n.below f
 refine eP _ q s x 28 A b 30 i _ 4 56 Tryz.underlying28 t G H I rfl (by decide) v rs.length (dM rs) D e.own ⟨W.heap.size,0,none⟩ 1 1 (fL r) F rfl ?_ (by
   intro y c
   simp only [fL,bh,be,or_false] at c
   rcases c with rfl|rfl|rfl|rfl <;> rfl) (by unfold bF;omega) (by omega) (by simp;omega) ?_
 ·intro j y c
  rw [eO]
  have:=aF W (fL r).toArray 30 j
  rw [show 0+j=j by omega,this]
  simpa using c
 ·intro d w' B g _ p
  refine h d w' (zq (e.snoc r (by rw [C];exact TmsK.nil) B g p)) (zq ((f.mono z).grown g (by simp;omega) fun k u=>(e.own.lt k u).1))
theorem oD (s:ByteArray) (k:Nat) (h:k<s.size):s.extract k (k+1)=⟨#[s[k]]⟩:=by
 apply ByteArray.ext
 apply Array.ext'
 rw [ByteArray.data_extract]
 simp
 have:k<s.data.toList.length:=by simpa using h
 rw [eC this]
 rfl
theorem Bj {c:PC} {n:Nat} {v:VS} {nv:aC} {w:au} (p:PsAt c n v nv w) (s:ByteArray) (hs:s.size<=20000) :
  aU am 140 #[ar (some ⟨c.P,0,none⟩),ac s] w fun e w'=>∃A' c',e=aD (fI (tY c.E.q s.data.toList) A' c')/\aB w.heap.size w w'/\TmsK (fun b=>w.heap.size<=b/\b<w'.heap.size) w' A' (tY c.E.q s.data.toList).args:=by
 have B:aB w.heap.size w (w.alloc (.cells #[aa ab 0,aa ab 0,ac ⟨#[]⟩,.slice none 0 0] 30)):=(ap _ _).alloc (ae _) _
 have Y:=(Bks.nil w).new [aa ab 0,aa ab 0,ac ⟨#[]⟩,.slice none 0 0] 30 rfl
 have HP:=zq p
 obtain ⟨R,D⟩:=lz (tY c.E.q s.data.toList)
 have b8:=zq hs
 have X:Hid (¬c.E.q=3->R=la (s.data.toList.map (xy c.E.q)) kn):=zq fun h=>by rw [D.out];unfold tY;rw [if_neg h]
 have N:Hid (∀b,xy c.E.q b=if c.E.q=1 then pQ b.toNat else qj ⟨#[b]⟩):=zq fun _=>rfl
 rw [<-D.out]
 have U:Hid (∀W,aB w.heap.size w W->W.cell? ⟨c.P,3,none⟩=some (aa ab c.E.q)):=zq fun W h=>(HP.out.bk.call h).c 3 _ rfl
 clear p
 by_cases A:c.E.q=3
 ·have V:Hid (R=.mk 2 0 s []):=zq (by rw [D.out];unfold tY;rw [if_pos A];rfl)
  rw [V.out]
  have b3:(c.E.q==3)=true:=by simpa using A
  have H:=U.out _ B
  have HB:=zq B
  clear B Y A N X D hs
  generalize c.E.q=q at *
  go_enter Tryz.func140,Tryz.ntmps140
  go_wp2_with fail
  refine aw (v:=aV #[aa ab 2,aa ab 0,ac s,.slice none 0 0]) (by simp [results,Tryz.results140,go_sem]) rfl ⟨none,0,rfl,?_,TmsK.nil⟩
  exact (ap _ _).alloc (ae _) _
 ·have b3:(c.E.q==3)=false:=by simpa using A
  have V:=zq (X.out A)
  have H:=U.out _ B
  have HB:=zq B
  have HK:=zq Y
  clear B Y A X D
  generalize c.E.q=q at *
  go_enter Tryz.func140,Tryz.ntmps140
  go_wp2_with fail
  clear H
  go_loopw [5,16] (fun v5 i wr=>∃k:Nat,i=aa ab k/\k<=s.size/\∃rs:List TR,rs.map (·.1)=(s.data.toList.take k).map (xy q)/\Hid (OwnR (w.heap.size+1) 30 wr v5 rs)/\Hid (aB w.heap.size w wr)/\Hid (Bks wr [(w.heap.size,[aa ab 0,aa ab 0,ac ⟨#[]⟩,.slice none 0 0])])) (fun _ i _=>s.size-(intOf i).toNat)
  case atStart=>exact ⟨0,rfl,bc _,[],by simp,zq (OwnR.nul _ _ _),HB,HK⟩
  case round=>
   obtain ⟨k,rfl,hk,rs,G,m,l,u⟩:=hrel
   have K:rs.length=k:=by have:=congrArg List.length G;simpa [Nat.min_eq_left hk] using this
   by_cases a0:k<s.size
   ·have a:decide ((k:Int)<(s.size:Int))=true:=by simp;omega
    have H:=U.out _ l.out
    have b9:wrap64 ((k:Int)+1)=(k:Int)+1:=jd (by omega)
    obtain ⟨A5,c5,a1,_⟩:=m.out.tms
    subst a1
    have a8:=oD s k a0
    have b5:=zq a8
    have a3:=zq G
    have Q:=zq K
    clear G a8 K
    by_cases g:q=1
    ·have b1:(q==1)=true:=by simpa using g
     have L:=zq g
     clear g
     have b7:wrap64 (s[k].toNat:Int)=(s[k].toNat:Int):=IntWalk.wrap64_in _ (by have:=s[k].toNat_lt;omega)
     go_wp2_with fail
     rw [b7]
     refine (xW _ _).mono ?_;rintro e j ⟨rfl,d⟩
     have S:=zq (m.out.below d)
     have t:=bz l d
     have f:=zq (u.out.call d)
     have y:Hid (w.heap.size+1<=j.heap.size):=zq (f.out.lt 0 rfl)
     clear d m l u H
     go_wp2_with (at_builtin;go_must (refine iH rfl _ _ rfl (w.heap.size+1) _ rs rfl S.out y.out (pQ s[k].toNat,none,0) rfl rfl rfl (by have:=Q.out;omega) ?_;intro v5 w5 T F;have M:=zq (t.out.trans (F.out.mono (bm _)));have O:=zq (f.out.keep (fun (x:Nat×List aC) hx=>F.out.block x.1 (by rw [aK] at hx;subst hx;exact bK _)))))
     have C:(rs++[((pQ s[k].toNat,none,0):TR)]).map (fun r:TR=>r.1)=(s.data.toList.take (k+1)).map (xy q):=by
      have Z:k<s.data.toList.length:=by simpa using a0
      rw [cF,a3.out,bl Z,cF,da,dV,da,dV,N.out]
      congr 1
      rw [if_pos L.out]
      rfl
     go_roundw
     case rel=>exact ⟨k+1,rfl,by omega,_,C,T,M,O⟩
     case measure=>simp [intOf] <;> omega
    ·have b1:(q==1)=false:=by simpa using g
     have L:=zq g
     clear g
     go_wp2_with fail
     rw [b5.out]
     refine (oX _ (by show 1<=100;omega) _).mono ?_;rintro e j ⟨o,z,rfl,d⟩
     have S:=zq (m.out.below d)
     have t:=bz l d
     have f:=zq (u.out.call d)
     have y:Hid (w.heap.size+1<=j.heap.size):=zq (f.out.lt 0 rfl)
     clear d m l u H
     go_wp2_with (at_builtin;go_must (refine iH rfl _ _ rfl (w.heap.size+1) _ rs rfl S.out y.out (qj ⟨#[s[k]]⟩,o,z) rfl rfl rfl (by have:=Q.out;omega) ?_;intro v5 w5 T F;have M:=zq (t.out.trans (F.out.mono (bm _)));have O:=zq (f.out.keep (fun (x:Nat×List aC) hx=>F.out.block x.1 (by rw [aK] at hx;subst hx;exact bK _)))))
     have C:(rs++[((qj ⟨#[s[k]]⟩,o,z):TR)]).map (fun r:TR=>r.1)=(s.data.toList.take (k+1)).map (xy q):=by
      have Z:k<s.data.toList.length:=by simpa using a0
      rw [cF,a3.out,bl Z,cF,da,dV,da,dV,N.out]
      congr 1
      rw [if_neg L.out]
      rfl
     go_roundw
     case rel=>exact ⟨k+1,rfl,by omega,_,C,T,M,O⟩
     case measure=>simp [intOf] <;> omega
   ·have a:decide ((k:Int)<(s.size:Int))=false:=by simp;omega
    have b6:k=s.size:=by omega
    subst b6
    have C:rs.map (·.1)=s.data.toList.map (xy q):=by rw [G,List.take_of_length_le (by simp)]
    obtain ⟨A5,c5,a1,a6⟩:=m.out.tms
    subst a1
    have a2:Hid (R=la (rs.map (·.1)) kn):=zq (by rw [V.out,C])
    have a4:=zq a6
    have Q:=zq K
    clear G C a6 K
    go_wp2_with fail
    refine (oX ⟨#[91,93]⟩ (by decide) _).mono ?_;rintro e j ⟨o,z,rfl,d⟩
    have a5:=a4.out.keep (fun b a=>d.block b a.2) (fun b a=>(⟨a.1,aA a.2 d.size⟩:w.heap.size+1<=b/\b<j.heap.size))
    have I:=zq (rU (fun b=>w.heap.size+1<=b/\b<j.heap.size) (rs.map (·.1)) A5 rs.length c5 kn o z j (by simp) (fun b a=>a.2) a5 TmsK.nil)
    rw [<-a2.out] at I
    have t:=bz l d
    have f:=zq (u.out.call d)
    clear d a5 l u m a4
    have e4:fI kn o z=aV #[aa ab 2,aa ab 0,ac ⟨#[91,93]⟩,.slice o 0 z]:=rfl
    rw [e4] at I
    go_wp2_with fail
    refine I.out.mono ?_;rintro e w6 ⟨A6,c6,rfl,J,a7⟩
    have a9:=bz t J
    have b0:=zq (f.out.call J)
    have b4:=zq a7
    have y:Hid (w.heap.size+1<=j.heap.size):=zq (f.out.lt 0 rfl)
    have b2:=zq J.size
    clear J a7 I t f a2
    have cc:=b0.out.all
    simp only [aH,aP,ah,af,and_true] at cc
    unfold fI
    go_wp2_with fail
    refine aw (v:=aV #[aa ab R.kind,aa ab R.num,ac R.name,.slice A6 R.args.length c6]) (by simp [results,Tryz.results140,go_sem,cc]) rfl ⟨A6,c6,rfl,gM a9.out _ (ae _) _ _ _ _,?_⟩
    refine b4.out.keep (fun b a=>bH _ _ _ _ _ _ _ ?_) fun b a=>⟨?_,?_⟩
    ·rcases a with a | a
     ·omega
     ·have:=y.out;omega
    ·rcases a with a | a
     ·omega
     ·have:=y.out;omega
    ·rcases a with a | a
     ·have g:=a.2;simp;exact aA g b2.out
     ·simpa using a.2
structure Pz (c:PC) (x:List aC) (NV NO:Nat) (fV:List UInt8->Option Nat) (fO:Nat->Nat) (nv:aC) (m:List (List UInt8×Nat)) (nv0:aC) (w0:au) (L:List (Nat×List aC)) (w:au):Prop where
 ok:c.Ok
 low:c.lo<=w0.heap.size
 bk:Bk w c.P x
 tk:oJ w c.g c.E.T
 ops:OpsAt w c.OA c.E.P
 vm:NumMap am 9 2 w c.V NV fV
 om:CntMap am 2 3 w c.O NO fO
 nm:w.ownsRow c.lo 44 2 nv m.length (eE m)
 s:Stp c nv0 w0 nv w
 bs:Bks w L
 off:∀x∈L,¬c.mine nv x.1/\w0.heap.size<=x.1
theorem Pz.of {c:PC} {n:Nat} {v:VS} {e d:aC} {w0 w:au} {L:List (Nat×List aC)} (h:Wk c n v e w0 d w L) (f:PsAt c n v e w0) (g:∀x∈L,w0.heap.size<=x.1):Pz c (c.cells n v d) v.o.length v.o.length v.look (fun x=>v.o.count x) d v.m e w0 L w :=
 ⟨f.ok,f.low,h.p.bk,h.p.tk,h.p.ops,h.p.vm,h.p.om,h.p.nm,h.s,⟨fun x a=>h.b.bk x (List.mem_append_left _ a),by have:=h.b.ord;rw [cF,List.pairwise_append] at this;exact this.1⟩,fun x a=>⟨h.off x a,g x a⟩⟩
theorem Pz.keep {c:PC} {x:List aC} {d b:Nat} {f:List UInt8->Option Nat} {e:Nat->Nat} {g:aC} {m:List (List UInt8×Nat)} {i:aC} {w0 w w':au} {L:List (Nat×List aC)} (h:Pz c x d b f e g m i w0 L w) (a:aB w.heap.size w w'):Pz c x d b f e g m i w0 L w' :=
 ⟨h.ok,h.low,h.bk.call a,fN h.tk (a.block _ (by have:=h.ok.gl;have:=h.ok.p1;have:=h.low;have:=h.s.size;omega)),h.ops.below a,h.vm.keep (a.block _ h.vm.lt),h.om.keep (a.block _ h.om.lt),dJ h.nm fun k j=>a.block k (h.nm.lt k j).2,h.s.trans (.of a),h.bs.call a,h.off⟩
theorem Pz.turn {c:PC} {x:List aC} {t r:Nat} {v:List UInt8->Option Nat} {u:Nat->Nat} {l:aC} {m:List (List UInt8×Nat)} {p:aC} {w0 w w':au} {L:List (Nat×List aC)} (h:Pz c x t r v u l m p w0 L w) {b:Nat} (j:c.mine l b) (a:w.grownBy w' (some b)) :
  oJ w' c.g c.E.T/\OpsAt w' c.OA c.E.P/\Stp c p w0 l w'/\Bks w' L/\∀k,k<w.heap.size->k≠b->w'.heap[k]? = w.heap[k]?:=by
 have d:∀k,k<w.heap.size->k≠b->w'.heap[k]? = w.heap[k]?:=fun k f i=>a.block k f fun e=>i (by injection e)
 have C:=h.s.size
 have f:=h.ok.p1
 have i:=h.ok.v1
 have z:=h.ok.o1
 have B:=h.low
 have A:c.B1<=b:=by
  rcases j with e | e | e | e
  ·omega
  ·omega
  ·omega
  ·have:=(h.nm.lt b e).1;omega
 refine ⟨fN h.tk (d _ (by have:=h.ok.gl;omega) (by have:=h.ok.gl;omega)),ii h.ops a.size (fun n k q e=>d k (by have:=h.ok.ob n k q e;omega) (by have:=h.ok.ob n k q e;omega)),h.s.trans ⟨a.os,a.tape,a.output,a.size,fun k f i=>d k f (fun e=>i (e ▸ j)),fun _ h=>.inl h⟩,h.bs.keep fun y o=>d _ (h.bs.bk y o).lt (fun e=>(h.off y o).1 (e ▸ j)),d⟩
theorem Pz.cell {c:PC} {x:List aC} {d b:Nat} {g:List UInt8->Option Nat} {f:Nat->Nat} {l:aC} {m:List (List UInt8×Nat)} {n:aC} {w0 w:au} {L:List (Nat×List aC)} (h:Pz c x d b g f l m n w0 L w) (i:Nat) (u:aC):Pz c (x.set i u) d b g f l m n w0 L (w.setCell ⟨c.P,i,none⟩ u):=by
 have s:w.grownBy (w.setCell ⟨c.P,i,none⟩ u) (some c.P):=⟨rfl,rfl,rfl,by simp,fun k _ a=>aW _ _ _ _ (fun e=>a (by rw [e]))⟩
 obtain ⟨o,p,q,r,a⟩:=h.turn (.inl rfl) s
 exact ⟨h.ok,h.low,h.bk.set i u,o,p,h.vm.keep (a _ h.vm.lt (fun e=>h.ok.pv e.symm)),h.om.keep (a _ h.om.lt (fun e=>h.ok.po e.symm)),dJ h.nm (fun k j=>a k (h.nm.lt k j).2 (by have:=(h.nm.lt k j).1;have:=h.ok.p1;omega)),q,r,h.off⟩
theorem Pz.vput {c:PC} {x:List aC} {n d b:Nat} {o f:List UInt8->Option Nat} {g:Nat->Nat} {j:aC} {m:List (List UInt8×Nat)} {l:aC} {w0 w w':au} {L:List (Nat×List aC)} (h:Pz c x n d o g j m l w0 L w) (u:NumMap am 9 2 w' c.V b f) (t:w.grownBy w' (some c.V)):Pz c x b d f g j m l w0 L w':=by
 obtain ⟨p,q,r,s,a⟩:=h.turn (.inr (.inl rfl)) t
 exact ⟨h.ok,h.low,h.bk.keeps (a _ h.bk.lt h.ok.pv),p,q,u,h.om.keep (a _ h.om.lt (fun e=>h.ok.vo e.symm)),dJ h.nm (fun k i=>a k (h.nm.lt k i).2 (by have:=(h.nm.lt k i).1;have:=h.ok.v1;omega)),r,s,h.off⟩
theorem Pz.oput {c:PC} {x:List aC} {d l b:Nat} {f:List UInt8->Option Nat} {n e:Nat->Nat} {i:aC} {m:List (List UInt8×Nat)} {j:aC} {w0 w w':au} {L:List (Nat×List aC)} (h:Pz c x d l f n i m j w0 L w) (t:CntMap am 2 3 w' c.O b e) (s:w.grownBy w' (some c.O)):Pz c x d b f e i m j w0 L w':=by
 obtain ⟨o,p,q,r,a⟩:=h.turn (.inr (.inr (.inl rfl))) s
 exact ⟨h.ok,h.low,h.bk.keeps (a _ h.bk.lt h.ok.po),o,p,h.vm.keep (a _ h.vm.lt h.ok.vo),t,dJ h.nm (fun k g=>a k (h.nm.lt k g).2 (by have:=(h.nm.lt k g).1;have:=h.ok.o1;omega)),q,r,h.off⟩
theorem Pz.grow {c:PC} {x:List aC} {u t:Nat} {z:List UInt8->Option Nat} {v:Nat->Nat} {i l:aC} {m:List (List UInt8×Nat)} {C:aC} {w0 w w':au} {L:List (Nat×List aC)} (h:Pz c x u t z v i m C w0 L w) (p:List UInt8×Nat)
  (E:w'.ownsRow c.lo 44 2 l (m.length+1) (eE m++[ac ⟨p.1.toArray⟩,aa ab (p.2:Int)])) (g:w.grownBy w' i.ownBlock) (A:l.ownBlock=i.ownBlock\/l.ownBlock=some w.heap.size):Pz c x u t z v l (m++[p]) C w0 L w':=by
 have f:∀k,k<w.heap.size->i.ownBlock≠some k->w'.heap[k]? = w.heap[k]?:=fun k q n=>g.block k q fun e=>n e.symm
 have j:∀k,k<c.lo->i.ownBlock≠some k:=fun k q n=>by have:=(h.nm.lt k n).1;omega
 have I:=h.s.size
 have q:=h.ok.p1
 have n:=h.ok.v1
 have G:=h.ok.o1
 have H:=h.low
 have F:Stp c i w l w':=⟨g.os,g.tape,g.output,g.size,fun b d r=>f b d (fun e=>r (.inr (.inr (.inr e)))),fun b d=>by
  rcases A with e | e
  ·rw [e] at d;exact .inl d
  ·rw [e] at d;injection d with d;exact .inr (by omega)⟩
 refine ⟨h.ok,h.low,h.bk.keeps (f _ h.bk.lt (j _ (by omega))),fN h.tk (f _ (by have:=h.ok.gl;omega) (j _ (by have:=h.ok.gl;omega))),ii h.ops g.size (fun B k D e=>f k (by have:=h.ok.ob B k D e;omega) (j _ (by have:=h.ok.ob B k D e;omega))),h.vm.keep (f _ h.vm.lt (j _ (by omega))),h.om.keep (f _ h.om.lt (j _ (by omega))),?_,h.s.trans F,h.bs.keep fun y a=>f _ (h.bs.bk y a).lt (fun e=>(h.off y a).1 (.inr (.inr (.inr e)))),fun y a=>⟨fun r=>?_,(h.off y a).2⟩⟩
 ·unfold eE at *
  rw [List.flatMap_append,List.length_append]
  exact E
 ·rcases r with e | e | e | e
  ·exact (h.off y a).1 (.inl e)
  ·exact (h.off y a).1 (.inr (.inl e))
  ·exact (h.off y a).1 (.inr (.inr (.inl e)))
  ·rcases A with o | o
   ·rw [o] at e;exact (h.off y a).1 (.inr (.inr (.inr e)))
   ·rw [o] at e;injection e with e
    have:=(h.bs.bk y a).lt;omega
theorem Pz.back {c:PC} {n:Nat} {v:VS} {a:aC} {A:aC} {w0 w:au} {L:List (Nat×List aC)} {b d:Nat} {f:List UInt8->Option Nat} {e:Nat->Nat} {m:List (List UInt8×Nat)} {x:List aC} (h:Pz c x b d f e a m A w0 L w) (z:x=c.cells n v a) (g:b<=v.o.length) (i:d<=v.o.length) (l:f=v.look) (k:e=fun x=>v.o.count x) (p:m=v.m) (q:n<c.E.T.length) (y:v.o.length<=n) (u:v.Ok):PsAt c n v a w:=by
 subst z l k p
 have t:CntMap am 2 3 w c.O v.o.length (fun x=>v.o.count x):=by
  obtain ⟨D,r,j⟩:=h.om;exact ⟨D,r.mono i,j⟩
 exact ⟨h.ok,aQ h.low h.s.size,h.bk,h.tk,h.ops,h.vm.mono g,t,h.nm,q,y,u⟩
theorem Pz.put4 {c:PC} {x:List aC} {v u:Nat} {B:List UInt8->Option Nat} {A:Nat->Nat} {t:aC} {m:List (List UInt8×Nat)} {D:aC} {w0 w:au} {L:List (Nat×List aC)} (h:Pz c x v u B A t m D w0 L w) (j:Nat) {g:Nat} {u0 u1 u2 u3:aC} (r:L[j]? = some (g,[u0,u1,u2,u3])) (d f i l:aC) :
  Pz c x v u B A t m D w0 (L.set j (g,[d,f,i,l])) ((((w.setCell ⟨g,0,none⟩ d).setCell ⟨g,1,none⟩ f).setCell ⟨g,2,none⟩ i).setCell ⟨g,3,none⟩ l):=by
 have p:=h.bs.set4 j r d f i l
 have q:=h.off _ (List.mem_of_getElem? r)
 have a:∀k,k≠g->((((w.setCell ⟨g,0,none⟩ d).setCell ⟨g,1,none⟩ f).setCell ⟨g,2,none⟩ i).setCell ⟨g,3,none⟩ l).heap[k]? = w.heap[k]?:=fun k a=>by
  rw [aW _ _ _ _ a,aW _ _ _ _ a,aW _ _ _ _ a,aW _ _ _ _ a]
 have o:∀k,c.mine t k->k≠g:=fun k n e=>q.1 (e ▸ n)
 have C:∀k,k<c.B1->k≠g:=fun k n e=>by have:=q.2;have:=h.low;have:=h.ok.p1;simp only at *;omega
 refine ⟨h.ok,h.low,h.bk.keeps (a _ (o _ (.inl rfl))),fN h.tk (a _ (C _ h.ok.gl)),ii h.ops (by simp) (fun F b I e=>a b (C b (h.ok.ob F b I e))),h.vm.keep (a _ (o _ (.inr (.inl rfl)))),h.om.keep (a _ (o _ (.inr (.inr (.inl rfl))))),dJ h.nm (fun b p=>a b (o b (.inr (.inr (.inr p))))),⟨h.s.os,h.s.tape,h.s.output,by simpa using h.s.size,fun b E n=>(a b (by have:=q.2;simp only at *;omega)).trans (h.s.block b E n),h.s.own⟩,p,fun y G=>?_⟩
 obtain ⟨z,H,e⟩:=oT [d,f,i,l] r y G
 rw [<-e];exact h.off z H
theorem tf {B:Nat} {w0 w:au} (h:aB B w0 w) (g:Nat) (a:B<=g) (x y z u:aC):aB B w0 ((((w.setCell ⟨g,0,none⟩ x).setCell ⟨g,1,none⟩ y).setCell ⟨g,2,none⟩ z).setCell ⟨g,3,none⟩ u) :=
 (((h.setCell (p:=⟨_,_,none⟩) a _).setCell (p:=⟨_,_,none⟩) a _).setCell (p:=⟨_,_,none⟩) a _).setCell (p:=⟨_,_,none⟩) a _
theorem sw:(Tryz.prog.info? 44).map (fun i=>(i.zero,i.size,i.bytes))=some (some (aV #[ac ⟨#[]⟩,aa ab 0]),2,24):=by kernel_rfl
theorem oK {w W:au} {r:Array Oper} {t:List Oper} {o:Oper} {a:Act} {Q:Exit->Act->au->Prop} (A:o.guard=none) (s x:Operand)
  (D:o.op=.call { callee:=.builtin .append,args:=#[s,x],argTypes:=#[31,31] }) {c:PC} {u:List aC} {g f:Nat} {l:List UInt8->Option Nat} {k:Nat->Nat} {e:aC} {m:List (List UInt8×Nat)} {q:aC} {w0:au} {L:List (Nat×List aC)} (h:Pz c u g f l k e m q w0 L W) (F:a.eval s=e)
  (p:List UInt8×Nat) (G:w=W.alloc (.cells #[ac ⟨p.1.toArray⟩,aa ab (p.2:Int)] 44)) (H:a.eval x=.slice (some ⟨W.heap.size,0,none⟩) 1 1) (O:m.length<=100000)
  (K:∀d w',Hid (Pz c u g f l k d (m++[p]) q w0 L w')->cq am r Q t (a.put o.dst d) w'):cq am r Q (o::t) a w:=by
 obtain ⟨i,C,I,J,M⟩:=info_parts sw
 subst G
 have v:aB W.heap.size W (W.alloc (.cells #[ac ⟨p.1.toArray⟩,aa ab (p.2:Int)] 44)):=(ap _ _).alloc (ae _) _
 have n:=h.keep v
 have N:c.lo<=W.heap.size:=aQ h.low h.s.size
 refine eP _ A s x 31 D c.lo 44 i _ 2 24 Tryz.underlying31 C I J M rfl (by decide) e m.length (eE m) F n.nm ⟨W.heap.size,0,none⟩ 1 1 [ac ⟨p.1.toArray⟩,aa ab (p.2:Int)] H rfl ?_ (by
   intro y b
   simp only [bh,be,or_false] at b
   rcases b with rfl|rfl <;> rfl) (by unfold bF;omega) (by omega) (by simp;omega) ?_
 ·intro j y b
  rw [eO]
  have:=aF W #[ac ⟨p.1.toArray⟩,aa ab (p.2:Int)] 44 j
  rw [show 0+j=j by omega,this]
  simpa using b
 ·intro d w' E B _ z
  exact K d w' (zq (n.grow p E B z))
theorem VS.step_look (v:VS) (x:List UInt8):(v.step x).look=if v.old x=true\/x=[95] then v.look else oL v.look x (some v.c):=by
 funext y
 by_cases h:v.old x=true\/x=[95]
 ·rw [if_pos h]
  unfold VS.look VS.step
  simp only [h,if_true]
 ·rw [if_neg h]
  have b:¬x=[95]:=fun e=>h (.inr e)
  have a:v.look x=none:=by
   cases hk:v.look x with
   | none=>rfl
   | some k=>exact absurd (.inl (by unfold VS.old;simp [b,hk])) h
  have:=VS.look_snoc v x v.c (v.step x).c (v.step x).o a y
  unfold oL
  rw [<-this]
  unfold VS.look VS.step
  simp only [h,if_false]
theorem pY (v:VS) (x:List UInt8):oL (fun y=>v.o.count y) (v.num x) (v.o.count (v.num x)+1)=fun y=>(v.step x).o.count y:=by
 funext y
 unfold oL VS.step
 simp only [List.count_append,List.count_singleton]
 by_cases e:y=v.num x
 ·subst e;simp
 ·rw [if_neg e];simp;exact fun h=>e h.symm
theorem xV (n:Int) (a:0<=n/\n<=1099511627776) (w:au):aU am 174 #[aa ab n] w fun e w'=>e=aD (aV #[aa ab 0,aa ab n,ac ⟨#[]⟩,.slice none 0 0])/\aB w.heap.size w w':=by
 have f:∀W:au,aU am 196 #[aa ab n] W fun e w'=>e=aD (av true)/\aB W.heap.size W w':=fun W=>by
  have j:decide (0<=n)=true:=decide_eq_true a.1
  have k:decide (n<=1099511627776)=true:=decide_eq_true a.2
  clear a
  go_enter Tryz.func196,Tryz.ntmps196
  go_wp2_with fail
  go_ret
  exact ⟨rfl,ap _ _⟩
 have h:=zq f
 have b:=zq ((ap w.heap.size w).alloc (ae _) (.cells #[aa ab 0,aa ab 0,ac ⟨#[]⟩,.slice none 0 0] 30))
 have g:=zq ((Bks.nil w).new [aa ab 0,aa ab 0,ac ⟨#[]⟩,.slice none 0 0] 30 rfl)
 clear a f
 go_enter Tryz.func174,Tryz.ntmps174
 go_wp2_with fail
 refine (h.out _).mono ?_;rintro e l ⟨rfl,d⟩
 have c:=(g.out.call d).all
 simp only [aH,aP,ah,af,and_true] at c
 have i:=b.out.trans (d.mono b.out.size)
 go_wp2_with fail
 refine aw (v:=aV #[aa ab 0,aa ab n,ac ⟨#[]⟩,.slice none 0 0]) (by simp [results,Tryz.results174,go_sem,c]) rfl ⟨rfl,?_⟩
 exact tf i _ (ae _) _ _ _ _
theorem AQ (w:au):(zeroValue 2).run am w=.ok (aa ab 0) w:=by kernel_rfl
theorem AH (w:au):(zeroValue 3).run am w=.ok (aa ab 0) w:=by kernel_rfl
theorem sW {c:PC} {n:Nat} {v:VS} {nv:aC} {w:au} (p:PsAt c n v nv w) (t:ByteArray) (ht:t.size<=20000) (hn:v.o.length<n):aU am 139 #[ar (some ⟨c.P,0,none⟩),ac t] w fun e w'=>e=aD (aV #[aa ab 0,aa ab (v.num t.data.toList:Nat),ac ⟨#[]⟩,.slice none 0 0])/\∃i,PsAt c n (v.step t.data.toList) i w'/\Stp c nv w i w':=by
 have a7:v.o.length<=20000:=by have:=p.n1;have:=p.ok.len;omega
 have b3:v.c<=20000:=by have:=p.vc.co;omega
 have b4:v.m.length<=20000:=by have:=p.vc.mo;omega
 have c0:=VS.num_le p.vc t.data.toList
 have hK:v.num t.data.toList<=20000:=by omega
 have h0:=Pz.of ((Wk.start p).new [aa ab 0,aa ab 0,ac ⟨#[]⟩,.slice none 0 0] 30 rfl) p (by intro x a;rw [aK] at a;subst a;exact ae _)
 obtain ⟨lc,lb,M,b2⟩:=h0.vm.look bo Tryz.underlying69 gH t (by unfold bF;omega) (AQ _)
 obtain ⟨W0,Z⟩:=lz (w.alloc (.cells #[aa ab 0,aa ab 0,ac ⟨#[]⟩,.slice none 0 0] 30))
 have g:=zq h0
 rw [<-Z.out] at g M
 have R:=zq a7
 have J:=zq b3
 have b7:=zq b4
 have HK:=zq hK
 have a2:=zq (⟨p.n1,hn,p.vc⟩:n<c.E.T.length/\v.o.length<n/\v.Ok)
 have Q:=zq b2
 have I:Hid ((t.toList==[95])=decide (t.data.toList=[95])):=zq (by rw [eM];by_cases h:t.data.toList=[95] <;> simp [h])
 have b1:∀(W:au) (f:Nat->Nat) (N:Nat),CntMap am 2 3 W c.O N f->N<=20000->f (v.num t.data.toList)<=20000->(Instr.lookup 70 (.map (some c.O)) (aa ab (v.num t.data.toList:Nat)) false).run am W=.ok (aa ab (f (v.num t.data.toList):Nat)) W/\∃W',(Instr.mapUpdate 70 (.map (some c.O)) (aa ab (v.num t.data.toList:Nat)) (aa ab ((f (v.num t.data.toList):Nat)+1:Int))).run am W=.ok () W'/\CntMap am 2 3 W' c.O (N+1) (oL f (v.num t.data.toList) (f (v.num t.data.toList)+1))/\W.grownBy W' (some c.O):=fun W f N h h1 h2=>
  ⟨h.look gH Tryz.underlying70 ez _ (by omega) (AH _),h.put gH Tryz.underlying70 ez _ (f (v.num t.data.toList)+1) (by omega) (by unfold bF;omega) (by omega)⟩
 have a3:=zq b1
 have b0:v.o.count (v.num t.data.toList)<=20000:=aQ List.count_le_length a7
 have G:=zq b0
 clear a7 b3 b4 c0 hK h0 b2 b1 b0 p hn
 have a4:Hid (∀(N1 N2:Nat) (fV:List UInt8->Option Nat) (fO:Nat->Nat) (i:aC) (m:List (List UInt8×Nat)) (x:List aC) (W:au) (L:List (Nat×List aC)),Pz c x N1 N2 fV fO i m nv w L W->x=c.cells n (v.step t.data.toList) i->N1<=v.o.length+1->N2<=v.o.length+1->fV=(v.step t.data.toList).look->fO=(fun y=>(v.step t.data.toList).o.count y)->m=(v.step t.data.toList).m->∃i,PsAt c n (v.step t.data.toList) i W/\Stp c nv w i W):=zq fun N1 N2 fV fO i m x W L h a h1 h2 hV hO hm=>
  ⟨i,h.back a (by rw [VS.step_len];exact h1) (by rw [VS.step_len];exact h2) hV hO hm a2.out.1 (by rw [VS.step_len];exact a2.out.2.1) (VS.step_ok a2.out.2.2 _),h.s⟩
 by_cases b:v.old t.data.toList=true
 ·obtain ⟨a,k,K⟩:=VS.look_old b
  have a1:(t.toList==[95])=false:=by rw [I.out];simpa using a
  obtain ⟨rfl,rfl⟩:=Q.out a
  have j:v.num t.data.toList=k:=by unfold VS.num;rw [if_neg a,K];rfl
  have e1:(v.look t.data.toList).isSome=true:=by rw [K];rfl
  have e2:(v.look t.data.toList).getD 0=v.num t.data.toList:=by rw [K,j];rfl
  rw [e1,e2] at M
  have d:Hid ((v.step t.data.toList).c=v.c/\(v.step t.data.toList).m=v.m/\(v.step t.data.toList).look=v.look):=zq ⟨by unfold VS.step;simp [b],by unfold VS.step;simp [b],by rw [VS.step_look,if_pos (.inl b)]⟩
  have C:=Z.out
  clear Q I b a K j e1 e2
  have r:=g.out.bk.all0
  simp only [PC.cells,an,ao,aP,ah,af,and_true] at r
  obtain ⟨D,c3,F,B,A⟩:=a3.out W0 _ _ g.out.om (by have:=R.out;omega) G.out
  have b5:=zq (g.out.oput B A)
  have a0:wrap64 ((v.o.count (v.num t.data.toList):Int)+1)=(v.o.count (v.num t.data.toList):Int)+1:=jd (by have:=G.out;omega)
  clear B A
  go_enter Tryz.func139,Tryz.ntmps139
  go_upto_region 1 with fail
  rw [<-C]
  clear C
  go_wp2_with fail
  clear r M D F
  refine (xV (v.num t.data.toList:Nat) (by have:=HK.out;omega) _).mono ?_;rintro e wl ⟨rfl,z⟩
  have q:=zq (b5.out.keep z)
  clear z
  have u:=q.out.bs.all
  simp only [aH,aP,ah,af,and_true] at u
  go_wp2_with fail
  refine aw (v:=aV #[aa ab 0,aa ab (v.num t.data.toList:Nat),ac ⟨#[]⟩,.slice none 0 0]) (by simp [results,Tryz.results139,go_sem,u]) rfl ⟨rfl,?_⟩
  have X:=q.out.put4 0 rfl (aa ab 0) (aa ab (v.num t.data.toList:Nat)) (ac ⟨#[]⟩) (.slice none 0 0)
  exact a4.out _ _ _ _ _ _ _ _ _ X (by unfold PC.cells;rw [d.out.1]) (bm _) (ae _) d.out.2.2.symm (pY v _) d.out.2.1.symm
 by_cases a:t.data.toList=[95]
 ·have a1:(t.toList==[95])=true:=by rw [I.out];simpa using a
  have c1:(t.toList != [95])=false:=by simp [bne,a1]
  have j:v.num t.data.toList=v.c:=by unfold VS.num;rw [if_pos a]
  have d:Hid ((v.step t.data.toList).c=v.c+1/\(v.step t.data.toList).m=v.m/\(v.step t.data.toList).look=v.look):=zq ⟨by unfold VS.step;simp [b],by unfold VS.step;simp [a],by rw [VS.step_look,if_pos (.inr a)]⟩
  have C:=Z.out
  have b8:wrap64 ((v.c:Int)+1)=(v.c:Int)+1:=jd (by have:=J.out;omega)
  obtain ⟨w2,a6,V,U⟩:=(g.out.cell 6 (aa ab ((v.c:Int)+1))).vm.put bo Tryz.underlying69 gH t v.c (by unfold bF;omega) (by have:=R.out;unfold bF;omega) (by have:=J.out;omega)
  have l:=zq ((g.out.cell 6 (aa ab ((v.c:Int)+1))).vput V U)
  clear V U
  rw [if_pos a] at l
  have r:=g.out.bk.all0
  simp only [PC.cells,an,ao,aP,ah,af,and_true] at r
  have S:=l.out.bk.all0
  simp only [PC.cells,an,ao,aP,ah,af,and_true] at S
  obtain ⟨D,c4,F,B,A⟩:=a3.out w2 _ _ l.out.om (by have:=R.out;omega) G.out
  have H:=zq (l.out.oput B A)
  have a0:wrap64 ((v.o.count (v.num t.data.toList):Int)+1)=(v.o.count (v.num t.data.toList):Int)+1:=jd (by have:=G.out;omega)
  clear B A
  rw [j] at D F a0
  have Y:=zq j
  clear Q I b a j
  cases lb
  all_goals
   go_enter Tryz.func139,Tryz.ntmps139
   go_upto_region 1 with fail
   rw [<-C]
   clear C
   go_wp2_with fail
   clear r S M D F a6
   refine (xV (v.c:Nat) (by have:=J.out;omega) _).mono ?_;rintro e wl ⟨rfl,z⟩
   have q:=zq (H.out.keep z)
   clear z
   have u:=q.out.bs.all
   simp only [aH,aP,ah,af,and_true] at u
   go_wp2_with fail
   refine aw (v:=aV #[aa ab 0,aa ab (v.c:Nat),ac ⟨#[]⟩,.slice none 0 0]) (by simp [results,Tryz.results139,go_sem,u]) rfl ⟨by rw [Y.out],?_⟩
   have X:=q.out.put4 0 rfl (aa ab 0) (aa ab (v.c:Nat)) (ac ⟨#[]⟩) (.slice none 0 0)
   exact a4.out _ _ _ _ _ _ _ _ _ X (by unfold PC.cells;rw [d.out.1];rfl) (ae _) (ae _) d.out.2.2.symm (pY v _) d.out.2.1.symm
 have a1:(t.toList==[95])=false:=by rw [I.out];simpa using a
 have c1:(t.toList != [95])=true:=by simp [bne,a1]
 have a5:v.look t.data.toList=none:=by
  cases K:v.look t.data.toList with
  | none=>rfl
  | some k=>exact absurd (by unfold VS.old;simp [a,K]) b
 obtain ⟨rfl,rfl⟩:=Q.out a
 rw [a5] at M
 have j:v.num t.data.toList=v.c:=by unfold VS.num;rw [if_neg a,a5];rfl
 have d:Hid ((v.step t.data.toList).c=v.c+1/\(v.step t.data.toList).m=v.m++[(t.data.toList,v.c)]/\(v.step t.data.toList).look=oL v.look t.data.toList (some v.c)):=zq ⟨by unfold VS.step;simp [b],by unfold VS.step;simp [b,a],by rw [VS.step_look,if_neg (by simp [b,a])]⟩
 have C:=Z.out
 have b8:wrap64 ((v.c:Int)+1)=(v.c:Int)+1:=jd (by have:=J.out;omega)
 obtain ⟨w2,a6,V,U⟩:=(g.out.cell 6 (aa ab ((v.c:Int)+1))).vm.put bo Tryz.underlying69 gH t v.c (by unfold bF;omega) (by have:=R.out;unfold bF;omega) (by have:=J.out;omega)
 have l:=zq ((g.out.cell 6 (aa ab ((v.c:Int)+1))).vput V U)
 clear V U
 rw [if_neg a] at l
 have r:=g.out.bk.all0
 simp only [PC.cells,an,ao,aP,ah,af,and_true] at r
 have S:=l.out.bk.all0
 simp only [PC.cells,an,ao,aP,ah,af,and_true] at S
 have Y:=zq j
 clear Q I b a j a5
 go_enter Tryz.func139,Tryz.ntmps139
 go_upto_region 1 with fail
 rw [<-C]
 clear C
 go_wp2_with (at_builtin;go_must (refine oK rfl _ _ rfl l.out rfl (t.data.toList,v.c) rfl rfl (by have:=b7.out;omega) ?_;intro c2 w3 H;(obtain ⟨A3,k3,rfl⟩:=fp H.out.nm);(obtain ⟨n3,b9⟩:∃n3,(v.m++[(t.data.toList,v.c)]).length=n3:=⟨_,rfl⟩);rw [b9] at H |-;have a8:=zq (H.out.cell 7 (.slice A3 n3 k3));(obtain ⟨D,c5,F,B,A⟩:=a3.out (w3.setCell ⟨c.P,7,none⟩ (.slice A3 n3 k3)) _ _ a8.out.om (by have:=R.out;omega) G.out);have b6:=zq (a8.out.oput B A);have a0:wrap64 ((v.o.count (v.num t.data.toList):Int)+1)=(v.o.count (v.num t.data.toList):Int)+1:=jd (by have:=G.out;omega);rw [Y.out] at D F a0;clear B A;have a9:=H.out.bk.all0;simp only [PC.cells,an,ao,aP,ah,af,and_true] at a9))
 clear r S a9 M D F a6
 refine (xV (v.c:Nat) (by have:=J.out;omega) _).mono ?_;rintro e wl ⟨rfl,z⟩
 have q:=zq (b6.out.keep z)
 clear z
 have u:=q.out.bs.all
 simp only [aH,aP,ah,af,and_true] at u
 go_wp2_with fail
 refine aw (v:=aV #[aa ab 0,aa ab (v.c:Nat),ac ⟨#[]⟩,.slice none 0 0]) (by simp [results,Tryz.results139,go_sem,u]) rfl ⟨by rw [Y.out],?_⟩
 have X:=q.out.put4 0 rfl (aa ab 0) (aa ab (v.c:Nat)) (ac ⟨#[]⟩) (.slice none 0 0)
 exact a4.out _ _ _ _ _ _ _ _ _ X (by unfold PC.cells;rw [d.out.1];rfl) (ae _) (ae _) d.out.2.2.symm (pY v _) d.out.2.1.symm
end Go.Proofs.YtbojljpldcijgaaGreat
namespace Hb
open Go Go.RowKit
def rZ (a:List Tm):RR (List Tm×Nat)->RR (List Tm×Nat)
 | .error k=>.error k
 | .ok (l,m)=>.ok (a++l,m)
theorem yq (r:RR (List Tm×Nat)):rZ [] r=r:=by cases r <;> rfl
theorem tg (a b:List Tm) (r:RR (List Tm×Nat)):rZ a (rZ b r)=rZ (a++b) r:=by
 cases r with
 | error k=>rfl
 | ok x=>simp [rZ]
theorem kO (E:RE) (S:PT) (k n:Nat):qp E S (k+1) n=match S 999 n with
  | .error e=>.error e
  | .ok (t,_,m)=>if dp (E.at m) [44]=true then rZ [t] (qp E S k (m+1)) else .ok ([t],m):=by
 rw [qp]
 cases S 999 n with
 | error e=>rfl
 | ok x=>
  simp only
  split
  ·cases qp E S k (x.2.2+1) <;> rfl
  ·rfl
end Hb
namespace Go.Proofs.YtbojljpldcijgaaGreat
open Go.RowKit Hb
def TOut (c:PC) (n:Nat) (a:aC) (w0:au) (r:RR (Tm×Int×Nat)) (e:Ending) (w':au):Prop:=match r with
 | .error k=>AG c a w0 k e w'
 | .ok (t,p,m)=>n<m/\∃A cap nv',e=aD (aJ #[fI t A cap,aa ab p])/\PsAt c m (bv c.E.T m) nv' w'/\Stp c a w0 nv' w'/\TmsK (c.new nv' w0 w') w' A t.args
def CK (c:PC) (n:Nat) (a:aC) (w0:au) (r:RR (List Tm×Nat)) (e:Ending) (w':au):Prop:=match r with
 | .error k=>AG c a w0 k e w'
 | .ok (l,m)=>n<m/\∃A cap nv',e=aD (.slice A l.length cap)/\PsAt c m (bv c.E.T m) nv' w'/\Stp c a w0 nv' w'/\TmsK (c.new nv' w0 w') w' A l
def BOut (c:PC) (n:Nat) (a:aC) (w0:au) (r:RR (Tm×Nat)) (e:Ending) (w':au):Prop:=match r with
 | .error k=>AG c a w0 k e w'
 | .ok (t,m)=>n<m/\∃A cap nv',e=aD (fI t A cap)/\PsAt c m (bv c.E.T m) nv' w'/\Stp c a w0 nv' w'/\TmsK (c.new nv' w0 w') w' A t.args
def CL (c:PC) (n:Nat) (a:aC) (w0:au) (r:RR (Option Tm×Nat)) (e:Ending) (w':au):Prop:=match r with
 | .error k=>AG c a w0 k e w'
 | .ok (some t,m)=>n<m/\∃A cap nv',e=aD (aJ #[fI t A cap,av true])/\PsAt c m (bv c.E.T m) nv' w'/\Stp c a w0 nv' w'/\TmsK (c.new nv' w0 w') w' A t.args
 | .ok (none,m)=>m=n/\e=aD (aJ #[aV #[aa ab 0,aa ab 0,ac ⟨#[]⟩,.slice none 0 0],av false])/\PsAt c n (bv c.E.T n) a w'/\Stp c a w0 a w'
def qi (c:PC) (S:PT) (k:Nat):Prop:=∀(a:Int) (n:Nat) (b:aC) (w:au),k<=n->PsAt c n (bv c.E.T n) b w->aU am 56 #[ar (some ⟨c.P,0,none⟩),aa ab a] w (TOut c n b w (S a n))
theorem PsAt.skip {c:PC} {n:Nat} {a:aC} {w:au} (b:mB (c.E.at n)=false) (d:n<c.E.T.length) (p:PsAt c (n+1) (bv c.E.T n) a w):PsAt c (n+1) (bv c.E.T (n+1)) a w:=by rw [fU d b];exact p
theorem yh {c:PC} {S:PT} {k n:Nat} {H:aC} {w:au} (hS:qi c S k) (hk:k<=n) (p:PsAt c n (bv c.E.T n) H w) :
  aU am 180 #[ar (some ⟨c.P,0,none⟩)] w (CK c n H w (kN c.E S n)):=by
 obtain ⟨R,W⟩:=lz (kN c.E S n)
 rw [<-W.out]
 have HS:=zq hS
 have b9:=zq (Wk.start p)
 have HK:=zq hk
 have b5:=zq p.ok.len
 clear p hS hk
 go_enter Tryz.func180,Tryz.ntmps180
 go_wp2_with fail
 go_loopw [3] (fun v3 wr=>∃(a:Nat) (I:aC) (rs:List TR) (j:Nat),n<=a/\(rs=[]\/n<a)/\c.E.T.length<=a+j/\rs.length<=a/\Hid (Wk c a (bv c.E.T a) H w I wr [])/\Hid (OwnT c I w wr [] v3 rs)/\Hid (R=rZ (rs.map (·.1)) (qp c.E S j a))) (fun _ wr=>match wr.cell? ⟨c.P,1,none⟩ with | some (aa _ i)=>c.E.T.length-i.toNat | _=>0)
 case atStart=>exact ⟨n,H,[],c.E.T.length,ae _,.inl rfl,by omega,bc _,b9,zq (OwnT.nul _ _ _ _ _),zq (by rw [W.out,dV,yq];rfl)⟩
 case round=>
  obtain ⟨a,I,rs,j,L,c6,hj,a8,q,C,u⟩:=hrel
  have a2:=q.out.p.n1
  obtain ⟨j,rfl⟩:∃i,j=i+1:=⟨j-1,by omega⟩
  obtain ⟨O,Z,c7,_⟩:=C.out.tms
  subst c7
  have v:=zq (HS.out 999 a I wr (aQ HK.out L) q.out.p)
  have g:=zq (kO c.E S j a)
  have o:=zq (⟨L,hj,a8,a2⟩:_/\_/\_/\_)
  have a6:wr.cell? ⟨c.P,1,none⟩=some (aa ab (a:Int)):=q.out.p.bk.c 1 _ rfl
  have b7:=zq a6
  clear L c6 hj a8 a2 a6
  rcases hs:S 999 a with e | ⟨t,pr,m⟩
  ·rw [hs] at v g
   have z:Hid (R=.error e):=zq (by rw [u.out,g.out];rfl)
   rw [z.out]
   clear hs u g
   go_wp2_with fail
   refine v.out.mono ?_;rintro e l ⟨rfl,c5⟩
   exact ⟨rfl,rfl,q.out.fall c5⟩
  ·rw [hs] at v g
   clear hs
   go_wp2_with fail
   refine v.out.mono ?_;rintro e l ⟨a3,f,r,B,rfl,a4,M,a9⟩
   have V:=zq (q.out.step a4 M)
   have U:=zq (C.out.step M)
   have b3:=q.out.s.size
   have b0:TmsK (fun b=>(c.new B w l b/\b ∉ ([]:List Nat))/\(dc O rs.length Z).ownBlock≠some b) l f t.args:=a9.keep (fun _ _=>rfl) fun b d=>⟨⟨⟨aQ b3 d.1,d.2⟩,by simp⟩,fun e=>by
    have:=(C.out.own.lt b e).2;have:=d.1;omega⟩
   have X:=zq b0
   have Q:=zq a3
   clear a4 M a9 b0 a3 v q C b3
   obtain ⟨wb,G⟩:=lz (l.alloc (.cells #[aa ab t.kind,aa ab t.num,ac t.name,.slice f t.args.length r] 30))
   have A:aB l.heap.size l wb:=by rw [G.out];exact (ap _ _).alloc (ae _) _
   have a0:Bk wb l.heap.size [aa ab t.kind,aa ab t.num,ac t.name,.slice f t.args.length r]:=by rw [G.out];exact Bk.new l _ _
   have F:=zq (V.out.call A)
   have J:=zq (U.out.call A)
   have Y:=zq (X.out.keep (fun b d=>A.block b d.1.1.2.1) fun b d=>(⟨⟨⟨d.1.1.1,aA d.1.1.2.1 A.size,d.1.1.2.2⟩,d.1.2⟩,d.2⟩:(c.new B w wb b/\b ∉ ([]:List Nat))/\(dc O rs.length Z).ownBlock≠some b))
   have cb:=a0.all0
   simp only [aP,ah,af,and_true] at cb
   have c1:Hid (w.heap.size<=wb.heap.size):=zq F.out.s.size
   have c0:Hid (rs.length<=100000):=zq (by have:=o.out;have:=b5.out;omega)
   clear A a0 V U X
   unfold fI
   go_upto_region 3 with fail
   rw [<-G.out]
   clear G
   go_wp2_with (at_builtin;go_must (refine lE rfl _ _ rfl c m _ B w [] _ rs rfl J.out F.out.p c1.out (by simp) (t,f,r) Y.out _ rfl rfl rfl c0.out ?_;intro v4 w4 D b4;have h:=zq ((F.out.call ((ap _ _).alloc (ae _) (.cells (fL (t,f,r)).toArray 30))).grown (J.out.call ((ap _ _).alloc (ae _) (.cells (fL (t,f,r)).toArray 30))) (by simp) b4.out)))
   clear cb J Y F
   cases hc:dp (c.E.at m) [44]
   ·have z:Hid (R=.ok (rs.map (·.1)++[t],m)):=zq (by rw [u.out,g.out];simp only [hc];rfl)
    refine (iK h.out.p ⟨#[44]⟩ hc).mono ?_;rintro e w5 ⟨rfl,K⟩
    have y:=zq (h.out.call K)
    obtain ⟨A4,c4,c8,b1⟩:=(D.out.call K).tms
    have c2:=zq b1
    subst c8
    clear K h D u g hc b1
    go_wp2_with fail
    go_ret
    rw [z.out]
    exact ⟨Nat.lt_of_le_of_lt o.out.1 Q.out,A4,c4,B,by rw [show (rs.map (·.1)++[t]).length=rs.length+1 by simp];rfl,y.out.p,y.out.s,by have:=c2.out.out;rwa [cF] at this⟩
   ·have b2:=dP hc
    have a1:=h.out.p.more (jA hc)
    have z:Hid (R=rZ ((rs++[((t,f,r):TR)]).map (·.1)) (qp c.E S j (m+1))):=zq (by rw [u.out,g.out];simp only [hc,if_true];rw [tg,cF];rfl)
    refine (it h.out.p ⟨#[44]⟩ hc).mono ?_;rintro e w5 ⟨rfl,a5,N⟩
    have y:=zq (h.out.step (PsAt.skip b2 h.out.p.n1 a5) N)
    have b6:=zq (D.out.step N)
    have a7:w5.cell? ⟨c.P,1,none⟩=some (aa ab ((m+1:Nat):Int)):=y.out.p.bk.c 1 _ rfl
    have b8:=zq a7
    have x:=zq (⟨Q.out,a1⟩:a<m/\m+1<c.E.T.length)
    clear a5 N h D u g hc b2 a1 a7
    go_wp2_with fail
    go_roundw
    case rel=>exact ⟨m+1,B,rs++[(t,f,r)],j,by have:=x.out;have:=o.out;omega,.inr (by have:=x.out;have:=o.out;omega),by have:=x.out;have:=o.out;omega,by have:=x.out;have:=o.out;simp;omega,y,b6,z⟩
    case measure=>rw [b8.out,b7.out];have:=x.out;have:=o.out;simp;omega
theorem se {t:NextR} (h:qW t=true):dp t [40]=true:=by unfold qW at h;rw [Bool.and_eq_true] at h;exact h.1
theorem oq {c:PC} {S:PT} {k n:Nat} {K:aC} {w:au} (hS:qi c S k) (hk:k<=n+1) (p:PsAt c n (bv c.E.T n) K w) (s:ByteArray) :
  aU am 179 #[ar (some ⟨c.P,0,none⟩),ac s] w (CL c n K w (ky c.E S s n)):=by
 obtain ⟨R,y⟩:=lz (ky c.E S s n)
 rw [<-y.out]
 have i:=zq ((Wk.start p).new [aa ab 0,aa ab 0,ac ⟨#[]⟩,.slice none 0 0] 30 rfl)
 have Q:=zq (iW i.out.p 0 (by decide))
 have D:=zq fun W=>sY (c.E.at n) W
 have Y:=zq fun nv' W (h:PsAt c (n+1) (bv c.E.T (n+1)) nv' W)=>yh hS hk h
 have X:=zq fun (A:Option Addr) (m r:Nat) (W:au)=>iV s A m r W
 have O:=zq p.n1
 have N:=zq p.more
 rw [Nat.add_zero] at Q
 clear p
 cases ho:qW (c.E.at n)
 ·skip
  have f:Hid (R=.ok (none,n)):=zq (by rw [y.out];unfold ky;rw [if_neg (by rw [ho];simp)])
  rw [f.out]
  rw [ho] at D
  clear ho Y X O N y
  generalize c.E.at n=t at *
  unfold kk at *
  go_enter Tryz.func179,Tryz.ntmps179
  go_wp2_with fail
  refine (Q.out).mono ?_;rintro e w1 ⟨rfl,a⟩
  have x:=zq (i.out.call a)
  clear i
  clear a 
  go_wp2_with fail
  refine (D.out _).mono ?_;rintro e w3 ⟨rfl,a⟩
  have j:=zq (x.out.call a)
  clear x
  clear a 
  have z:=j.out.b.all
  simp only [PC.cells,ag,ai,aj,aH,aP,ah,af,and_true] at z
  go_wp2_with fail
  have C:=j.out.put4 0 rfl (aa ab 0) (aa ab 0) (ac ⟨#[]⟩) (.slice none 0 0) (ae _)
  exact aw (v:=aJ #[aV #[aa ab 0,aa ab 0,ac ⟨#[]⟩,.slice none 0 0],av false]) (by simp [results,Tryz.results179,go_sem,z]) rfl ⟨rfl,rfl,C.p,C.s⟩
 ·skip
  have M:=zq (se ho)
  have HM:=zq (N.out (jA M.out))
  have a8:=zq (dP M.out)
  have u:Hid (R=match kN c.E S (n+1) with | .error e=>.error e | .ok (l,m)=>gy c.E [41] m (some (ju s l))):=zq (by rw [y.out];unfold ky;rw [if_pos ho];rfl)
  rw [ho] at D
  have a5:=zq (jd (n:=n) (by have:=i.out.p.ok.len;have:=O.out;omega))
  clear ho N y M
  unfold kk at *
  go_enter Tryz.func179,Tryz.ntmps179
  go_wp2_with fail
  refine (Q.out).mono ?_;rintro e w1 ⟨rfl,a⟩
  have x:=zq (i.out.call a)
  clear i
  clear a 
  go_wp2_with fail
  refine (D.out _).mono ?_;rintro e w3 ⟨rfl,a⟩
  have j:=zq (x.out.call a)
  clear x
  clear a 
  have z:=j.out.b.all
  simp only [PC.cells,ag,ai,aj,aH,aP,ah,af,and_true] at z
  have hi:=a5.out
  go_wp2_with fail
  have I:=j.out.inc HM.out
  obtain ⟨wn,a1⟩:=lz (w3.setCell ⟨c.P,1,none⟩ (aa ab ((n:Int)+1)))
  rw [<-a1.out] at I |-
  have a4:=PsAt.skip a8.out O.out I.p
  have q:=zq (I.step a4 (Stp.refl c K wn))
  clear I a1 j z hi a4
  have G:=zq (Y.out K wn q.out.p)
  rcases d:kN c.E S (n+1) with e | ⟨l,m⟩
  ·skip
   rw [d] at G u
   clear d
   have f:Hid (R=.error e):=u
   refine G.out.mono ?_;rintro e w1 ⟨rfl,b0⟩
   refine ⟨rfl,?_⟩
   rw [f.out]
   exact ⟨rfl,q.out.fall b0⟩
  rw [d] at G u
  clear d
  have L:Hid (R=gy c.E [41] m (some (ju s l))):=u
  clear u
  refine (G.out).mono ?_;rintro e w6 ⟨a3,A,r,b2,rfl,B,d,J⟩
  have Z:=zq (Trm.sub (w0:=w) (F:=[w.heap.size]) J q.out.s.size (by intro b H;rw [aK] at H;subst H;exact q.out.b.lt 0 rfl))
  have a6:=zq a3
  clear J a3
  have o:=zq (q.out.step B d)
  clear q
  clear B d
  cases hc:dp (c.E.at m) [41]
  ·skip
   have f:Hid (R=.error m):=zq (by rw [L.out];unfold gy;rw [hc];rfl)
   go_wp2_with fail
   refine (kb o.out.p ⟨#[41]⟩ hc).mono ?_;rintro e w9 ⟨rfl,b1⟩
   refine ⟨rfl,?_⟩
   rw [f.out]
   exact ⟨rfl,o.out.fall b1⟩
  have f:Hid (R=.ok (some (ju s l),m+1)):=zq (by rw [L.out];unfold gy;rw [hc];rfl)
  have a9:=zq (dP hc)
  clear L
  go_wp2_with fail
  refine (jw o.out.p ⟨#[41]⟩ hc).mono ?_;rintro e w8 ⟨rfl,B,d⟩
  have V:=zq (o.out.step (PsAt.skip a9.out o.out.p.n1 B) d)
  have a0:=zq (Z.out.step d)
  clear o Z
  clear B d
  go_wp2_with fail
  refine (X.out _ _ _ _).mono ?_;rintro e b3 ⟨rfl,a⟩
  have U:=zq (V.out.call a)
  have a7:=zq (a0.out.call a)
  clear V a0
  clear a 
  have a2:=U.out.b.all
  simp only [PC.cells,ag,ai,aj,aH,aP,ah,af,and_true] at a2
  go_wp2_with fail
  have C:=U.out.put4 0 rfl (aa ab 3) (aa ab 0) (ac s) (.slice A l.length r) (ae _)
  have J:=a7.out.put (g:=w.heap.size) (by simp) (fun b H=>bH _ _ (aa ab 3) (aa ab 0) (ac s) (.slice A l.length r) b H) (by simp)
  refine aw (v:=aJ #[aV #[aa ab 3,aa ab 0,ac s,.slice A l.length r],av true]) (by simp [results,Tryz.results179,go_sem,a2]) rfl ?_
  rw [f.out]
  exact ⟨by have:=a6.out;omega,A,r,b2,rfl,C.p,C.s,J.out⟩
end Go.Proofs.YtbojljpldcijgaaGreat
