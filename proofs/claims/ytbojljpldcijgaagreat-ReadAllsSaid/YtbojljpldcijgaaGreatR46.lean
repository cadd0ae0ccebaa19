/- Parts of the proof. -/
import Derived.Test.YtbojljpldcijgaaGreatR01
import Derived.Test.YtbojljpldcijgaaGreatR43
import Derived.Test.YtbojljpldcijgaaGreatR44
import Derived.Test.YtbojljpldcijgaaGreatR45
set_option maxHeartbeats 12800000
set_option maxRecDepth 100000
set_option linter.unusedSimpArgs false
open Go renaming execOp -> aL
open Go.Ending renaming returned -> aD
open Go.IntKind renaming i64 -> ab
open Go.Proofs.Tryz renaming prog -> am
open Go.RowKit renaming Below -> aB
open Go.RowKit.Below renaming refl -> ap
open Go.Value renaming agg -> aV, bool -> av, int -> aa, string -> ac
open Go.World renaming cell?_of_block -> bd
open List renaming getElem_map -> bT, getElem_mem -> bW, length_map -> bZ, range -> aM
open Nat renaming le_refl -> ae, lt_of_lt_of_le -> aA, reduceAdd -> af, zero_add -> ah, zero_le -> bc
namespace Hb
open Go Go.RowKit
theorem tU {L:List UInt8} {s:Sy} {Q:RdR->Prop} (d:∀a,Q (eD L a s)):∀(f:Nat) (a:Int) (c:List RdR),(∀x∈c,Q x)->∀x∈(mw L s f a c).1,Q x
 | 0,_,_,_,x,hx=>absurd hx (by unfold mw;simp)
 | f+1,a,c,h,x,hx=>by
  unfold mw at hx
  split at hx
  ·exact h x hx
  ·split at hx
   ·exact absurd hx (by simp)
   ·exact tU d f _ _ (fun y b=>by
     rcases List.mem_append.1 b with b | b
     ·exact h y b
     ·rw [List.mem_singleton.1 b];exact d a) x hx
theorem tV {L:List UInt8} {s:Sy}:∀(f:Nat) (a:Nat) (b:List RdR),b.length<=a->a<=L.length->(L.length<=16384\/b=[])->(mw L s f a b).1.length<=16384
 | 0,_,_,_,_,_=>by unfold mw;simp
 | f+1,a,b,h,ha,c=>by
  unfold mw
  split
  ·rcases c with c | rfl
   ·show b.length<=16384;omega
   ·simp
  ·split
   ·simp
   ·rename_i d
    obtain ⟨e,j,k,g,i⟩:=nS (L:=L) (a:=a) (s:=s) (by simpa using d)
    rw [j]
    exact tV f e _ (by rw [List.length_append];simp;omega) g (.inl i)
end Hb
namespace Go.Proofs.YtbojljpldcijgaaGreat
open Go.RowKit Hb
attribute [local go_sem] Oper.semAt_some
theorem zr {L:List UInt8} {s:Sy} {x:RdR} (h:x∈(qf L s).1):dZ x.t=true/\x.names.length<=20000/\x.singles.length<=20000 :=
 tU (Q:=fun x=>dZ x.t=true/\x.names.length<=20000/\x.singles.length<=20000) (fun a=>⟨pw L a s,px L a s⟩) _ _ _ (fun _ h=>absurd h (by simp)) x h
theorem zt (L:List UInt8) (s:Sy):(qf L s).1.length<=20000:=Nat.le_trans (tV _ 0 [] (ae _) (bc _) (.inr rfl)) (by decide)
theorem tj {c:Nat} {d:TypeId} {w:World} {v:Value} {rs:List RW} (h:OwnRd c d w v rs) {x:RW} (b:x∈rs):RdAt w x.r x.A x.NA x.SA :=
 ⟨(h.sub x b).t.keep (fun _ _=>rfl) fun _ a=>a.2.1,(h.sub x b).n.keep (fun _ _=>rfl) fun _ a=>a.2.1,(h.sub x b).s.keep (fun _ _=>rfl) fun _ a=>a.2.1⟩
theorem xM {E F:Nat} {z:TypeId} {w0 w:World} {C D:Value} {a b:List RW} {l:List RdR} (I:OwnRd E z w0 C a) (J:aB w0.heap.size w0 w) (q:OwnRd F z w D b) (n:a.map (·.r)=l) (o:b.map (·.r)=l) (Q:∀x∈l,dZ x.t=true/\x.names.length<=20000/\x.singles.length<=20000) :
  ∃A f B e,C=.slice A l.length f/\D=.slice B l.length e/\∀j,j<l.length->∃(r:RdR) (x y:RW) (c d:Nat),A=some ⟨c,0,none⟩/\B=some ⟨d,0,none⟩/\x.r=r/\y.r=r/\c<w.heap.size/\d<w.heap.size /\
   (∀(i:Nat) (u:Value),[aa ab r.t.kind,aa ab r.t.num,ac r.t.name,.slice x.A r.t.args.length x.cap,.slice x.NA r.names.length x.nc,.slice x.SA r.singles.length x.sn,aa ab r.end_][i]? = some u->w.cell? ⟨c,j * 7+i,none⟩=some u)/\(∀(i:Nat) (u:Value),[aa ab r.t.kind,aa ab r.t.num,ac r.t.name,.slice y.A r.t.args.length y.cap,.slice y.NA r.names.length y.nc,.slice y.SA r.singles.length y.sn,aa ab r.end_][i]? = some u->w.cell? ⟨d,j * 7+i,none⟩=some u) /\
   RdAt w r x.A x.NA x.SA/\RdAt w r y.A y.NA y.SA/\dZ r.t=true/\r.names.length<=20000/\r.singles.length<=20000:=by
 have p:=I.call J
 obtain ⟨A,f,T,_,M⟩:=p.val
 obtain ⟨B,e,U,_,N⟩:=q.val
 have R:a.length=l.length:=by rw [<-n,bZ]
 have S:b.length=l.length:=by rw [<-o,bZ]
 refine ⟨A,f,B,e,by rw [T,R],by rw [U,S],fun j V=>?_⟩
 obtain ⟨c,K,_,O,G⟩:=M j (by omega)
 obtain ⟨d,L,_,P,H⟩:=N j (by omega)
 have k:a[j].r=l[j]:=by simp only [<-n,bT]
 have m:b[j].r=l[j]:=by simp only [<-o,bT]
 have s:=tj p (bW (h:=(by omega:j<a.length)))
 have v:=tj q (bW (h:=(by omega:j<b.length)))
 rw [k] at s
 rw [m] at v
 refine ⟨l[j],a[j],b[j],c,d,K,L,k,m,O,P,fun i u g=>G i u ?_,fun i u g=>H i u ?_,s,v,Q _ (bW _)⟩
 ·unfold tZ;rw [k];exact g
 ·unfold tZ;rw [m];exact g
theorem Ce (P:ByteArray) (J:Option Addr) (on M:Nat) (q u:Int) (c d:Bool) (G:Option Addr) (F O:Nat) (ol:List OpR) (T:List (Int×Int)) (w:World) (hO:Tab w J on M ol) (a4:F=T.length) (a5:F<=maxLen) (hC:Pairs w G T) (hs:P.size<=maxLen):Calls am 7 #[ac P,aV #[.slice J on M,aa ab q,aa ab u,av c,av d,.slice G F O]] w fun e w'=>e=aD (av true)/\aB w.heap.size w w':=by
 have d9:=zq (fun W=>vS W)
 have a0:=zq ((ap w.heap.size w).alloc (ae _) (.cells #[.slice J on M,aa ab q,aa ab u,av c,av d,.slice G F O] 27))
 obtain ⟨R,S⟩:=lz (qf P.data.toList ⟨ol,q,u,c,d,T⟩)
 have s:Hid (∀X,aB w.heap.size w X->Calls am 21 #[ac P,aV #[.slice J on M,aa ab q,aa ab u,av c,av d,.slice G F O]] X fun e w'=>∃v rs,e=aD (.tuple #[v,aa ab R.2.1,aa ab R.2.2])/\aB X.heap.size X w'/\OwnRd X.heap.size 33 w' v rs/\rs.map (·.r)=R.1):=zq fun X K=>by
  rw [S.out];exact Bm P J on M q u c d G F O ol T X (hO.below K) a4 a5 (hC.below K) hs
 have z:Hid (∀X,aB w.heap.size w X->Calls am 22 #[ac P,aV #[.slice J on M,aa ab q,aa ab u,av c,av d,.slice G F O]] X fun e w'=>∃v rs,e=aD (.tuple #[v,aa ab R.2.1,aa ab R.2.2])/\aB X.heap.size X w'/\OwnRd X.heap.size 33 w' v rs/\rs.map (·.r)=R.1):=zq fun X K=>by
  rw [S.out];exact Bh P J on M q u c d G F O ol T X (hO.below K) a4 a5 (hC.below K) hs
 have c6:Hid (∀x∈R.1,dZ x.t=true/\x.names.length<=20000/\x.singles.length<=20000):=zq (by rw [S.out];exact fun x hx=>zr hx)
 have a2:Hid (R.1.length<=20000):=zq (by rw [S.out];exact zt _ _)
 have c3:=zq (Bk.new w [.slice J on M,aa ab q,aa ab u,av c,av d,.slice G F O] 27)
 clear hO a4 a5 hC hs S
 go_enter Tryz.func7,Tryz.ntmps7
 go_wp2_with fail
 refine (s.out _ a0.out).mono ?_;rintro e x1 ⟨v1,r1,rfl,a,m,U⟩
 have a1:=bz a0 a
 have c4:=zq (c3.out.call a)
 have c7:=zq m
 have c5:=zq U
 clear a m U a0 c3 s
 have d7:=c4.out.all0
 simp only [aP,ah,af,and_true] at d7
 go_wp2_with fail
 refine (z.out _ a1.out).mono ?_;rintro e x3 ⟨v2,r2,rfl,a,m,U⟩
 have e0:=bz a1 a
 obtain ⟨A,d1,B,d0,e1,e2,a9⟩:=xM c7.out a m c5.out U c6.out
 subst e1 e2
 obtain ⟨n,HN⟩:=lz (R.1.length)
 rw [<-HN.out] at a9 a2 |-
 have e7:=zq a9
 have e6:=zq a2.out
 obtain ⟨p,HP⟩:=lz (R.2.1)
 obtain ⟨er,c2⟩:=lz (R.2.2)
 rw [<-HP.out,<-c2.out]
 clear a m U a9 a1 c4 z d7 c7 c5 c6 HN HP c2 a2
 have b1:(er != er)=false:=by simp
 have b2:(p != p)=false:=by simp
 have b3:((n:Int) != (n:Int))=false:=by simp
 have e9:=zq (ap x3.heap.size x3)
 go_wp2_with fail
 go_loopw [11] (fun v wr=>∃j:Nat,v=aa ab (j:Int)/\j<=n/\Hid (aB w.heap.size w wr)/\Hid (aB x3.heap.size x3 wr)) (fun v _=>n-(intOf v).toNat)
 case atStart=>exact ⟨0,rfl,bc _,e0,e9⟩
 case round=>
  obtain ⟨j,rfl,hj,Q,C⟩:=hrel
  by_cases L:j<n
  rotate_left
  ·have g3:j=n:=vJ L hj
   subst g3
   have hb:=zc (Nat.lt_irrefl j)
   clear hj L
   go_wp2_with fail
   refine (d9.out _).mono ?_;rintro e wz ⟨rfl,a⟩
   have e4:=bz Q a
   clear a Q
   go_wp2_with fail
   go_ret
   exact ⟨rfl,e4.out⟩
  have hb:=zb L
  obtain ⟨k0,k1⟩:=qY L
  have c9:=zq (qE L e6.out)
  obtain ⟨r,x,y,k,l,g,g0,hx,hy,a6,a7,d3,d4,d5,d6,d8,a8⟩:=e7.out j L
  subst g g0
  have s:=zq (fun i u hu=>(bd (C.out.block k a6)).trans (d3 i u hu))
  have z:=zq (fun i u hu=>(bd (C.out.block l a7)).trans (d4 i u hu))
  have H:Hid (k<wr.heap.size):=zq (aA a6 C.out.size)
  have I:Hid (l<wr.heap.size):=zq (aA a7 C.out.size)
  have c8:Hid (∀X,aB wr.heap.size wr X->Calls am 13 #[aV #[aa ab r.t.kind,aa ab r.t.num,ac r.t.name,.slice x.A r.t.args.length x.cap,.slice x.NA r.names.length x.nc,.slice x.SA r.singles.length x.sn,aa ab r.end_],aV #[aa ab r.t.kind,aa ab r.t.num,ac r.t.name,.slice y.A r.t.args.length y.cap,.slice y.NA r.names.length y.nc,.slice y.SA r.singles.length y.sn,aa ab r.end_]] X fun e w'=>e=aD (av true)/\aB X.heap.size X w'):=zq fun X K=>by
   have h:=pB r r x.A x.NA x.SA y.A y.NA y.SA x.cap x.nc x.sn y.cap y.nc y.sn X (d5.below (C.out.trans (K.mono C.out.size))) (d6.below (C.out.trans (K.mono C.out.size))) a8.1 a8.2
   rw [vC d8] at h
   exact h
  clear hx hy a6 a7 d3 d4 d5 d6 d8 a8 hj
  go_upto_region 8 with fail
  rename_i K8 d2
  refine fu (w0:=wr) [bB [] [0] (fun|[v]=>v=.slice (some ⟨k,0,none⟩) n d1|_=>False),
    bB [] [1] (fun|[v]=>v=aa ab (j:Int)|_=>False),
    bB [0,1] [2] (fun|[v]=>v=.pointer (some ⟨k,j * 7,none⟩)|_=>False),
    eT (aM 3) [3] (fun|[v]=>v=aV #[aa ab r.t.kind,aa ab r.t.num,ac r.t.name,.slice x.A r.t.args.length x.cap,.slice x.NA r.names.length x.nc,.slice x.SA r.singles.length x.sn,aa ab r.end_]|_=>False),
    bB [] [4] (fun|[v]=>v=.slice (some ⟨l,0,none⟩) n d0|_=>False),
    bB [] [5] (fun|[v]=>v=aa ab (j:Int)|_=>False),
    bB [4,5] [6] (fun|[v]=>v=.pointer (some ⟨l,j * 7,none⟩)|_=>False),
    eT [4,5,6] [7] (fun|[v]=>v=aV #[aa ab r.t.kind,aa ab r.t.num,ac r.t.name,.slice y.A r.t.args.length y.cap,.slice y.NA r.names.length y.nc,.slice y.SA r.singles.length y.sn,aa ab r.end_]|_=>False),
    eT (aM 8) [8] (fun|[v]=>v=av true|_=>False),
    bB (aM 9) [9] (fun|[v]=>v=av false|_=>False)]
    [some 47,some 48,some 49,some 50,some 51,some 52,some 53,some 54,some 55,some 56] (fun _=>True) (wr.heap.size) (by kernel_rfl) (ae _) (by kernel_rfl) (by kernel_rfl) (by kernel_rfl) (fun j o m=>?srv8) (fun val Y N D HF=>?fin8)
  case srv8=>
    have g4:j<10:=(Array.getElem?_eq_some_iff.1 m).1
    rcases (show j=0\/j=1\/j=2\/j=3\/j=4\/j=5\/j=6\/j=7\/j=8\/j=9 by omega) with rfl|rfl|rfl|rfl|rfl|rfl|rfl|rfl|rfl|rfl
    ·cases m
     refine aY rfl rfl (fun val E b g=>?_)
     have e5:=b.t 5 (.slice (some ⟨k,0,none⟩) n d1) rfl
     exact ⟨_,fun X=>by simp [aL,go_sem,e5],rfl⟩
    ·cases m
     refine aY rfl rfl (fun val E b g=>?_)
     have a3:=b.t 11 (aa ab (j:Int)) rfl
     exact ⟨_,fun X=>by simp [aL,go_sem,a3],rfl⟩
    ·cases m
     refine aY rfl rfl (fun val E b g=>?_)
     have f1:=b.t 47 (val 0) rfl
     have V:val 0=_:=g 0 (oz rfl)
     have f2:=b.t 48 (val 1) rfl
     have Z:val 1=_:=g 1 (oz rfl)
     have b0:=k0
     have b4:=k1
     exact ⟨_,fun X=>by simp [aL,go_sem,f1,V,f2,Z,b0,b4,eO],rfl⟩
    ·cases m
     refine dU rfl rfl (fun _ _ _=>trivial) (fun val E X b a g=>?_)
     have f3:=b.t 49 (val 2) rfl
     have h2:val 2=_:=g 2 (oz rfl)
     have b5:X.cell? ⟨k,j * 7,none⟩=_:=(bd (a.block k H.out)).trans (s.out 0 _ rfl)
     have b6:X.cell? ⟨k,j * 7+1,none⟩=_:=(bd (a.block k H.out)).trans (s.out 1 _ rfl)
     have b7:X.cell? ⟨k,j * 7+2,none⟩=_:=(bd (a.block k H.out)).trans (s.out 2 _ rfl)
     have b8:X.cell? ⟨k,j * 7+3,none⟩=_:=(bd (a.block k H.out)).trans (s.out 3 _ rfl)
     have b9:X.cell? ⟨k,j * 7+4,none⟩=_:=(bd (a.block k H.out)).trans (s.out 4 _ rfl)
     have c0:X.cell? ⟨k,j * 7+5,none⟩=_:=(bd (a.block k H.out)).trans (s.out 5 _ rfl)
     have c1:X.cell? ⟨k,j * 7+6,none⟩=_:=(bd (a.block k H.out)).trans (s.out 6 _ rfl)
     exact ⟨_,by simp [aL,go_sem,f3,h2,b5,b6,b7,b8,b9,c0,c1],rfl⟩
    ·cases m
     refine aY rfl rfl (fun val E b g=>?_)
     have e8:=b.t 8 (.slice (some ⟨l,0,none⟩) n d0) rfl
     exact ⟨_,fun X=>by simp [aL,go_sem,e8],rfl⟩
    ·cases m
     refine aY rfl rfl (fun val E b g=>?_)
     have a3:=b.t 11 (aa ab (j:Int)) rfl
     exact ⟨_,fun X=>by simp [aL,go_sem,a3],rfl⟩
    ·cases m
     refine aY rfl rfl (fun val E b g=>?_)
     have f5:=b.t 51 (val 4) rfl
     have h4:val 4=_:=g 4 (oz rfl)
     have f6:=b.t 52 (val 5) rfl
     have h5:val 5=_:=g 5 (oz rfl)
     have b0:=k0
     have b4:=k1
     exact ⟨_,fun X=>by simp [aL,go_sem,f5,h4,f6,h5,b0,b4,eO],rfl⟩
    ·cases m
     refine dU rfl rfl (fun _ _ _=>trivial) (fun val E X b a g=>?_)
     have f7:=b.t 53 (val 6) rfl
     have h6:val 6=_:=g 6 (oz rfl)
     have b5:X.cell? ⟨l,j * 7,none⟩=_:=(bd (a.block l I.out)).trans (z.out 0 _ rfl)
     have b6:X.cell? ⟨l,j * 7+1,none⟩=_:=(bd (a.block l I.out)).trans (z.out 1 _ rfl)
     have b7:X.cell? ⟨l,j * 7+2,none⟩=_:=(bd (a.block l I.out)).trans (z.out 2 _ rfl)
     have b8:X.cell? ⟨l,j * 7+3,none⟩=_:=(bd (a.block l I.out)).trans (z.out 3 _ rfl)
     have b9:X.cell? ⟨l,j * 7+4,none⟩=_:=(bd (a.block l I.out)).trans (z.out 4 _ rfl)
     have c0:X.cell? ⟨l,j * 7+5,none⟩=_:=(bd (a.block l I.out)).trans (z.out 5 _ rfl)
     have c1:X.cell? ⟨l,j * 7+6,none⟩=_:=(bd (a.block l I.out)).trans (z.out 6 _ rfl)
     exact ⟨_,by simp [aL,go_sem,f7,h6,b5,b6,b7,b8,b9,c0,c1],rfl⟩
    ·cases m
     refine ge rfl rfl (fun _ _ _=>trivial) (fun val E X b a g=>?_)
     have f4:=b.t 50 (val 3) rfl
     have h3:val 3=_:=g 3 (oz rfl)
     have f8:=b.t 54 (val 7) rfl
     have h7:val 7=_:=g 7 (oz rfl)
     exact ⟨_,_,_,by simp [aL,go_sem,b.f,f4,h3,f8,h7] <;> rfl,c8.out X a,rfl⟩
    ·cases m
     refine aY rfl rfl (fun val E b g=>?_)
     have f9:=b.t 55 (val 8) rfl
     have h8:val 8=_:=g 8 (oz rfl)
     exact ⟨_,fun X=>by simp [aL,go_sem,f9,h8],rfl⟩
  case fin8=>
   have V:val 0=_:=D 0 (by decide)
   have Z:val 1=_:=D 1 (by decide)
   have h2:val 2=_:=D 2 (by decide)
   have h3:val 3=_:=D 3 (by decide)
   have h4:val 4=_:=D 4 (by decide)
   have h5:val 5=_:=D 5 (by decide)
   have h6:val 6=_:=D 6 (by decide)
   have h7:val 7=_:=D 7 (by decide)
   have h8:val 8=_:=D 8 (by decide)
   have h9:val 9=_:=D 9 (by decide)
   have e3:=zq (Q.out.trans (HF.bel.mono Q.out.size))
   have f0:=zq (C.out.trans (HF.bel.mono C.out.size))
   refine d2 _ _ ?_
   simp only [gD,List.set_cons_zero,List.set_cons_succ,af,ah,V,Z,h2,h3,h4,h5,h6,h7,h8,h9]
   clear D HF V Z h2 h3 h4 h5 h6 h7 h8 h9 d2 Q C c8 s z H I
   go_wp2_with fail
   go_roundw
   case rel=>exact ⟨j+1,congrArg (Value.int IntKind.i64) c9.out,L,e3,f0⟩
   case measure=>exact oB c9.out L
end Go.Proofs.YtbojljpldcijgaaGreat
