/- Parts of the proof. -/
import Derived.Test.YtlikcjbjibhjgaaGreatDoorR02
import Derived.Laws.AppendOwnNone
import Derived.SliceStrings
import Derived.Deep.Slices
import Derived.ProofKit
import Derived.Test.YtlikcjbjibhjgaaGreatDoorR01
import Derived.Laws.OwnMore
import Derived.Maps.AppendAt
import Derived.Deep.AppendLies
import Derived.Deep.RegionLaw
import Derived.Deep.DeepMust
import Derived.Test.YtlikcjbjibhjgaaGreatDoorProg
import Derived.Lib.Bytealg
import Derived.Deep.QuietTactic
import Derived.BigQuiet
import Derived.LoopTactic
import Derived.RegionTactic
import Derived.BigRegion
set_option maxHeartbeats 12800000
set_option maxRecDepth 100000
open Array renaming getElem?_eq_some_iff -> aM
open Bool renaming and_eq_true -> aF, true_and -> dl
open Go renaming Calls -> aJ, TypeId -> bD, Value -> az, World -> ai, bodyPost_ret -> ay, heap_alloc_new -> dA, heap_setCell_other -> aS, info_parts -> eh, maxLen -> be, wpList -> cH
open Go.Ending renaming returned -> aw, returned -> eA
open Go.IntKind renaming i64 -> ae
open Go.Lib renaming indexByte -> dZ
open Go.Proofs.Tryz renaming prog -> ah, underlying23 -> fL
open Go.RowKit renaming Below -> ax
open Go.RowKit.Below renaming refl -> aj
open Go.Value renaming agg -> aN, bool -> am, int -> ab, ownBlock -> ew, string -> aQ, string -> aa, tuple -> aK
open Go.World renaming cell?_alloc_new -> aq, cell?_setCell_other -> cW, cell?_setCell_same -> de, frozen?_alloc_at -> eF, frozen?_setCell -> eN, news_of_block -> dv
open List renaming all_eq_true -> bh, append_nil -> aA, eq_nil_of_length_eq_zero -> bL, getD_eq_getElem?_getD -> aX, getElem?_eq_getElem -> ba, getElem_map -> bT, getElem_mem -> aR, length -> hJ, length_append -> aB, length_map -> bm, length_take -> bM
open Nat renaming add_zero -> bv, le_refl -> ag, le_trans -> aI, lt_of_lt_of_le -> aC, zero_le -> bp
namespace Hb
open Go Go.RowKit
def uL (w:ai) (A:Option Addr) (m cap size:Nat) (a:List az):Prop :=
 (A=none/\m=0/\cap=0/\a=[])\/∃ad:Addr,A=some ad/\a.length=m * size/\∀j u,a[j]? = some u->w.cell? (ad.add j)=some u
theorem gO {P:Program} {w:ai} {G:Array Oper} {rest:List Oper} {o:Oper} {a:Act} {Q:Exit->Act->ai->Prop} (r:o.guard=none) (s x:Operand) (t e:bD)
  (C:o.op=.call { callee:=.builtin .append,args:=#[s,x],argTypes:=#[t,t] }) (E:P.underlying t=some (.slice e)) (z:az) (size j:Nat)
  (L:(P.info? e).map (fun i=>(i.zero,i.size,i.bytes))=some (some z,size,j)) (V:z.cells.size=size) (R:0<size)
  (b:Nat) (v:az) (n:Nat) (xs:List az) (D:a.eval s=v) (c:w.ownsRow b e size v n xs) (A:Option Addr) (m cap:Nat) (f:List az) (F:a.eval x=.slice A m cap) (O:uL w A m cap size f)
  (I:∀u∈f,u.oneCell'=true) (Y:n+m<=4611686018427387904) (J:(n+m) * j<=140737488355328) (p:b<=w.heap.size) (W:ai) (l:ax b W w)
  (h:∀d w',w'.ownsRow b e size d (n+m) (xs++f)->ax b W w'->w.grownBy w' v.ownBlock->cH P G Q rest (a.put o.dst d) w'):cH P G Q (o::rest) a w:=by
 obtain ⟨i,y,S,T,U⟩:=eh L
 rcases O with ⟨rfl,rfl,rfl,rfl⟩ | ⟨H,rfl,M,K⟩
 ·refine wpList_append_own_none r s x t C b e i size E y v n xs D c F ?_
  exact h v w (by rw [bv,aA];exact c) l ⟨rfl,rfl,rfl,ag _,fun _ _ _=>rfl⟩
 ·refine wpList_append_own _ r s x t C b e i z size j E y S T U V R v n xs D c H m cap f F M K I (by unfold be;omega) J p ?_
  intro d w' N q _
  refine h d w' N (l.grown q p ?_) q
  intro k B
  rcases c.2 with ⟨rfl,_⟩ | ⟨g,cap,X,rfl,Z,_⟩
  ·simp [ew] at B
  ·simp [ew] at B;omega
theorem kt {w:ai} {a e size:Nat} {v:az} {n:Nat} {xs:List az} (h:w.ownsRow a e size v n xs):∃A cap,v=.slice A n cap:=by
 rcases h.2 with ⟨rfl,rfl⟩ | ⟨g,cap,b,rfl,_⟩
 ·exact ⟨_,_,rfl⟩
 ·exact ⟨_,_,rfl⟩
def StrsAt (w:ai) (A:Option Addr) (l:List ByteArray):Prop :=
 ∀j (h:j<l.length),∃b off,A=some ⟨b,off,none⟩/\b<w.heap.size/\w.cell? ⟨b,off+j,none⟩=some (aa l[j])
theorem StrsAt.below {w w':ai} {A:Option Addr} {l:List ByteArray} (h:StrsAt w A l) (a:ax w.heap.size w w'):StrsAt w' A l:=fun j f=>by
 obtain ⟨b,g,e,c,d⟩:=h j f
 exact ⟨b,g,e,aC c a.size,(a.cell (p:=⟨b,_,none⟩) c).trans d⟩
def uM (A:Option Addr) (n cap:Nat):Prop:=n=0->((A=none/\cap=0)\/∃ad,A=some ad)
theorem fC (b a j:Nat):(⟨b,a,none⟩:Addr).add j=⟨b,a+j,none⟩:=by unfold Addr.add;split <;> simp_all
theorem yC {w:ai} {A:Option Addr} {n cap:Nat} {l:List ByteArray} (k:n=l.length) (h:StrsAt w A l) (i:uM A n cap):uL w A n cap 1 (l.map aQ):=by
 by_cases f:n=0
 ·have:l=[]:=bL (by omega)
  subst this
  rcases i f with ⟨rfl,rfl⟩ | ⟨g,rfl⟩
  ·exact .inl ⟨rfl,f,rfl,rfl⟩
  ·exact .inr ⟨g,rfl,by simp [f],fun j u a=>by simp at a⟩
 ·obtain ⟨b,o,rfl,_,_⟩:=h 0 (by omega)
  refine .inr ⟨_,rfl,by simp [k],fun j u a=>?_⟩
  rw [List.getElem?_map] at a
  have d:j<l.length:=by
   rcases Nat.lt_or_ge j l.length with d | d
   ·exact d
   ·rw [List.getElem?_eq_none d] at a;cases a
  rw [ba d] at a
  injection a with a
  obtain ⟨m,p,e,_,c⟩:=h j d
  injection e with e;injection e with e1 e2 _
  subst e1;subst e2
  rw [fC,c,a]
theorem Gt {w:ai} {c e:Nat} {v:az} {l:List ByteArray} (h:w.ownsRow c e 1 v l.length (l.map aQ)):∃A cap,v=.slice A l.length cap/\StrsAt w A l:=by
 obtain ⟨A,cap,rfl⟩:=kt h
 refine ⟨A,cap,rfl,fun j d=>?_⟩
 rcases h.2 with ⟨b,k⟩ | ⟨g,f,i,b,m,n,rest⟩
 ·omega
 ·injection b with hA _ _
  subst hA
  have a:=h.cells (g:=g) rfl j (aa l[j]) (by simp [ba d])
  rw [fC] at a
  exact ⟨g,0,rfl,(h.lt g rfl).2,a⟩
end Hb
namespace Go.Proofs.YtlikcjbjibhjgaaGreatDoor
open Go.ChangeShapes Go.WideShapes Go.ChangeAt Go.RowKit Hb
theorem jf:(Tryz.prog.info? 9).map (fun i=>(i.zero,i.size,i.bytes))=some (some (aa ⟨#[]⟩),1,16):=by kernel_rfl
end Go.Proofs.YtlikcjbjibhjgaaGreatDoor
namespace Hb
open Go Go.RowKit
abbrev TR:=Tm×Option Addr×Nat
def iW (r:TR):List az:=[ab ae r.1.kind,ab ae r.1.num,aa r.1.name,.slice r.2.1 r.1.args.length r.2.2]
def eB (rs:List TR):List az:=rs.flatMap iW
theorem vB (a b:List TR):eB (a++b)=eB a++eB b:=by unfold eB;rw [List.flatMap_append]
theorem mD:∀(rs:List TR) (i:Nat) (h:i<rs.length),(eB rs)[i * 4]? = some (ab ae rs[i].1.kind)/\(eB rs)[i * 4+1]? = some (ab ae rs[i].1.num)/\(eB rs)[i * 4+2]? = some (aa rs[i].1.name)/\(eB rs)[i * 4+3]? = some (.slice rs[i].2.1 rs[i].1.args.length rs[i].2.2)
 | p::l,0,_=>⟨rfl,rfl,rfl,rfl⟩
 | p::l,i+1,h=>by
  have:=mD l i (by simpa using h)
  have e:eB (p::l)=ab ae p.1.kind::ab ae p.1.num::aa p.1.name::.slice p.2.1 p.1.args.length p.2.2::eB l:=rfl
  rw [e,show (i+1) * 4=i * 4+4 by omega]
  exact ⟨by simpa using this.1,by simpa using this.2.1,by simpa using this.2.2.1,by simpa using this.2.2.2⟩
theorem ql (r:TR):∀u∈iW r,u.oneCell'=true:=by
 intro u a
 simp [iW] at a
 rcases a with rfl|rfl|rfl|rfl <;> rfl
structure OwnR (lo:Nat) (e:bD) (w:ai) (v:az) (rs:List TR):Prop where
 own:w.ownsRow lo e 4 v rs.length (eB rs)
 sub:∀r∈rs,TmsK (fun b=>lo<=b/\b<w.heap.size/\v.ownBlock≠some b) w r.2.1 r.1.args
theorem OwnR.nul (b:Nat) (e:bD) (w:ai):OwnR b e w (.slice none 0 0) []:=⟨World.ownsRow_nil _ _ _ _,fun r a=>absurd a (by simp)⟩
theorem OwnR.keep {c:Nat} {e:bD} {w w':ai} {v:az} {rs:List TR} (h:OwnR c e w v rs) (m:w.heap.size<=w'.heap.size) (d:∀b,c<=b->b<w.heap.size->w'.heap[b]? = w.heap[b]?):OwnR c e w' v rs where
 own:=by
  refine ⟨h.own.1,?_⟩
  rcases h.own.2 with k | ⟨g,cap,j,n,f,i,rest⟩
  ·exact .inl k
  ·exact .inr ⟨g,cap,j,n,f,by rw [d g f (aM.1 i).1];exact i,rest⟩
 sub:=fun r l=>(h.sub r l).keep (fun b a=>d b a.1 a.2.1) (fun b a=>⟨a.1,aC a.2.1 m,a.2.2⟩)
theorem OwnR.below {c:Nat} {e:bD} {w w':ai} {v:az} {rs:List TR} (h:OwnR c e w v rs) (a:ax w.heap.size w w'):OwnR c e w' v rs:=h.keep a.size fun b _ d=>a.block b d
theorem OwnR.snoc {d:Nat} {e:bD} {W g:ai} {v f:az} {rs:List TR} (h:OwnR d e W v rs) (r:TR) (q:TmsK (fun b=>d<=b/\b<W.heap.size/\v.ownBlock≠some b) W r.2.1 r.1.args)
  (p:g.ownsRow d e 4 f (rs.length+1) (eB rs++iW r)) (j:W.grownBy g v.ownBlock) (n:f.ownBlock=v.ownBlock\/f.ownBlock=some W.heap.size):OwnR d e g f (rs++[r]) where
 own:=by
  rw [vB,aB]
  have m:eB [r]=iW r:=by unfold eB;simp
  rw [m];exact p
 sub:=by
  have k:∀{A:Option Addr} {l:List Tm},TmsK (fun b=>d<=b/\b<W.heap.size/\v.ownBlock≠some b) W A l->TmsK (fun b=>d<=b/\b<g.heap.size/\f.ownBlock≠some b) g A l:=fun o=>by
   refine o.keep (fun b a=>j.block b a.2.1 (fun e=>a.2.2 e.symm)) (fun b a=>⟨a.1,aC a.2.1 j.size,fun e=>?_⟩)
   rcases n with i | i
   ·rw [i] at e;exact a.2.2 e
   ·rw [i] at e;injection e with e;have:=a.2.1;omega
  intro x c
  rcases List.mem_append.1 c with c | c
  ·exact k (h.sub x c)
  ·rw [List.mem_singleton] at c;subst c;exact k q
theorem OwnR.tms {i:Nat} {e:bD} {w:ai} {v:az} {rs:List TR} (h:OwnR i e w v rs):∃A cap,v=.slice A rs.length cap/\TmsK (fun b=>i<=b/\b<w.heap.size) w A (rs.map (·.1)):=by
 have p:∀j (a:j<rs.length),TmsK (fun b=>i<=b/\b<w.heap.size) w rs[j].2.1 rs[j].1.args:=fun j a=>(h.sub _ (aR a)).keep (fun _ _=>rfl) (fun b l=>⟨l.1,l.2.1⟩)
 rcases h.own.2 with ⟨d,m⟩ | ⟨g,cap,y,d,n,o,B,z,rest⟩
 ·have:rs=[]:=bL m
  subst this
  exact ⟨_,_,d,TmsK.nil⟩
 ·refine ⟨some ⟨g,0,none⟩,cap,d,.mk _ _ (fun j=>(rs.getD j (tm0,none,0)).2.1) (fun j=>(rs.getD j (tm0,none,0)).2.2) (by rw [bm];omega) (fun j a=>?_) (fun j a=>?_)⟩
  ·rw [bm] at a
   obtain ⟨r,s,t,x⟩:=mD rs j a
   have c:∀k u,(eB rs)[k]? = some u->w.cell? ⟨g,0+k,none⟩=some u:=fun k u q=>by
    have:=h.own.cells (g:=g) (by rw [d];rfl) k u q
    rw [fC] at this
    exact this
   have f:rs.getD j (tm0,none,0)=rs[j]:=by rw [aX,ba a];rfl
   refine ⟨g,0,rfl,⟨n,(aM.1 o).1⟩,?_,?_,?_,?_⟩
   ·rw [bT];exact c _ _ r
   ·rw [bT];exact c _ _ s
   ·rw [bT];exact c _ _ t
   ·rw [bT];simp only [f];exact c _ _ x
  ·rw [bm] at a
   have f:rs.getD j (tm0,none,0)=rs[j]:=by rw [aX,ba a];rfl
   rw [bT];simp only [f]
   exact p j a
structure CpH (w0 w:ai) (e:bD) (t:Tm) (A:Option Addr) (cap:Nat) (v:az) (rs:List TR):Prop where
 bel:ax w0.heap.size w0 w
 lt:w0.heap.size+3<=w.heap.size
 b3:w.cell? ⟨w0.heap.size,3,none⟩=some (.slice A t.args.length cap)
 r0:∃u,w.cell? ⟨w0.heap.size+1,0,none⟩=some u
 r1:∃u,w.cell? ⟨w0.heap.size+1,1,none⟩=some u
 r2:∃u,w.cell? ⟨w0.heap.size+1,2,none⟩=some u
 r3:∃u,w.cell? ⟨w0.heap.size+1,3,none⟩=some u
 rf:∀o,w.frozen? ⟨w0.heap.size+1,o,none⟩=false
 c0:w.cell? ⟨w0.heap.size+2,0,none⟩=some (ab ae t.kind)
 c1:w.cell? ⟨w0.heap.size+2,1,none⟩=some (ab ae t.num)
 c2:w.cell? ⟨w0.heap.size+2,2,none⟩=some (aa t.name)
 c3:w.cell? ⟨w0.heap.size+2,3,none⟩=some v
 cf:∀o,w.frozen? ⟨w0.heap.size+2,o,none⟩=false
 own:OwnR (w0.heap.size+3) e w v rs
section
variable {w0 w w':ai} {e:bD} {t:Tm} {A:Option Addr} {cap:Nat} {v:az} {rs:List TR}
theorem CpH.call (h:CpH w0 w e t A cap v rs) (c:ax w.heap.size w w'):CpH w0 w' e t A cap v rs:=by
 have g:=h.lt
 have a:∀b o,b<w0.heap.size+3->w'.cell? ⟨b,o,none⟩=w.cell? ⟨b,o,none⟩:=fun b o f=>c.cell (p:=⟨b,o,none⟩) (by show b<_;omega)
 have d:∀b o,b<w0.heap.size+3->w'.frozen? ⟨b,o,none⟩=w.frozen? ⟨b,o,none⟩:=fun b o f=>c.frozen (p:=⟨b,o,none⟩) (by show b<_;omega)
 exact ⟨h.bel.trans (c.mono (by omega)),aI g c.size,(a _ _ (by omega)).trans h.b3,h.r0.imp fun _ k=>(a _ _ (by omega)).trans k,h.r1.imp fun _ k=>(a _ _ (by omega)).trans k,h.r2.imp fun _ k=>(a _ _ (by omega)).trans k,h.r3.imp fun _ k=>(a _ _ (by omega)).trans k,
  fun o=>(d _ _ (by omega)).trans (h.rf o),(a _ _ (by omega)).trans h.c0,(a _ _ (by omega)).trans h.c1,(a _ _ (by omega)).trans h.c2,(a _ _ (by omega)).trans h.c3,fun o=>(d _ _ (by omega)).trans (h.cf o),h.own.below c⟩
theorem CpH.drew (h:CpH w0 w e t A cap v rs):CpH w0 w.drew e t A cap v rs:=h.call (aj w.heap.size w).drew
theorem CpH.far (h:CpH w0 w e t A cap v rs) (a:w.grownBy w' v.ownBlock) (b o:Nat) (d:b<w0.heap.size+3):w'.cell? ⟨b,o,none⟩=w.cell? ⟨b,o,none⟩/\w'.frozen? ⟨b,o,none⟩=w.frozen? ⟨b,o,none⟩:=by
 have f:=h.lt
 have c:some b≠v.ownBlock:=fun e=>by have:=(h.own.own.lt b e.symm).1;omega
 exact ⟨a.cell_far ⟨b,o,none⟩ (by show b<_;omega) c,a.frozen_far ⟨b,o,none⟩ (by show b<_;omega) c⟩
theorem CpH.app (h:CpH w0 w e t A cap v rs) (r:TR) (s:TmsK (fun b=>w0.heap.size+3<=b/\b<w.heap.size/\v.ownBlock≠some b) w r.2.1 r.1.args) {c:az} {w2:ai}
  (q:w2.ownsRow (w0.heap.size+3) e 4 c (rs.length+1) (eB rs++iW r)) (d:w.grownBy w2 v.ownBlock) (l:c.ownBlock=v.ownBlock\/c.ownBlock=some w.heap.size):CpH w0 (w2.setCell ⟨w0.heap.size+2,3,none⟩ c) e t A cap c (rs++[r]):=by
 have u:=h.lt
 have j:=h.own.snoc r s q d l
 have m:ax w0.heap.size w0 w2:=h.bel.grown d (by omega) (fun k n=>by have:=(h.own.own.lt k n).1;omega)
 have a:∀b o,b<w0.heap.size+3->(b≠w0.heap.size+2\/o≠3)->(w2.setCell ⟨w0.heap.size+2,3,none⟩ c).cell? ⟨b,o,none⟩=w.cell? ⟨b,o,none⟩:=fun b o f g=>by
  rw [cW _ _ _ _ (by intro e;injection e with e1 e2 _;rcases g with g | g <;> omega)]
  exact (h.far d b o f).1
 have i:∀b o,b<w0.heap.size+3->(w2.setCell ⟨w0.heap.size+2,3,none⟩ c).frozen? ⟨b,o,none⟩=w.frozen? ⟨b,o,none⟩:=fun b o f=>by
  rw [eN];exact (h.far d b o f).2
 refine ⟨m.setCell (p:=⟨_,_,none⟩) (by show w0.heap.size<=w0.heap.size+2;omega) _,by have:=d.size;simp;omega,(a _ _ (by omega) (.inl (by omega))).trans h.b3,h.r0.imp fun _ k=>(a _ _ (by omega) (.inl (by omega))).trans k,h.r1.imp fun _ k=>(a _ _ (by omega) (.inl (by omega))).trans k,h.r2.imp fun _ k=>(a _ _ (by omega) (.inl (by omega))).trans k,h.r3.imp fun _ k=>(a _ _ (by omega) (.inl (by omega))).trans k,
  fun o=>(i _ _ (by omega)).trans (h.rf o),(a _ _ (by omega) (.inr (by omega))).trans h.c0,(a _ _ (by omega) (.inr (by omega))).trans h.c1,(a _ _ (by omega) (.inr (by omega))).trans h.c2,de _ _ _ ((h.far d _ _ (by omega)).1.trans h.c3),fun o=>(i _ _ (by omega)).trans (h.cf o),j.keep (by simp) fun b f _=>aS w2 ⟨w0.heap.size+2,3,none⟩ b c (fun e=>by simp at e;omega)⟩
end
theorem sE {w:ai} (e:bD) (rs:List TR) (f:rs.length<=be) (g:∀r∈rs,TmsAt w.heap.size w r.2.1 r.1.args):TmsAt (w.alloc (.cells (eB rs).toArray e)).heap.size (w.alloc (.cells (eB rs).toArray e)) (some ⟨w.heap.size,0,none⟩) (rs.map (·.1)):=by
 have d:ax w.heap.size w (w.alloc (.cells (eB rs).toArray e)):=(aj _ _).alloc (ag _) _
 have h:(w.alloc (.cells (eB rs).toArray e)).heap.size=w.heap.size+1:=by simp
 have b:∀k u,(eB rs)[k]? = some u->(w.alloc (.cells (eB rs).toArray e)).cell? ⟨w.heap.size,0+k,none⟩=some u:=fun k u i=>by
  rw [Nat.zero_add,aq];simpa using i
 refine .mk _ _ (fun j=>(rs.getD j (tm0,none,0)).2.1) (fun j=>(rs.getD j (tm0,none,0)).2.2) (by rw [bm];exact f) (fun j a=>?_) (fun j a=>?_)
 ·rw [bm] at a
  obtain ⟨l,m,n,o⟩:=mD rs j a
  have c:rs.getD j (tm0,none,0)=rs[j]:=by rw [aX,ba a];rfl
  refine ⟨w.heap.size,0,rfl,by rw [h];omega,?_,?_,?_,?_⟩
  ·rw [bT];exact b _ _ l
  ·rw [bT];exact b _ _ m
  ·rw [bT];exact b _ _ n
  ·rw [bT];simp only [c];exact b _ _ o
 ·rw [bm] at a
  have c:rs.getD j (tm0,none,0)=rs[j]:=by rw [aX,ba a];rfl
  rw [bT];simp only [c]
  exact ((g _ (aR a)).keep d).mono d.size
theorem CpH.start (w:ai) (t:Tm) (A:Option Addr) (cap g:Nat) (e:bD) (m:g=t.args.length) :
  CpH w ((((w.alloc (.cells #[ab ae t.kind,ab ae t.num,aa t.name,.slice A g cap] e)).alloc (.cells #[ab ae 0,ab ae 0,aa ⟨#[]⟩,.slice none 0 0] e)).alloc (.cells #[ab ae t.kind,ab ae t.num,aa t.name,.slice none 0 0] e))) e t A cap (.slice none 0 0) []:=by
 obtain ⟨W1,d⟩:∃W1,W1=w.alloc (.cells #[ab ae t.kind,ab ae t.num,aa t.name,.slice A g cap] e):=⟨_,rfl⟩
 obtain ⟨W2,a⟩:∃W2,W2=W1.alloc (.cells #[ab ae 0,ab ae 0,aa ⟨#[]⟩,.slice none 0 0] e):=⟨_,rfl⟩
 rw [<-d,<-a]
 have s1:W1.heap.size=w.heap.size+1:=by rw [d];simp
 have i:W2.heap.size=w.heap.size+2:=by rw [a];simp;omega
 have h:ax W1.heap.size W1 W2:=by rw [a];exact (aj _ _).alloc (ag _) _
 have b:ax W2.heap.size W2 (W2.alloc (.cells #[ab ae t.kind,ab ae t.num,aa t.name,.slice none 0 0] e)):=(aj _ _).alloc (ag _) _
 have l:ax w.heap.size w W1:=by rw [d];exact (aj _ _).alloc (ag _) _
 have k:W1.cell? ⟨w.heap.size,3,none⟩=some (.slice A t.args.length cap):=by rw [d,<-m];exact aq _ _ _ 3
 have r:∀j u,(#[ab ae 0,ab ae 0,aa ⟨#[]⟩,.slice none 0 0]:Array az)[j]? = some u->W2.cell? ⟨w.heap.size+1,j,none⟩=some u:=fun j u n=>by
  have:=aq W1 #[ab ae 0,ab ae 0,aa ⟨#[]⟩,.slice none 0 0] e j
  rw [s1,<-a] at this;rw [this];exact n
 have q:∀o,W2.frozen? ⟨w.heap.size+1,o,none⟩=false:=fun o=>by
  have:=eF (w:=W1) #[ab ae 0,ab ae 0,aa ⟨#[]⟩,.slice none 0 0] e (w.heap.size+1) o s1.symm
  rw [<-a] at this;exact this
 have c:∀j,(W2.alloc (.cells #[ab ae t.kind,ab ae t.num,aa t.name,.slice none 0 0] e)).cell? ⟨w.heap.size+2,j,none⟩=(#[ab ae t.kind,ab ae t.num,aa t.name,.slice none 0 0]:Array az)[j]?:=fun j=>by
  have:=aq W2 #[ab ae t.kind,ab ae t.num,aa t.name,.slice none 0 0] e j
  rw [i] at this;exact this
 have f:∀o,(W2.alloc (.cells #[ab ae t.kind,ab ae t.num,aa t.name,.slice none 0 0] e)).cell? ⟨w.heap.size+1,o,none⟩=W2.cell? ⟨w.heap.size+1,o,none⟩:=fun o=>b.cell (p:=⟨w.heap.size+1,o,none⟩) (show w.heap.size+1<W2.heap.size by omega)
 refine ⟨(l.trans (h.mono (by omega))).trans (b.mono (by omega)),by simp;omega,?_,⟨_,(f 0).trans (r 0 _ rfl)⟩,⟨_,(f 1).trans (r 1 _ rfl)⟩,⟨_,(f 2).trans (r 2 _ rfl)⟩,⟨_,(f 3).trans (r 3 _ rfl)⟩,fun o=>?_,c 0,c 1,c 2,c 3,fun o=>?_,OwnR.nul _ _ _⟩
 ·rw [b.cell (p:=⟨w.heap.size,3,none⟩) (show w.heap.size<W2.heap.size by omega),h.cell (p:=⟨w.heap.size,3,none⟩) (show w.heap.size<W1.heap.size by omega)];exact k
 ·rw [b.frozen (p:=⟨w.heap.size+1,o,none⟩) (show w.heap.size+1<W2.heap.size by omega)];exact q o
 ·exact eF (w:=W2) _ _ (w.heap.size+2) o i.symm
theorem CpH.put {w0 w:ai} {e:bD} {t:Tm} {A:Option Addr} {cap:Nat} {v:az} {rs:List TR} (h:CpH w0 w e t A cap v rs) (d f g i:az) :
  ax w0.heap.size w0 ((((w.setCell ⟨w0.heap.size+1,0,none⟩ d).setCell ⟨w0.heap.size+1,1,none⟩ f).setCell ⟨w0.heap.size+1,2,none⟩ g).setCell ⟨w0.heap.size+1,3,none⟩ i) /\
  OwnR (w0.heap.size+3) e ((((w.setCell ⟨w0.heap.size+1,0,none⟩ d).setCell ⟨w0.heap.size+1,1,none⟩ f).setCell ⟨w0.heap.size+1,2,none⟩ g).setCell ⟨w0.heap.size+1,3,none⟩ i) v rs:=by
 have a:w0.heap.size<=w0.heap.size+1:=by omega
 refine ⟨((((h.bel.setCell (p:=⟨_,_,none⟩) a _).setCell (p:=⟨_,_,none⟩) a _).setCell (p:=⟨_,_,none⟩) a _).setCell (p:=⟨_,_,none⟩) a _),h.own.keep (by simp) fun b j _=>?_⟩
 have c:∀o,b≠(⟨w0.heap.size+1,o,none⟩:Addr).block:=fun o e=>by simp at e;omega
 rw [aS _ _ _ _ (c _),aS _ _ _ _ (c _),aS _ _ _ _ (c _),aS _ _ _ _ (c _)]
def kk (w w':ai) (A:Option Addr) (l:List Tm):Prop:=TmsK (fun b=>w.heap.size<=b/\b<w'.heap.size) w' A l
end Hb
namespace Go.Proofs.YtlikcjbjibhjgaaGreatDoor
open Go.RowKit Hb
theorem yb:(Tryz.prog.info? 25).map (fun i=>(i.zero,i.size,i.bytes))=some (some (aN #[ab ae 0,ab ae 0,aa ⟨#[]⟩,.slice none 0 0]),4,56):=by kernel_rfl
theorem Jd {b:Array Oper} {rest:List Oper} {a:Act} {Q:Exit->Act->ai->Prop} {w:ai} {d t p f x g} (h:cH ah b Q (⟨d,.call { callee:=.builtin .append,args:=x,argTypes:=#[23,23] },t,p,f,g⟩::rest) a w):cH ah b Q (⟨d,.call { callee:=.builtin .append,args:=x,argTypes:=#[23,23] },t,p,f,g⟩::rest) a w:=h
end Go.Proofs.YtlikcjbjibhjgaaGreatDoor
namespace Hb
open Go Go.RowKit
structure R4 (w0 w:ai) (g:Nat):Prop where
 bel:ax w0.heap.size w0 w
 le:w0.heap.size<=g
 lt:g<w.heap.size
 r0:∃v,w.cell? ⟨g,0,none⟩=some v
 r1:∃v,w.cell? ⟨g,1,none⟩=some v
 r2:∃v,w.cell? ⟨g,2,none⟩=some v
 r3:∃v,w.cell? ⟨g,3,none⟩=some v
 fr:∀o,w.frozen? ⟨g,o,none⟩=false
theorem R4.call {w0 w w':ai} {g:Nat} (h:R4 w0 w g) (a:ax w.heap.size w w'):R4 w0 w' g where
 bel:=h.bel.trans (a.mono h.bel.size)
 le:=h.le
 lt:=aC h.lt a.size
 r0:=h.r0.imp fun _ b=>(a.cell (p:=⟨_,_,none⟩) h.lt).trans b
 r1:=h.r1.imp fun _ b=>(a.cell (p:=⟨_,_,none⟩) h.lt).trans b
 r2:=h.r2.imp fun _ b=>(a.cell (p:=⟨_,_,none⟩) h.lt).trans b
 r3:=h.r3.imp fun _ b=>(a.cell (p:=⟨_,_,none⟩) h.lt).trans b
 fr:=fun o=>(a.frozen (p:=⟨_,o,none⟩) h.lt).trans (h.fr o)
theorem R4.start {w0 w:ai} (a:ax w0.heap.size w0 w) (b c d f:az) (e:bD):R4 w0 (w.alloc (.cells #[b,c,d,f] e)) w.heap.size where
 bel:=a.trans ((aj _ _).alloc a.size _)
 le:=a.size
 lt:=by simp
 r0:=⟨_,aq _ _ _ 0⟩
 r1:=⟨_,aq _ _ _ 1⟩
 r2:=⟨_,aq _ _ _ 2⟩
 r3:=⟨_,aq _ _ _ 3⟩
 fr:=fun o=>World.frozen?_alloc_new _ _ _ _
theorem R4.put {w0 w:ai} {g:Nat} (h:R4 w0 w g) (x y z u:az):ax w0.heap.size w0 ((((w.setCell ⟨g,0,none⟩ x).setCell ⟨g,1,none⟩ y).setCell ⟨g,2,none⟩ z).setCell ⟨g,3,none⟩ u) :=
 (((h.bel.setCell (p:=⟨_,_,none⟩) h.le _).setCell (p:=⟨_,_,none⟩) h.le _).setCell (p:=⟨_,_,none⟩) h.le _).setCell (p:=⟨_,_,none⟩) h.le _
theorem bR (w:ai) (g:Nat) (x y z u:az) (b:Nat) (a:b≠g):((((w.setCell ⟨g,0,none⟩ x).setCell ⟨g,1,none⟩ y).setCell ⟨g,2,none⟩ z).setCell ⟨g,3,none⟩ u).heap[b]? = w.heap[b]?:=by
 rw [aS _ _ _ _ a,aS _ _ _ _ a,aS _ _ _ _ a,aS _ _ _ _ a]
theorem eD (w:ai) (g:Nat) (x y z u:az):((((w.setCell ⟨g,0,none⟩ x).setCell ⟨g,1,none⟩ y).setCell ⟨g,2,none⟩ z).setCell ⟨g,3,none⟩ u).heap.size=w.heap.size:=by simp
end Hb
namespace Go.Proofs.YtlikcjbjibhjgaaGreatDoor
open Go.RowKit Hb
theorem KX (t:Tm) (A:Option Addr) (cap:Nat) (w:ai):aJ ah 198 #[er t A cap] w fun e w'=>e=aw (er t A cap)/\ax w.heap.size w w':=by
 unfold er
 generalize t.kind=a0 at *
 generalize t.num=a at *
 generalize t.name=b at *
 generalize t.args.length=c at *
 have d:=R4.start (w0:=w) (w:=w.alloc (.cells #[ab ae a0,ab ae a,aa b,.slice A c cap] 25)) ((aj _ _).alloc (ag _) _) (ab ae 0) (ab ae 0) (aa ⟨#[]⟩) (.slice none 0 0) 25
 have f:(w.alloc (.cells #[ab ae a0,ab ae a,aa b,.slice A c cap] 25)).heap.size=w.heap.size+1:=by simp
 rw [f] at d
 have g:=d.put (ab ae a0) (ab ae a) (aa b) (.slice A c cap)
 go_enter Tryz.func198,Tryz.ntmps198
 go_wp2_with fail
 refine ay (v:=aN #[ab ae a0,ab ae a,aa b,.slice A c cap]) (by simp [results,Tryz.results198,go_sem]) rfl ⟨rfl,?_⟩
 exact ((aj _ _).alloc (ag _) _).alloc (by simp) _
def Cr:Value:=.func (.func 198) #[] #[]
theorem JH:∀(t:Tm) (A:Option Addr) (cap:Nat) (w:ai),TmsAt w.heap.size w A t.args->t.allOk=true ->
    aJ ah 65 #[er t A cap,Cr] w fun e w'=>∃o q,e=aw (er t o q)/\ax w.heap.size w w'/\kk w w' o t.args:=by
  refine Tm.ind fun t Q=>?_
  intro A cap w O r
  obtain ⟨i,hi,b1,b2,b4⟩:=eh yb
  have HI:=zq hi
  have c5:=zq b1
  have c6:=zq b2
  have c7:=zq b4
  clear hi b1 b2 b4
  have HT:=zq O
  have hm:t.args.length<=8:=by
    rw [Tm.allOk_eq,aF] at r
    have:=r.1
    unfold dH at this
    grind
  have b8:Hid (∀a∈t.args,a.allOk=true):=zq (by
    rw [Tm.allOk_eq,aF,bh] at r
    exact r.2)
  have b6:=zq Q
  obtain ⟨L,p⟩:=lz (t.args.length)
  have a4:=zq (CpH.start w t A cap L 25 p.out)
  unfold er Cr at *
  rw [<-p.out] at hm |-
  by_cases B:t.kind=0
  · have a8:t.args.length=0:=by
      have M:=r
      rw [Tm.allOk_eq,aF] at M
      have E:=M.1
      unfold dH at E
      rw [if_pos B] at E
      simp at E
      exact List.length_eq_zero_iff.2 E.2
    have d1:t.args=[]:=bL a8
    have J:=zq (fun W=>KX t A cap W)
    unfold er at J
    rw [<-p.out] at J
    have HK:=zq B
    have P:=R4.start (w0:=w) (w:=w.alloc (.cells #[ab ae t.kind,ab ae t.num,aa t.name,.slice A L cap] 25)) ((aj _ _).alloc (ag _) _) (ab ae 0) (ab ae 0) (aa ⟨#[]⟩) (.slice none 0 0) 25
    have C:(w.alloc (.cells #[ab ae t.kind,ab ae t.num,aa t.name,.slice A L cap] 25)).heap.size=w.heap.size+1:=by simp
    rw [C] at P
    have c4:=zq P
    have d7:(t.kind==0)=true:=by simp [B]
    clear r B a8 P C Q O a4 p
    generalize t.kind=a0 at *
    generalize t.num=a1 at *
    generalize t.name=a2 at *
    go_enter Tryz.func65,Tryz.ntmps65
    go_wp2_with fail
    refine (J.out _).mono ?_;rintro e w1 ⟨rfl,c8⟩
    have m:=c4.out.call c8
    obtain ⟨v0,R⟩:=m.r0
    obtain ⟨v1,S⟩:=m.r1
    obtain ⟨v2,T⟩:=m.r2
    obtain ⟨v3,U⟩:=m.r3
    have f0:=m.fr 0
    have f1:=m.fr 1
    have f2:=m.fr 2
    have f3:=m.fr 3
    have d2:=m.put (ab ae a0) (ab ae a1) (aa a2) (.slice A L cap)
    go_wp2_with fail
    exact ay (v:=aN #[ab ae a0,ab ae a1,aa a2,.slice A L cap]) (by simp [results,Tryz.results65,go_sem,R,S,T,U]) rfl ⟨A,cap,rfl,d2,by rw [d1];exact TmsK.nil⟩
  have d9:(t.kind==0)=false:=by simp [B]
  clear Q O r
  go_enter Tryz.func65,Tryz.ntmps65
  go_wp2_with fail
  go_loopw [24] (fun i wr=>∃k:Nat,∃v:az,∃rs:List TR,k<=L/\i=ab ae k/\Hid (CpH w wr 25 t A cap v rs)/\Hid (rs.map (·.1)=t.args.take k)) (fun i _=>L-(intOf i).toNat)
  case atStart=>exact ⟨0,_,[],bp _,rfl,a4,zq (by simp)⟩
  case round=>
    obtain ⟨k,v,rs,hk,rfl,d,D⟩:=hrel
    have b3:=d.out.b3
    rw [<-p.out] at b3
    by_cases e1:k<L
    · have H:k<t.args.length:=by have:=p.out;omega
      obtain ⟨b,d5,o,q,rfl,f,c0,c1,g,c3,C⟩:=(HT.out.keep d.out.bel).get k H
      have s:=d.out.call ((aj _ _).alloc (ag _) (.cells #[ab ae t.args[k].kind,ab ae t.args[k].num,aa t.args[k].name,.slice o t.args[k].args.length q] 25))
      have y:=s.drew
      have V:=zq (b6.out t.args[k] (aR H) o q (wr.alloc (.cells #[ab ae t.args[k].kind,ab ae t.args[k].num,aa t.args[k].name,.slice o t.args[k].args.length q] 25)).drew ((C.keep ((aj _ wr).alloc d.out.bel.size _).drew).mono s.bel.size) (b8.out _ (aR H)))
      have X:Hid (aJ ah 65 #[aN #[ab ae t.args[k].kind,ab ae t.args[k].num,aa t.args[k].name,.slice o t.args[k].args.length q],.func (.func 198) #[] #[]] (wr.alloc (.cells #[ab ae t.args[k].kind,ab ae t.args[k].num,aa t.args[k].name,.slice o t.args[k].args.length q] 25)).drew fun e w'=>∃c g,e=aw (aN #[ab ae t.args[k].kind,ab ae t.args[k].num,aa t.args[k].name,.slice c t.args[k].args.length g])/\CpH w w' 25 t (some ⟨b,d5,none⟩) cap v rs/\TmsK (fun b=>w.heap.size+3<=b/\b<w'.heap.size/\v.ownBlock≠some b) w' c t.args[k].args) :=
        zq (V.out.mono fun e w' hh=>by
          obtain ⟨c,g,z,hB,N⟩:=hh
          refine ⟨c,g,z,y.call hB,N.keep (fun _ _=>rfl) fun b f=>⟨aI y.lt f.1,f.2,fun ee=>?_⟩⟩
          have:=(y.own.own.lt b ee).2
          have M:=f.1
          omega)
      have I:rs.length=k:=by
        have:=congrArg hJ D.out
        rw [bm,bM] at this;omega
      have a3:Hid ((rs++[((t.args[k],none,0):TR)]).map (fun x:TR=>x.1)=t.args.take (k+1)):=zq (by
        rw [List.map_append,D.out,List.take_succ_eq_append_getElem H];simp)
      have a6:=s.c3
      have a7:=s.cf 3
      have e0:(0:Int)<=(k:Int):=by omega
      have d8:(k:Int)<(L:Int):=by omega
      clear C V
      obtain ⟨a,b5⟩:=lz (t.args[k])
      rw [<-b5.out] at X a3 c0 c1 g c3 s y a6 a7
      go_wp2_with fail
      go_region_law (first
        | (go_simp;go_at_call 65;(with_reducible refine X.out.mono ?_);rintro e n ⟨c,l,rfl,F,a5⟩;have k3:=F.c3;have kf:=F.cf 3;have h:=F.call ((aj _ _).alloc (ag _) (.cells #[ab ae a.kind,ab ae a.num,aa a.name,.slice c a.args.length l] 25));have k5:=h.c3;have d4:=h.cf 3)
        | go_must (have q1:rs.length+1<=be:=by unfold be;omega
                   have q2:(rs.length+1) * 56<=140737488355328:=by omega
                   have q3:w.heap.size+3<=(n.alloc (.cells #[ab ae a.kind,ab ae a.num,aa a.name,.slice c a.args.length l] 25)).heap.size:=h.lt
                   have q4:∀j u,(iW (a,c,l))[j]? = some u->(n.alloc (.cells #[ab ae a.kind,ab ae a.num,aa a.name,.slice c a.args.length l] 25)).cell? ((⟨n.heap.size,0,none⟩:Addr).add j)=some u:=dv (dA n _)
                   have q5:(n.alloc (.cells #[ab ae a.kind,ab ae a.num,aa a.name,.slice c a.args.length l] 25)).heap.size=n.heap.size+1:=by simp
                   refine step_append_lies _ (by rfl) _ _ 23 (by rfl) (w.heap.size+3) 25 i _ 4 56 fL HI.out c5.out c6.out c7.out (by rfl) (by decide) v rs.length (eB rs) (by rfl) h.own.own ⟨n.heap.size,0,none⟩ 1 1 (iW (a,c,l)) (by rfl) (by rfl) q4 (ql _) (by decide) q1 q2 q3 (n.heap.size+1) q5 ?_;intro g2 d6 w3 a9 G c9 e2;clear q1 q2 q3 q4 q5;have k4:=(h.far G (w.heap.size+2) 3 (by omega)).1.trans h.c3;have d3:=(h.far G (w.heap.size+2) 3 (by omega)).2.trans (h.cf 3))
        | fail)
      all_goals
        have Y:=zq (h.app (a,c,l) (a5.keep (fun b f=>heap_alloc_old n _ f.2.1) fun b f=>⟨f.1,by simp;omega,f.2.2⟩) a9 G (by
          rcases c9 with K | K
          · exact .inl K.symm
          · exact .inr (by rw [K];simp [ew])))
        rw [I] at Y
        have b9:Hid ((rs++[((a,c,l):TR)]).map (fun x:TR=>x.1)=t.args.take (k+1)):=zq (by rw [<-a3.out];simp)
        clear k3 kf k4 d3 k5 d4 F a5 h a9 G y s a6 a7
        go_wp2_with fail
        go_roundw
        case rel=>exact ⟨k+1,_,rs++[(a,c,l)],by omega,by go_num,Y,b9⟩
        case measure=>simp [intOf] <;> omega
    · have d0:k=L:=by omega
      subst d0
      obtain ⟨c,g,rfl,N⟩:=d.out.own.tms
      have I:rs.length=k:=by
        have:=congrArg hJ D.out
        rw [bm,bM,<-p.out] at this;omega
      have b0:rs.map (fun x:TR=>x.1)=t.args:=by rw [D.out,p.out,List.take_length]
      rw [I] at d
      have k0:=d.out.c0
      have k1:=d.out.c1
      have k2:=d.out.c2
      have k3:=d.out.c3
      obtain ⟨v0,R⟩:=d.out.r0
      obtain ⟨v1,S⟩:=d.out.r1
      obtain ⟨v2,T⟩:=d.out.r2
      obtain ⟨v3,U⟩:=d.out.r3
      have f0:=d.out.rf 0
      have f1:=d.out.rf 1
      have f2:=d.out.rf 2
      have f3:=d.out.rf 3
      have Z:=zq (d.out.put (ab ae t.kind) (ab ae t.num) (aa t.name) (.slice c k g))
      have b7:Hid (kk w ((((wr.setCell ⟨w.heap.size+1,0,none⟩ (ab ae t.kind)).setCell ⟨w.heap.size+1,1,none⟩ (ab ae t.num)).setCell ⟨w.heap.size+1,2,none⟩ (aa t.name)).setCell ⟨w.heap.size+1,3,none⟩ (.slice c k g)) c t.args):=zq (by
        obtain ⟨A3,c3,z,h3⟩:=Z.out.2.tms
        rw [b0] at h3
        injection z with z _ _
        subst z
        exact h3.keep (fun _ _=>rfl) fun b f=>⟨by have:=f.1;omega,f.2⟩)
      clear N b0 I
      go_wp2_with fail
      exact ay (v:=aN #[ab ae t.kind,ab ae t.num,aa t.name,.slice c k g]) (by simp [results,Tryz.results65,go_sem,R,S,T,U]) rfl ⟨c,g,rfl,Z.out.1,b7.out⟩
end Go.Proofs.YtlikcjbjibhjgaaGreatDoor
namespace Hb
open Go Go.RowKit
theorem iA (t:Tm):cd t=true↔t.nodes<=2000/\t.allOk=true:=by unfold cd;rw [aF,decide_eq_true_iff]
theorem sZ {t:Tm} (h:cd t=true) (j:Nat) (a:j<t.args.length):cd t.args[j]=true:=by
 rw [iA] at *
 have c:=t.nodes_arg j a
 rw [Tm.arg_get t j a] at c
 have b:=h.2
 rw [Tm.allOk_eq,aF,bh] at b
 exact ⟨by omega,b.2 _ (aR a)⟩
def kV (t:Tm):Tm:=if cd t=true then t else tm0
theorem Fk:∀f u,u.nodes<=f->(mq f u).length<=u.nodes:=by
 intro f
 induction f with
 | zero=>intro u h;have:=u.nodes_pos;omega
 | succ f ih=>
  intro u h
  show (if u.cons=true then u.arg 0::mq f (u.arg 1) else []).length<=_
  split
  ·rename_i a
   have b:=u.nodes_arg 1 (by rw [Tm.cons_len a];decide)
   have:=ih (u.arg 1) (by omega)
   rw [List.length_cons];omega
  ·simp
theorem uu (t:Tm):(cK t).length<=t.nodes:=Fk t.nodes t (ag _)
structure ElH (w0 w:ai) (e:bD) (t:Tm) (A:Option Addr) (cap:Nat) (v:az) (rs:List TR):Prop where
 bel:ax w0.heap.size w0 w
 lt:w0.heap.size+2<=w.heap.size
 c0:w.cell? ⟨w0.heap.size,0,none⟩=some (ab ae t.kind)
 c1:w.cell? ⟨w0.heap.size,1,none⟩=some (ab ae t.num)
 c2:w.cell? ⟨w0.heap.size,2,none⟩=some (aa t.name)
 c3:w.cell? ⟨w0.heap.size,3,none⟩=some (.slice A t.args.length cap)
 cf:∀o,w.frozen? ⟨w0.heap.size,o,none⟩=false
 r0:∃u,w.cell? ⟨w0.heap.size+1,0,none⟩=some u
 r1:∃u,w.cell? ⟨w0.heap.size+1,1,none⟩=some u
 r2:∃u,w.cell? ⟨w0.heap.size+1,2,none⟩=some u
 r3:∃u,w.cell? ⟨w0.heap.size+1,3,none⟩=some u
 rf:∀o,w.frozen? ⟨w0.heap.size+1,o,none⟩=false
 own:OwnR (w0.heap.size+2) e w v rs
section
variable {w0 w w':ai} {e:bD} {t:Tm} {A:Option Addr} {cap:Nat} {v:az} {rs:List TR}
theorem ElH.over (h:ElH w0 w e t A cap v rs) {c:az} {rs':List TR} (d:ax w0.heap.size w0 w') (i:w.heap.size<=w'.heap.size) (a:∀b o,b<w0.heap.size+2->w'.cell? ⟨b,o,none⟩=w.cell? ⟨b,o,none⟩/\w'.frozen? ⟨b,o,none⟩=w.frozen? ⟨b,o,none⟩) (g:OwnR (w0.heap.size+2) e w' c rs'):ElH w0 w' e t A cap c rs':=by
 have f:=h.lt
 exact ⟨d,aI f i,(a _ _ (by omega)).1.trans h.c0,(a _ _ (by omega)).1.trans h.c1,(a _ _ (by omega)).1.trans h.c2,(a _ _ (by omega)).1.trans h.c3,fun o=>(a _ _ (by omega)).2.trans (h.cf o),
  h.r0.imp fun _ k=>(a _ _ (by omega)).1.trans k,h.r1.imp fun _ k=>(a _ _ (by omega)).1.trans k,h.r2.imp fun _ k=>(a _ _ (by omega)).1.trans k,h.r3.imp fun _ k=>(a _ _ (by omega)).1.trans k,fun o=>(a _ _ (by omega)).2.trans (h.rf o),g⟩
theorem ElH.call (h:ElH w0 w e t A cap v rs) (a:ax w.heap.size w w'):ElH w0 w' e t A cap v rs:=by
 have d:=h.lt
 exact h.over (h.bel.trans (a.mono (by omega))) a.size (fun b o c=>⟨a.cell (p:=⟨b,o,none⟩) (show b<_ by omega),a.frozen (p:=⟨b,o,none⟩) (show b<_ by omega)⟩) (h.own.below a)
theorem ElH.app (h:ElH w0 w e t A cap v rs) (r:TR) (l:TmsK (fun b=>w0.heap.size+2<=b/\b<w.heap.size/\v.ownBlock≠some b) w r.2.1 r.1.args) {c:az} {d:ai}
  (j:d.ownsRow (w0.heap.size+2) e 4 c (rs.length+1) (eB rs++iW r)) (a:w.grownBy d v.ownBlock) (g:c.ownBlock=v.ownBlock\/c.ownBlock=some w.heap.size):ElH w0 d e t A cap c (rs++[r]):=by
 have n:=h.lt
 refine h.over (h.bel.grown a (by omega) (fun k i=>by have:=(h.own.own.lt k i).1;omega)) a.size (fun b o m=>?_) (h.own.snoc r l j a g)
 have f:some b≠v.ownBlock:=fun e=>by have:=(h.own.own.lt b e.symm).1;omega
 exact ⟨a.cell_far ⟨b,o,none⟩ (show b<_ by omega) f,a.frozen_far ⟨b,o,none⟩ (show b<_ by omega) f⟩
theorem nD (w:ai) (g i j:Nat) (v:az) (h:j≠i):(w.setCell ⟨g,i,none⟩ v).cell? ⟨g,j,none⟩=w.cell? ⟨g,j,none⟩:=cW _ _ _ _ (fun e=>h (by injection e with _ e2 _;first | exact e2 | exact e2.symm))
theorem pD (w:ai) (g:Nat) (x y z u:az) {D y1 y2 y3:az} (v:w.cell? ⟨g,0,none⟩=some D) (A:w.cell? ⟨g,1,none⟩=some y1) (B:w.cell? ⟨g,2,none⟩=some y2) (C:w.cell? ⟨g,3,none⟩=some y3) (W:ai) (f:W=(((w.setCell ⟨g,0,none⟩ x).setCell ⟨g,1,none⟩ y).setCell ⟨g,2,none⟩ z).setCell ⟨g,3,none⟩ u) :
  W.cell? ⟨g,0,none⟩=some x/\W.cell? ⟨g,1,none⟩=some y/\W.cell? ⟨g,2,none⟩=some z/\W.cell? ⟨g,3,none⟩=some u/\∀p,W.frozen? p=w.frozen? p:=by
 obtain ⟨a,c⟩:∃a,a=w.setCell ⟨g,0,none⟩ x:=⟨_,rfl⟩
 obtain ⟨b,d⟩:∃b,b=a.setCell ⟨g,1,none⟩ y:=⟨_,rfl⟩
 obtain ⟨h,e⟩:∃h,h=b.setCell ⟨g,2,none⟩ z:=⟨_,rfl⟩
 rw [<-c,<-d,<-e] at f
 have a0:a.cell? ⟨g,0,none⟩=some x:=by rw [c];exact de _ _ _ v
 have i:a.cell? ⟨g,1,none⟩=some y1:=by rw [c,nD _ _ _ _ _ (by decide)];exact A
 have j:a.cell? ⟨g,2,none⟩=some y2:=by rw [c,nD _ _ _ _ _ (by decide)];exact B
 have k:a.cell? ⟨g,3,none⟩=some y3:=by rw [c,nD _ _ _ _ _ (by decide)];exact C
 have l:b.cell? ⟨g,0,none⟩=some x:=by rw [d,nD _ _ _ _ _ (by decide)];exact a0
 have m:b.cell? ⟨g,1,none⟩=some y:=by rw [d];exact de _ _ _ i
 have n:b.cell? ⟨g,2,none⟩=some y2:=by rw [d,nD _ _ _ _ _ (by decide)];exact j
 have o:b.cell? ⟨g,3,none⟩=some y3:=by rw [d,nD _ _ _ _ _ (by decide)];exact k
 have q:h.cell? ⟨g,0,none⟩=some x:=by rw [e,nD _ _ _ _ _ (by decide)];exact l
 have r:h.cell? ⟨g,1,none⟩=some y:=by rw [e,nD _ _ _ _ _ (by decide)];exact m
 have s:h.cell? ⟨g,2,none⟩=some z:=by rw [e];exact de _ _ _ n
 have t:h.cell? ⟨g,3,none⟩=some y3:=by rw [e,nD _ _ _ _ _ (by decide)];exact o
 refine ⟨?_,?_,?_,?_,fun p=>by rw [f,e,d,c,eN,eN,eN,eN]⟩
 ·rw [f,nD _ _ _ _ _ (by decide)];exact q
 ·rw [f,nD _ _ _ _ _ (by decide)];exact r
 ·rw [f,nD _ _ _ _ _ (by decide)];exact s
 ·rw [f];exact de _ _ _ t
theorem ElH.next (h:ElH w0 w e t A cap v rs) (u:Tm) (a:Option Addr) (c:Nat) :
  ElH w0 ((((w.setCell ⟨w0.heap.size,0,none⟩ (ab ae u.kind)).setCell ⟨w0.heap.size,1,none⟩ (ab ae u.num)).setCell ⟨w0.heap.size,2,none⟩ (aa u.name)).setCell ⟨w0.heap.size,3,none⟩ (.slice a u.args.length c)) e u a c v rs:=by
 have x:=h.lt
 have f:w0.heap.size<=w0.heap.size:=ag _
 have l:ax w0.heap.size w0 ((((w.setCell ⟨w0.heap.size,0,none⟩ (ab ae u.kind)).setCell ⟨w0.heap.size,1,none⟩ (ab ae u.num)).setCell ⟨w0.heap.size,2,none⟩ (aa u.name)).setCell ⟨w0.heap.size,3,none⟩ (.slice a u.args.length c)):=((((h.bel.setCell (p:=⟨_,_,none⟩) f _).setCell (p:=⟨_,_,none⟩) f _).setCell (p:=⟨_,_,none⟩) f _).setCell (p:=⟨_,_,none⟩) f _)
 have m:=pD w w0.heap.size (ab ae u.kind) (ab ae u.num) (aa u.name) (.slice a u.args.length c) h.c0 h.c1 h.c2 h.c3 _ rfl
 have i:=fun b g=>bR w w0.heap.size (ab ae u.kind) (ab ae u.num) (aa u.name) (.slice a u.args.length c) b g
 have y:=eD w w0.heap.size (ab ae u.kind) (ab ae u.num) (aa u.name) (.slice a u.args.length c)
 generalize (((w.setCell ⟨w0.heap.size,0,none⟩ (ab ae u.kind)).setCell ⟨w0.heap.size,1,none⟩ (ab ae u.num)).setCell ⟨w0.heap.size,2,none⟩ (aa u.name)).setCell ⟨w0.heap.size,3,none⟩ (.slice a u.args.length c)=W at *
 obtain ⟨n,q,r,s,j⟩:=m
 have d:∀o,W.cell? ⟨w0.heap.size+1,o,none⟩=w.cell? ⟨w0.heap.size+1,o,none⟩:=fun o=>World.cell?_of_block (i (w0.heap.size+1) (by omega))
 exact ⟨l,by omega,n,q,r,s,fun o=>(j _).trans (h.cf o),h.r0.imp fun _ k=>(d 0).trans k,h.r1.imp fun _ k=>(d 1).trans k,h.r2.imp fun _ k=>(d 2).trans k,h.r3.imp fun _ k=>(d 3).trans k,fun o=>(j _).trans (h.rf o),h.own.keep (by omega) fun b g _=>i b (by omega)⟩
end
theorem ElH.start (w:ai) (t:Tm) (A:Option Addr) (cap d:Nat) (e:bD) (i:d=t.args.length) :
  ElH w ((w.alloc (.cells #[ab ae t.kind,ab ae t.num,aa t.name,.slice A d cap] e)).alloc (.cells #[ab ae 0,ab ae 0,aa ⟨#[]⟩,.slice none 0 0] e)) e t A cap (.slice none 0 0) []:=by
 obtain ⟨W1,b⟩:∃W1,W1=w.alloc (.cells #[ab ae t.kind,ab ae t.num,aa t.name,.slice A d cap] e):=⟨_,rfl⟩
 rw [<-b]
 have s1:W1.heap.size=w.heap.size+1:=by rw [b];simp
 have h:ax w.heap.size w W1:=by rw [b];exact (aj _ _).alloc (ag _) _
 have f:ax W1.heap.size W1 (W1.alloc (.cells #[ab ae 0,ab ae 0,aa ⟨#[]⟩,.slice none 0 0] e)):=(aj _ _).alloc (ag _) _
 have a:∀j,W1.cell? ⟨w.heap.size,j,none⟩=(#[ab ae t.kind,ab ae t.num,aa t.name,.slice A t.args.length cap]:Array az)[j]?:=fun j=>by rw [b,<-i];exact aq _ _ _ j
 have g:∀o,W1.frozen? ⟨w.heap.size,o,none⟩=false:=fun o=>by rw [b];exact eF (w:=w) _ _ w.heap.size o rfl
 have c:∀o,(W1.alloc (.cells #[ab ae 0,ab ae 0,aa ⟨#[]⟩,.slice none 0 0] e)).cell? ⟨w.heap.size,o,none⟩=W1.cell? ⟨w.heap.size,o,none⟩:=fun o=>f.cell (p:=⟨w.heap.size,o,none⟩) (show w.heap.size<W1.heap.size by omega)
 have r:∀j,(W1.alloc (.cells #[ab ae 0,ab ae 0,aa ⟨#[]⟩,.slice none 0 0] e)).cell? ⟨w.heap.size+1,j,none⟩=(#[ab ae 0,ab ae 0,aa ⟨#[]⟩,.slice none 0 0]:Array az)[j]?:=fun j=>by
  have:=aq W1 #[ab ae 0,ab ae 0,aa ⟨#[]⟩,.slice none 0 0] e j
  rw [s1] at this;exact this
 exact ⟨h.trans (f.mono (by omega)),by simp;omega,(c 0).trans (a 0),(c 1).trans (a 1),(c 2).trans (a 2),(c 3).trans (a 3),fun o=>(f.frozen (p:=⟨w.heap.size,o,none⟩) (show w.heap.size<W1.heap.size by omega)).trans (g o),⟨_,r 0⟩,⟨_,r 1⟩,⟨_,r 2⟩,⟨_,r 3⟩,fun o=>eF (w:=W1) _ _ (w.heap.size+1) o s1.symm,OwnR.nul _ _ _⟩
theorem ElH.put {w0 w:ai} {e:bD} {t:Tm} {A:Option Addr} {cap:Nat} {v:az} {rs:List TR} (h:ElH w0 w e t A cap v rs) (c d f g:az) :
  ax w0.heap.size w0 ((((w.setCell ⟨w0.heap.size+1,0,none⟩ c).setCell ⟨w0.heap.size+1,1,none⟩ d).setCell ⟨w0.heap.size+1,2,none⟩ f).setCell ⟨w0.heap.size+1,3,none⟩ g) /\
  OwnR (w0.heap.size+2) e ((((w.setCell ⟨w0.heap.size+1,0,none⟩ c).setCell ⟨w0.heap.size+1,1,none⟩ d).setCell ⟨w0.heap.size+1,2,none⟩ f).setCell ⟨w0.heap.size+1,3,none⟩ g) v rs:=by
 have a:w0.heap.size<=w0.heap.size+1:=by omega
 exact ⟨((((h.bel.setCell (p:=⟨_,_,none⟩) a _).setCell (p:=⟨_,_,none⟩) a _).setCell (p:=⟨_,_,none⟩) a _).setCell (p:=⟨_,_,none⟩) a _),h.own.keep (by simp) fun b i _=>bR w (w0.heap.size+1) _ _ _ _ b (by omega)⟩
def Nz:Value->Nat | .slice _ n _=>n | _=>0
theorem zR {w:ai} {b e s n:Nat} {v:az} {xs:List az} (h:w.ownsRow b e s v n xs):Nz v=n:=by
 rcases h.2 with ⟨rfl,rfl⟩ | ⟨g,cap,a,rfl,_⟩ <;> rfl
end Hb
namespace Go.Proofs.YtlikcjbjibhjgaaGreatDoor
open Go.RowKit Hb
theorem wU (t:Tm) (A:Option Addr) (cap:Nat) (w:ai) (p:TmsAt w.heap.size w A t.args) :
  aJ ah 184 #[er t A cap] w fun e w'=>∃A' cap',e=aw (er (kV t) A' cap')/\ax w.heap.size w w'/\kk w w' A' (kV t).args:=by
 have q:=R4.start (w0:=w) (w:=w.alloc (.cells #[ab ae t.kind,ab ae t.num,aa t.name,.slice A t.args.length cap] 25)) ((aj _ _).alloc (ag _) _) (ab ae 0) (ab ae 0) (aa ⟨#[]⟩) (.slice none 0 0) 25
 have C:(w.alloc (.cells #[ab ae t.kind,ab ae t.num,aa t.name,.slice A t.args.length cap] 25)).heap.size=w.heap.size+1:=by simp
 rw [C] at q
 have g:=zq q
 have F:Hid (TBoxT w ((w.alloc (.cells #[ab ae t.kind,ab ae t.num,aa t.name,.slice A t.args.length cap] 25)).alloc (.cells #[ab ae 0,ab ae 0,aa ⟨#[]⟩,.slice none 0 0] 25)) t A cap) :=
  zq ((TBoxT.start w t A cap 25).call ((aj _ _).alloc (ag _) _))
 have G:=zq (fun (W:ai) (h:TBoxT w W t A cap)=>(⟨h.c0,h.c1,h.c2,h.c3⟩:_/\_/\_/\_))
 have f:=zq (fun (W:ai) (h:R4 w W (w.heap.size+1))=>mT t A cap W ((p.keep h.bel).mono h.bel.size))
 have y:=zq (fun (W:ai) (h:R4 w W (w.heap.size+1)) (T:t.allOk=true)=>JH t A cap W ((p.keep h.bel).mono h.bel.size) T)
 clear p q C
 unfold er Cr at *
 cases hv:cd t
 ·have n:=zq (show kV t=tm0 by unfold kV;rw [hv];rfl)
  rw [hv] at f
  clear hv
  rw [n.out]
  generalize t.kind=a0 at *
  generalize t.num=i at *
  generalize t.name=j at *
  generalize t.args.length=k at *
  go_enter Tryz.func184,Tryz.ntmps184
  go_wp2_with fail
  refine (f.out _ g.out).mono ?_;rintro e w1 ⟨rfl,l⟩
  have a:=g.out.call l
  obtain ⟨V,r⟩:=a.r0
  obtain ⟨X,s⟩:=a.r1
  obtain ⟨Y,u⟩:=a.r2
  obtain ⟨Z,x⟩:=a.r3
  have N:=a.fr 0
  have O:=a.fr 1
  have P:=a.fr 2
  have Q:=a.fr 3
  have U:=a.put (ab ae 0) (ab ae 0) (aa ⟨#[]⟩) (.slice none 0 0)
  go_wp2_with fail
  exact ay (v:=aN #[ab ae 0,ab ae 0,aa ⟨#[]⟩,.slice none 0 0]) (by simp [results,Tryz.results184,go_sem,r,s,u,x]) rfl ⟨none,0,rfl,U,TmsK.nil⟩
 ·have B:=((iA t).1 hv).2
  have n:=zq (show kV t=t by unfold kV;rw [hv];rfl)
  rw [hv] at f
  clear hv
  rw [n.out]
  have E:=zq (fun W h=>y.out W h B)
  clear y B
  generalize t.kind=a0 at *
  generalize t.num=i at *
  generalize t.name=j at *
  generalize t.args.length=k at *
  go_enter Tryz.func184,Tryz.ntmps184
  go_wp2_with fail
  refine (f.out _ g.out).mono ?_;rintro e w1 ⟨rfl,l⟩
  have a:=g.out.call l
  have S:=F.out.call l
  obtain ⟨J,K,L,M⟩:=G.out _ S
  go_wp2_with fail
  refine (E.out _ a).mono ?_;rintro e D ⟨d,m,rfl,R,o⟩
  have c:=a.call R
  have a4:=zq o
  obtain ⟨V,r⟩:=c.r0
  obtain ⟨X,s⟩:=c.r1
  obtain ⟨Y,u⟩:=c.r2
  obtain ⟨Z,x⟩:=c.r3
  have N:=c.fr 0
  have O:=c.fr 1
  have P:=c.fr 2
  have Q:=c.fr 3
  have I:=zq (c.put (ab ae a0) (ab ae i) (aa j) (.slice d k m))
  have H:Hid (kk w ((((D.setCell ⟨w.heap.size+1,0,none⟩ (ab ae a0)).setCell ⟨w.heap.size+1,1,none⟩ (ab ae i)).setCell ⟨w.heap.size+1,2,none⟩ (aa j)).setCell ⟨w.heap.size+1,3,none⟩ (.slice d k m)) d t.args) :=
   zq (TmsK.keep o (fun b z=>bR D (w.heap.size+1) _ _ _ _ b (by have:=a.lt;omega)) (fun b z=>⟨by have:=a.lt;omega,by rw [eD];exact z.2⟩))
  clear o J K L M
  go_wp2_with fail
  exact ay (v:=aN #[ab ae a0,ab ae i,aa j,.slice d k m]) (by simp [results,Tryz.results184,go_sem,r,s,u,x]) rfl ⟨d,m,rfl,I.out,H.out⟩
theorem JG (t:Tm) (A:Option Addr) (cap:Nat) (w:ai) (hT:TmsAt w.heap.size w A t.args) (hv:cd t=true) :
  aJ ah 178 #[er t A cap] w fun e w'=>∃y c1 d o,e=aw (aK #[.slice y (cK t).length c1,er (di t) d o])/\ax w.heap.size w w'/\kk w w' y (cK t)/\kk w w' d (di t).args:=by
 obtain ⟨i,hi,d7,d8,d9⟩:=eh yb
 have HI:=zq hi
 have f6:=zq d7
 have f7:=zq d8
 have f8:=zq d9
 clear hi d7 d8 d9
 have HT:=zq hT
 have f4:=zq hv
 have h6:t.nodes<=2000:=((iA t).1 hv).1
 have e6:=zq (uu t)
 obtain ⟨L,HL⟩:=lz (t.args.length)
 have b8:=zq (ElH.start w t A cap L 25 HL.out)
 have c7:Hid (∀(W:ai),ElH w W 25 t A cap (.slice none 0 0) []->aJ ah 35 #[aN #[ab ae t.kind,ab ae t.num,aa t.name,.slice A L cap]] W fun e w'=>e=aw (am true)/\ElH w w' 25 t A cap (.slice none 0 0) []):=zq (fun W h=>by
  have:=mT t A cap W ((hT.keep h.bel).mono h.bel.size)
  unfold er at this
  rw [hv,<-HL.out] at this
  exact this.mono fun _ _ hh=>⟨hh.1,h.call hh.2⟩)
 clear hT hv
 unfold er
 rw [<-HL.out]
 go_enter Tryz.func178,Tryz.ntmps178
 go_wp2_with fail
 refine (c7.out _ b8.out).mono ?_;rintro e w1 ⟨rfl,d1⟩
 have f5:=zq d1
 clear d1
 go_wp2_with fail
 go_loopw [4] (fun v wr=>∃(u:Tm) (y:Option Addr) (c1:Nat) (rs:List TR),Hid (ElH w wr 25 u y c1 v rs)/\Hid (TmsAt w.heap.size w y u.args)/\Hid (cd u=true)/\Hid (cK t=rs.map (fun x:TR=>x.1)++cK u)/\Hid (di t=di u)) (fun v _=>2001-Nz v)
 case atStart=>exact ⟨t,A,cap,[],f5,HT,f4,zq rfl,zq rfl⟩
 case round=>
  obtain ⟨u,y,G,rs,s,T,K,J,S⟩:=hrel
  obtain ⟨v,g4⟩:∃v,v=u4:=⟨_,rfl⟩
  subst g4
  have b0:=s.out.c0
  have b1:=s.out.c1
  have b2:=s.out.c2
  have b3:=s.out.c3
  have g8:rs.length+(cK u).length<=2000:=by
   have V:=congrArg hJ J.out
   rw [aB,bm] at V
   have h2:=e6.out
   omega
  have a4:Hid (∀W,ElH w W 25 u y G v rs->aJ ah 184 #[aN #[ab ae u.kind,ab ae u.num,aa u.name,.slice y u.args.length G]] W fun e w'=>∃A' cap',e=aw (aN #[ab ae u.kind,ab ae u.num,aa u.name,.slice A' u.args.length cap'])/\ElH w w' 25 u y G v rs/\kk W w' A' u.args/\W.heap.size<=w'.heap.size):=zq (fun W h=>by
   have:=wU u y G W ((T.out.keep h.bel).mono h.bel.size)
   rw [show kV u=u by unfold kV;rw [K.out];rfl] at this
   exact this.mono fun _ _ ⟨A',c',z,n,q⟩=>⟨A',c',z,h.call n,q,n.size⟩)
  cases hc:u.cons
  ·have b5:Hid (cK t=rs.map (fun x:TR=>x.1)):=zq (by rw [J.out,iH hc,aA])
   have b9:Hid (di t=u):=zq (by rw [S.out,jt hc])
   have Y:(u.kind==3&&(u.name.toList==[46]&&u.args.length==2))=false:=hc
   have a5:=zq (a4.out wr s.out)
   have d2:∀(W:ai) (d:Option Addr) (g:Nat),ElH w W 25 u y G v rs->kk wr W d u.args->wr.heap.size<=W.heap.size ->
     ∃k l,v=.slice k (cK t).length l/\ax w.heap.size w ((((W.setCell ⟨w.heap.size+1,0,none⟩ (ab ae u.kind)).setCell ⟨w.heap.size+1,1,none⟩ (ab ae u.num)).setCell ⟨w.heap.size+1,2,none⟩ (aa u.name)).setCell ⟨w.heap.size+1,3,none⟩ (.slice d u.args.length g)) /\
      kk w ((((W.setCell ⟨w.heap.size+1,0,none⟩ (ab ae u.kind)).setCell ⟨w.heap.size+1,1,none⟩ (ab ae u.num)).setCell ⟨w.heap.size+1,2,none⟩ (aa u.name)).setCell ⟨w.heap.size+1,3,none⟩ (.slice d u.args.length g)) k (cK t) /\
      kk w ((((W.setCell ⟨w.heap.size+1,0,none⟩ (ab ae u.kind)).setCell ⟨w.heap.size+1,1,none⟩ (ab ae u.num)).setCell ⟨w.heap.size+1,2,none⟩ (aa u.name)).setCell ⟨w.heap.size+1,3,none⟩ (.slice d u.args.length g)) d u.args:=by
    intro W d g h q C
    obtain ⟨n,hO⟩:=h.put (ab ae u.kind) (ab ae u.num) (aa u.name) (.slice d u.args.length g)
    have g9:=s.out.lt
    obtain ⟨k,l,z,h3⟩:=hO.tms
    rw [b5.out]
    refine ⟨k,l,by rw [bm];exact z,n,h3.keep (fun _ _=>rfl) (fun b m=>⟨by have:=m.1;omega,m.2⟩),TmsK.keep q (fun b m=>bR W (w.heap.size+1) _ _ _ _ b (by omega)) (fun b m=>⟨by omega,by rw [eD];exact m.2⟩)⟩
   have D:=zq d2
   obtain ⟨U,a7⟩:=lz ((cK t).length)
   rw [<-a7.out] at D
   have a8:Hid (∀(k:Option Addr) (l:Nat) (d:Option Addr) (g:Nat) (W:ai),kk w W d u.args->eA (aK #[.slice k U l,aN #[ab ae u.kind,ab ae u.num,aa u.name,.slice d u.args.length g]])=eA (aK #[.slice k (cK t).length l,aN #[ab ae (di t).kind,ab ae (di t).num,aa (di t).name,.slice d (di t).args.length g]])/\kk w W d (di t).args) :=
    zq (fun k l d g W h=>by rw [b9.out,a7.out];exact ⟨rfl,h⟩)
   clear d2 a4 J S T K hc b5 b9 a7
   generalize u.kind=a0 at *
   generalize u.num=a1 at *
   generalize u.name=E at *
   generalize u.args.length=I at *
   by_cases d3:a0=3
   ·subst d3
    have Z:(E.toList==[46]&&I==2)=false:=by simpa using Y
    cases hn:(E.toList==[46])
    ·have F:¬E.toList=[46]:=by simpa using hn
     clear Y Z
     go_wp2_with fail
     refine a5.out.mono ?_;rintro e r ⟨d,g,rfl,f,q,C⟩
     obtain ⟨v0,O⟩:=f.r0
     obtain ⟨v1,P⟩:=f.r1
     obtain ⟨v2,Q⟩:=f.r2
     obtain ⟨v3,R⟩:=f.r3
     have f0:=f.rf 0
     have f1:=f.rf 1
     have f2:=f.rf 2
     have f3:=f.rf 3
     obtain ⟨k,l,rfl,n,M,N⟩:=D.out r d g f q C
     clear f q C D
     go_wp2_with fail
     obtain ⟨z,F⟩:=a8.out k l d g _ N
     exact ay (v:=aK #[.slice k U l,aN #[ab ae 3,ab ae a1,aa E,.slice d I g]]) (by simp [results,Tryz.results178,go_sem,O,P,Q,R]) rfl ⟨k,l,d,g,z,n,M,F⟩
    ·have F:E.toList=[46]:=by simpa using hn
     have g3:(I==2)=false:=by rw [hn,dl] at Z;exact Z
     have g7:¬I=2:=by simpa using g3
     clear Y Z
     go_wp2_with fail
     refine a5.out.mono ?_;rintro e r ⟨d,g,rfl,f,q,C⟩
     obtain ⟨v0,O⟩:=f.r0
     obtain ⟨v1,P⟩:=f.r1
     obtain ⟨v2,Q⟩:=f.r2
     obtain ⟨v3,R⟩:=f.r3
     have f0:=f.rf 0
     have f1:=f.rf 1
     have f2:=f.rf 2
     have f3:=f.rf 3
     obtain ⟨k,l,rfl,n,M,N⟩:=D.out r d g f q C
     clear f q C D
     go_wp2_with fail
     obtain ⟨z,F⟩:=a8.out k l d g _ N
     exact ay (v:=aK #[.slice k U l,aN #[ab ae 3,ab ae a1,aa E,.slice d I g]]) (by simp [results,Tryz.results178,go_sem,O,P,Q,R]) rfl ⟨k,l,d,g,z,n,M,F⟩
   ·have g6:(a0==3)=false:=by simpa using d3
    clear Y
    go_wp2_with fail
    refine a5.out.mono ?_;rintro e r ⟨d,g,rfl,f,q,C⟩
    obtain ⟨v0,O⟩:=f.r0
    obtain ⟨v1,P⟩:=f.r1
    obtain ⟨v2,Q⟩:=f.r2
    obtain ⟨v3,R⟩:=f.r3
    have f0:=f.rf 0
    have f1:=f.rf 1
    have f2:=f.rf 2
    have f3:=f.rf 3
    obtain ⟨k,l,rfl,n,M,N⟩:=D.out r d g f q C
    clear f q C D
    go_wp2_with fail
    obtain ⟨z,F⟩:=a8.out k l d g _ N
    exact ay (v:=aK #[.slice k U l,aN #[ab ae a0,ab ae a1,aa E,.slice d I g]]) (by simp [results,Tryz.results178,go_sem,O,P,Q,R]) rfl ⟨k,l,d,g,z,n,M,F⟩
  ·have g1:=Tm.cons_len hc
   have hk:u.kind=3:=by unfold Tm.cons at hc;simp at hc;exact hc.1
   have h4:u.name.toList=[46]:=by unfold Tm.cons Tm.isNm at hc;simp at hc;exact hc.2.1
   obtain ⟨b,H,k,n3,rfl,m,x0,x1,x2,x3,d5⟩:=(T.out.keep s.out.bel).get 0 (by omega)
   obtain ⟨b',off',A4,n4,X,g0,y0,y1,y2,y3,d6⟩:=T.out.get 1 (by omega)
   obtain ⟨rfl,rfl⟩:b=b'/\H=off':=by injection X with X;injection X with V h2 _;exact ⟨V,h2⟩
   clear X g0
   have c5:=zq (sZ K.out 0 (by omega))
   have c6:=zq (sZ K.out 1 (by omega))
   have a6:Hid (∀d o,cK t=(rs++[((u.args[0],d,o):TR)]).map (fun x:TR=>x.1)++cK u.args[1]):=zq (fun d o=>by
    rw [J.out,iw hc,Tm.arg_get u 0 (by omega),Tm.arg_get u 1 (by omega)];simp)
   have c4:Hid (di t=di u.args[1]):=zq (by rw [S.out,jL hc,Tm.arg_get u 1 (by omega)])
   have h5:rs.length<=2000:=by omega
   have e8:=zq (zR s.out.own.own)
   have b6:=zq (fun (W:ai) (v':az) (g5:List TR) (h:ElH w W 25 u (some ⟨b,H,none⟩) G v' g5)=>h.next u.args[1] A4 n4)
   have b4:Hid (aJ ah 184 #[aN #[ab ae u.args[0].kind,ab ae u.args[0].num,aa u.args[0].name,.slice k u.args[0].args.length n3]] wr fun e w'=>∃A' cap',e=aw (aN #[ab ae u.args[0].kind,ab ae u.args[0].num,aa u.args[0].name,.slice A' u.args[0].args.length cap'])/\ElH w w' 25 u (some ⟨b,H,none⟩) G v rs/\TmsK (fun b=>w.heap.size+2<=b/\b<w'.heap.size/\v.ownBlock≠some b) w' A' u.args[0].args):=zq (by
    have:=wU u.args[0] k n3 wr (d5.mono s.out.bel.size)
    rw [show kV u.args[0]=u.args[0] by unfold kV;rw [c5.out];rfl] at this
    refine this.mono fun _ w' ⟨A',c',z,n,q⟩=>⟨A',c',z,s.out.call n,TmsK.keep q (fun _ _=>rfl) fun b m=>⟨aI s.out.lt m.1,m.2,fun ee=>?_⟩⟩
    have:=(s.out.own.own.lt b ee).2
    have V:=m.1
    omega)
   have HY:Hid (∀W,ax w.heap.size w W->W.cell? ⟨b,H+4,none⟩=some (ab ae u.args[1].kind)/\W.cell? ⟨b,H+4+1,none⟩=some (ab ae u.args[1].num)/\W.cell? ⟨b,H+4+2,none⟩=some (aa u.args[1].name)/\W.cell? ⟨b,H+4+3,none⟩=some (.slice A4 u.args[1].args.length n4)):=zq (fun W n=>by
    rw [Nat.one_mul] at y0 y1 y2 y3
    exact ⟨(n.cell (p:=⟨b,_,none⟩) m).trans y0,(n.cell (p:=⟨b,_,none⟩) m).trans y1,(n.cell (p:=⟨b,_,none⟩) m).trans y2,(n.cell (p:=⟨b,_,none⟩) m).trans y3⟩)
   rw [Nat.zero_mul,bv] at x0 x1 x2 x3
   rw [hk] at b0
   rw [g1] at b3
   have b7:=zq d6
   clear y0 y1 y2 y3 d5 d6 a4 J S K hc c5 HT b8 c7
   obtain ⟨a,e4⟩:=lz (u.args[0])
   obtain ⟨c,e5⟩:=lz (u.args[1])
   rw [<-e4.out] at b4 x0 x1 x2 x3 a6
   rw [<-e5.out] at HY b6 a6 c4 c6 b7
   go_wp2_with fail
   refine b4.out.mono ?_;rintro e r ⟨d,o,rfl,f,c9⟩
   have a9:=f.call ((aj _ _).alloc (ag _) (.cells #[ab ae a.kind,ab ae a.num,aa a.name,.slice d a.args.length o] 25))
   have d0:TmsK (fun b=>w.heap.size+2<=b/\b<(r.alloc (.cells #[ab ae a.kind,ab ae a.num,aa a.name,.slice d a.args.length o] 25)).heap.size/\v.ownBlock≠some b) (r.alloc (.cells #[ab ae a.kind,ab ae a.num,aa a.name,.slice d a.args.length o] 25)) d a.args :=
    c9.keep (fun b m=>heap_alloc_old r _ m.2.1) fun b m=>⟨m.1,by simp;omega,m.2.2⟩
   have q1:rs.length+1<=be:=by unfold be;omega
   have q2:(rs.length+1) * 56<=140737488355328:=by omega
   have q3:=a9.lt
   have q4:∀j u,(iW (a,d,o))[j]? = some u->(r.alloc (.cells #[ab ae a.kind,ab ae a.num,aa a.name,.slice d a.args.length o] 25)).cell? ((⟨r.heap.size,0,none⟩:Addr).add j)=some u:=dv (dA r _)
   have e9:=zq d0
   have c8:=zq a9
   clear d0 a9 f c9
   go_wp2_with ((with_reducible refine Jd ?_);go_must (refine wpList_append_own_at _ rfl _ _ 23 rfl (w.heap.size+2) 25 i _ 4 56 fL HI.out f6.out f7.out f8.out rfl (by decide) v rs.length (eB rs) rfl c8.out.own.own ⟨r.heap.size,0,none⟩ 1 1 (iW (a,d,o)) rfl rfl q4 (ql _) q1 q2 q3 ?_;intro v' w3 d4 g2 h0 f9;have B:=c8.out.app (a,d,o) e9.out d4 g2 f9;obtain ⟨z0,z1,z2,z3⟩:=HY.out w3 B.bel;have t0:=B.c0;have t1:=B.c1;have t2:=B.c2;have t3:=B.c3;have e0:=B.cf 0;have e1:=B.cf 1;have e2:=B.cf 2;have e3:=B.cf 3))
   have HZ:=zq (b6.out w3 v' _ B)
   have e7:=zq (zR d4)
   go_roundw
   case rel=>exact ⟨c,A4,n4,rs++[(a,d,o)],HZ,b7,c6,zq (a6.out d o),c4⟩
   case measure=>rw [e7.out,e8.out];omega
end Go.Proofs.YtlikcjbjibhjgaaGreatDoor
namespace Go.Proofs.YtlikcjbjibhjgaaGreatDoor
open Go.RowKit Hb
theorem kg (c:Int) (w:ai) :
  aJ ah 80 #[ab ae c] w fun e w'=>e=aw (am (jv c))/\w=w':=by
 by_cases a:0<=c
 ·go_enter Tryz.func80,Tryz.ntmps80
  go_wp2
  go_ret
  exact ⟨by simp [jv,a],rfl⟩
 ·go_enter Tryz.func80,Tryz.ntmps80
  go_wp2
  go_ret
  exact ⟨by simp [jv];omega,rfl⟩
theorem oC (s:ByteArray) (c:Int) (w:ai):(callFunc 181 #[aa s,ab .u8 c]).run ah w=.ok (.value (ab ae (dZ s.data.toList c.toNat.toUInt8))) w:=by
 rw [run_callFunc_extern Tryz.func181 (by kernel_rfl) (by kernel_rfl) (by kernel_rfl) (e:=Extern.BytealgIndexByte.indexByte) (by kernel_rfl),Lib.run_indexByteString]
 rfl
theorem tV (s:ByteArray) (c:Int) (w:ai) :
  aJ ah 157 #[aa s,ab .u8 c] w fun e w'=>e=aw (ab ae (dZ s.data.toList c.toNat.toUInt8))/\w=w':=by
 have a:=oC s c
 go_enter Tryz.func157,Tryz.ntmps157
 go_wp2
 go_ret
 exact ⟨rfl,rfl⟩
theorem lQ (s:ByteArray) (c:Int) (w:ai) :
  aJ ah 114 #[aa s,ab .u8 c] w fun e w'=>e=aw (ab ae (dZ s.data.toList c.toNat.toUInt8))/\w=w':=by
 go_enter Tryz.func114,Tryz.ntmps114
 go_wp2_with (go_at_call 157;refine (tV _ _ _).mono ?_;rintro e w' ⟨rfl,rfl⟩)
 go_ret
 exact ⟨rfl,rfl⟩
theorem nE (c:Int) (f:0<=c) (g:c<=255):∀l:List UInt8,decide (0<=dZ l c.toNat.toUInt8)=mg l c
 | []=>rfl
 | b::l=>by
  have e:=nE c f g l
  have j:=Lib.indexByte_ge l c.toNat.toUInt8
  have i:(b==c.toNat.toUInt8)=((b.toNat:Int)==c):=by
   rw [Bool.eq_iff_iff,beq_iff_eq,beq_iff_eq]
   constructor
   ·rintro rfl;simp;omega
   ·intro h;subst h;simp
  unfold dZ mg
  rw [List.any_cons,i]
  unfold mg at e
  rw [<-e]
  by_cases a:((b.toNat:Int)==c)=true
  ·simp [a]
  ·simp only [a]
   by_cases d:dZ l c.toNat.toUInt8=-1
   ·simp [d]
   ·have:(dZ l c.toNat.toUInt8 == -1)=false:=by simp [d]
    simp only [this,Bool.false_eq_true,if_false,Bool.false_or]
    rw [decide_eq_decide];omega
theorem uY (k c:Int) (s:ByteArray) (b o:Nat) (w:ai) (f:b<w.heap.size) (g:w.cell? ⟨b,o,none⟩=some (ab ae c)) (a:0<=c) (d:c<=255) :
  aJ ah 113 #[aN #[ab ae k,aa s],.pointer (some ⟨b,o,none⟩)] w fun e w'=>e=aw (am (mg s.data.toList c))/\ax w.heap.size w w':=by
 have H:=zq (nE c a d s.data.toList)
 go_enter Tryz.func113,Tryz.ntmps113
 go_wp2_with (go_at_call 114;refine (lQ _ _ _).mono ?_;rintro e w' ⟨rfl,rfl⟩)
 go_ret
 exact ⟨bN H.out,(aj _ _).alloc (ag _) _⟩
def pA (j:Nat):ByteArray:=⟨(rowOf.getD j []).toArray⟩
theorem Bb (c:Int) (k:Nat) (g:k<7) (h:k<=kl c):(mg (pA k).data.toList c=true->kl c=k)/\(mg (pA k).data.toList c=false->k+1<=kl c):=by
 have i:k<rowOf.length:=g
 have e:(pA k).data.toList=rowOf[k]:=by
  unfold pA;rw [aX,ba i];simp
 rw [e]
 constructor
 ·intro a
  have f:¬k<kl c:=fun b=>by
   have:=List.not_of_lt_findIdx (p:=fun l=>mg l c) b
   simp [a] at this
  omega
 ·intro a
  have f:kl c≠k:=fun j=>by
   have b:rowOf.findIdx (fun l=>mg l c)<rowOf.length:=by show kl c<_;omega
   have:=List.findIdx_getElem (w:=b)
   have d:rowOf[rowOf.findIdx (fun l=>mg l c)]=rowOf[k]:=by congr 1
   rw [d] at this
   simp [a] at this
  omega
def pB (c:Int):Int:=if kl c=7 then -1 else kl c
theorem sD (c:Int) (g b:Nat) (w:ai) (A:b<w.heap.size) (s:w.cell? ⟨b,0,none⟩=some (ab ae c)) (x:0<=c) (y:c<=255)
  (q:g<w.heap.size) (f:∀j:Nat,j<7->w.cell? ⟨g,j * 2,none⟩=some (ab ae (j+1))/\w.cell? ⟨g,j * 2+1,none⟩=some (aa (pA j))) :
  aJ ah 112 #[.slice (some ⟨g,0,none⟩) 7 7,.func (.func 113) #[] #[.pointer (some ⟨b,0,none⟩)]] w fun e w'=>e=aw (ab ae (pB c))/\ax w.heap.size w w':=by
 have u:=zq f
 clear f
 have F:=yX c
 go_enter Tryz.func112,Tryz.ntmps112
 go_wp2
 go_loopw [8] (fun i wr=>∃k:Nat,k<=7/\i=ab ae k/\k<=kl c/\ax w.heap.size w wr) (fun i _=>7-(intOf i).toNat)
 case atStart=>exact ⟨0,bp _,rfl,bp _,aj _ _⟩
 case round=>
  obtain ⟨k,f,rfl,C,a⟩:=hrel
  by_cases r:k<7
  ·obtain ⟨m,n⟩:=u.out k r
   have D:=(a.cell (p:=⟨g,k * 2,none⟩) q).trans m
   have E:=(a.cell (p:=⟨g,k * 2+1,none⟩) q).trans n
   have v:=(a.cell (p:=⟨b,0,none⟩) A).trans s
   have t:=a.size
   have B:b<wr.heap.size:=by omega
   clear m n s
   have l:=zq (Bb c k r C)
   cases hm:mg (pA k).data.toList c
   all_goals
    have d:=zq hm
    clear hm
    go_wp2_with (go_at_call 113;refine (uY _ _ _ _ _ _ B v x y).mono ?_;rintro e w' ⟨rfl,o⟩;rw [d.out])
   ·have h:=l.out.2 d.out
    go_roundw
    case rel=>exact ⟨k+1,by omega,by go_num,h,a.trans (o.mono t)⟩
    case measure=>simp [intOf];omega
   ·have h:=l.out.1 d.out
    go_ret
    exact ⟨dn (by unfold pB;rw [h,if_neg (by omega)]),a.trans (o.mono t)⟩
  ·have z:=zq (show kl c=7 by omega)
   go_wp2
   go_ret
   exact ⟨dn (by unfold pB;rw [z.out,if_pos rfl]),a⟩
abbrev GK:Array az:=#[ab ae 1,aa { data:=#[9,10,11,12,13,32] },ab ae 2,aa { data:=#[97,98,99,100,101,102,103,104,105,106,107,108,109,110,111,112,113,114,115,116,117,118,119,120,121,122] },ab ae 3,aa { data:=#[65,66,67,68,69,70,71,72,73,74,75,76,77,78,79,80,81,82,83,84,85,86,87,88,89,90,95] },ab ae 4,aa { data:=#[48,49,50,51,52,53,54,55,56,57] },ab ae 5,aa { data:=#[35,36,38,42,43,45,46,47,58,60,61,62,63,64,94,126,92] },ab ae 6,aa { data:=#[33,40,41,44,59,91,93,123,125,37,124] },ab ae 7,aa { data:=#[39,34,96] }]
theorem JT (w:ai) (t:bD) (g j:Nat) (a:g=w.heap.size) (b:j<7):(w.alloc (.cells GK t)).cell? ⟨g,j * 2,none⟩=some (ab ae (j+1))/\(w.alloc (.cells GK t)).cell? ⟨g,j * 2+1,none⟩=some (aa (pA j)):=by
 subst a
 rw [aq,aq]
 match j,b with
 | 0,_=>exact ⟨rfl,rfl⟩
 | 1,_=>exact ⟨rfl,rfl⟩
 | 2,_=>exact ⟨rfl,rfl⟩
 | 3,_=>exact ⟨rfl,rfl⟩
 | 4,_=>exact ⟨rfl,rfl⟩
 | 5,_=>exact ⟨rfl,rfl⟩
 | 6,_=>exact ⟨rfl,rfl⟩
theorem KU (c:Int) (a:0<=c) (b:c<=255):cls c=(kl c:Int)+1:=by
 obtain ⟨n,rfl⟩:=Int.eq_ofNat_of_zero_le a
 exact Ez n (by omega)
theorem cZ (c:Int) (w:ai) :
  aJ ah 79 #[ab ae c] w fun e w'=>e=aw (ab ae (cls c))/\ax w.heap.size w w':=by
 cases hc:jv c
 ·have b:=zq (DB c (by rw [<-kP];simp [hc]))
  go_enter Tryz.func79,Tryz.ntmps79
  go_wp2_with (go_at_call 80;refine (kg _ _).mono ?_;rintro e w' ⟨rfl,rfl⟩)
  go_ret
  exact ⟨dn b.out.symm,(aj _ _).alloc (ag _) _⟩
 ·obtain ⟨b,i⟩:=(kP c).1 hc
  have h:=zq (KU c b i)
  go_enter Tryz.func79,Tryz.ntmps79
  go_wp2_with (first | (go_at_call 80;refine (kg _ _).mono ?_;rintro e w' ⟨rfl,rfl⟩) | fail)
  have g:=fun t=>JT (w.alloc (.cells #[ab ae c] 3)) t (w.heap.size+1)
  refine (sD c (w.heap.size+1) w.heap.size _ ?_ ?_ b i ?_ ?_).mono ?_
  ·simp;omega
  ·simp [go_sem]
  ·simp
  ·exact fun j l=>g _ j (by simp) l
  rintro e o ⟨rfl,f⟩
  by_cases a:kl c=7
  ·have d:=zq (show pB c=-1 by unfold pB;rw [if_pos a])
   have k:=zq a
   clear a
   rw [d.out]
   go_wp2
   go_ret
   exact ⟨dn (by rw [h.out,k.out];rfl),(((aj _ _).alloc (ag _) _).alloc (by simp) _).trans (f.mono (by simp;omega))⟩
  ·have d:=zq (show pB c=kl c by unfold pB;rw [if_neg a])
   have m:kl c<7:=by have:=yX c;omega
   rw [d.out]
   have n:=(f.cell (p:=⟨w.heap.size+1,kl c * 2,none⟩) (by simp)).trans (g _ (kl c) (by simp) m).1
   clear g a
   go_wp2
   go_ret
   exact ⟨dn h.out.symm,(((aj _ _).alloc (ag _) _).alloc (by simp) _).trans (f.mono (by simp;omega))⟩
theorem eY (c a:Int) (w:ai) :
  aJ ah 159 #[ab ae c,ab ae a] w fun e w'=>e=aw (aK #[ab ae (pb c a),am (ii c a)])/\w=w':=by
 go_enter Tryz.func159,Tryz.ntmps159
 go_wp2
 all_goals (go_ret2;exact ⟨xj (by grind [pb,MD]) (by grind [ii,MD]),rfl⟩)
end Go.Proofs.YtlikcjbjibhjgaaGreatDoor
namespace Go.Proofs.YtlikcjbjibhjgaaGreatDoor
open Go.RowKit Hb
theorem yN (c:Int) (w:ai) (d:0<=c) (f:c<=255) :
  aJ ah 77 #[ab .u8 c] w fun e w'=>e=aw (am (dI c))/\ax w.heap.size w w':=by
 have a:=zq (show dI c=(cls c==2||(cls c==3||cls c==4)) from rfl)
 have g:IntKind.i64.wrap c=c:=IntWalk.i64_in _ (by omega)
 rw [a.out]
 cases d2:(cls c==2)
 all_goals cases d3:(cls c==3)
 all_goals cases d4:(cls c==4)
 all_goals
  go_enter Tryz.func77,Tryz.ntmps77
  go_wp2_with fail
  refine (cZ _ _).mono ?_;rintro e h ⟨rfl,b⟩
  go_wp2_with fail
  go_ret
  exact ⟨rfl,b⟩
theorem vz (c:Int) (w:ai) (b:0<=c) (d:c<=255) :
  aJ ah 78 #[ab .u8 c] w fun e w'=>e=aw (am (dC c))/\ax w.heap.size w w':=by
 have f:IntKind.i64.wrap c=c:=IntWalk.i64_in _ (by omega)
 go_enter Tryz.func78,Tryz.ntmps78
 go_wp2_with fail
 refine (cZ _ _).mono ?_;rintro e g ⟨rfl,a⟩
 go_wp2_with fail
 go_ret
 exact ⟨bN rfl,a⟩
end Go.Proofs.YtlikcjbjibhjgaaGreatDoor
namespace Hb
open Go Go.RowKit
theorem uG {P:Program} {f:FuncId} {args:Array az} {w0 w:ai} {Q:Ending->Prop} (a:ax w0.heap.size w0 w)
  (h:aJ P f args w fun e w'=>Q e/\ax w.heap.size w w'):aJ P f args w fun e w'=>Q e/\ax w0.heap.size w0 w' :=
 h.mono fun _ _ ⟨he,hb⟩=>⟨he,a.trans (hb.mono a.size)⟩
end Hb
namespace Go.Proofs.YtlikcjbjibhjgaaGreatDoor
open Go.RowKit Hb
theorem Lc (s:ByteArray) (h:0<s.size):iK s.data.toList (s.size-1)=av s.data.toList (s.data.toList.length-1):=by
 rw [fq _ _ (by rw [size_data];omega),size_data]
theorem KH (a b:ByteArray) (c:0<a.size) (d:0<b.size):fv a.data.toList b.data.toList=((dI (iK a.data.toList (a.size-1))&&dI (iK b.data.toList 0))||((dC (iK a.data.toList (a.size-1))&&dC (iK b.data.toList 0))||((iK a.data.toList (a.size-1)==iK b.data.toList 0&&cls (iK a.data.toList (a.size-1))==7)||(decide (a.toList=[48])&&iK b.data.toList 0==39)))):=by
 have e:a.data.toList.isEmpty=false:=by have:=nP a c;rwa [jb] at this
 have f:b.data.toList.isEmpty=false:=by have:=nP b d;rwa [jb] at this
 unfold fv
 rw [e,f,<-Lc a c,fq b.data.toList 0 (by rw [size_data];exact d),jb]
 have g:(a.data.toList==[48])=decide (a.data.toList=[48]):=by rw [Bool.eq_iff_iff];simp
 simp only [Bool.not_false,dl,g]
theorem jE (s:ByteArray) (h:s.size=0):s.toList=[]/\s.data.toList=[]:=by
 have:s.data.toList=[]:=bL (by rw [size_data];exact h)
 exact ⟨by rw [jb];exact this,this⟩
theorem El (a b:ByteArray) (w:ai) (h:a.size=0\/b.size=0) :
  aJ ah 52 #[aa a,aa b] w fun e w'=>e=aw (am (fv a.data.toList b.data.toList))/\ax w.heap.size w w':=by
 have d:=zq (show fv a.data.toList b.data.toList=false by
  rcases h with h | h
  ·rw [(jE a h).2];rfl
  ·unfold fv;rw [(jE b h).2];simp)
 by_cases c:a.size=0
 ·have f:=(jE a c).1
  have g:a.toList.isEmpty=true:=by rw [f];rfl
  clear h c
  go_enter Tryz.func52,Tryz.ntmps52
  go_wp2_with fail
  go_ret
  exact ⟨bN d.out.symm,aj _ _⟩
 ·have i:=(jE b (by omega)).1
  have j:b.toList.isEmpty=true:=by rw [i];rfl
  have f:=td a (by omega)
  have g:=nP a (by omega)
  clear h c
  go_enter Tryz.func52,Tryz.ntmps52
  go_wp2_with fail
  go_ret
  exact ⟨bN d.out.symm,aj _ _⟩
theorem Ek (a b:ByteArray) (w:ai) (d:0<a.size) (c:0<b.size) (has:a.size<=be) :
  aJ ah 52 #[aa a,aa b] w fun e w'=>e=aw (am (fv a.data.toList b.data.toList))/\ax w.heap.size w w':=by
 have i:=td a d
 have k:=td b c
 have j:=nP a d
 have l:=nP b c
 have r:IntKind.i64.wrap ((a.size:Int)-1)=(a.size:Int)-1:=IntWalk.i64_in _ (by unfold be at has;omega)
 have o:(0:Int)<=(a.size:Int)-1:=by omega
 have p:(a.size:Int)-1<(a.size:Int):=by omega
 have q:((a.size:Int)-1).toNat=a.size-1:=by omega
 have m:=kA a (a.size-1) (by omega)
 have n:=kA b 0 c
 have s:=jR a.data.toList (a.size-1)
 have t:=kh a.data.toList (a.size-1)
 have u:=jR b.data.toList 0
 have v:=kh b.data.toList 0
 have h:=zq (KH a b d c)
 generalize iK a.data.toList (a.size-1)=x at *
 generalize iK b.data.toList 0=y at *
 go_enter Tryz.func52,Tryz.ntmps52
 go_wp2_with fail
 go_quiet (fail)
 go_wp2_with (first
  | (go_at_call 77;refine (uG (w0:=w) (by first | assumption | exact dS (aj _ _) _) (yN _ _ (by assumption) (by assumption))).mono ?_;rintro e g ⟨rfl,f⟩)
  | (go_at_call 78;refine (uG (w0:=w) (by first | assumption | exact dS (aj _ _) _) (vz _ _ (by assumption) (by assumption))).mono ?_;rintro e g ⟨rfl,f⟩)
  | (go_at_call 79;refine (uG (w0:=w) (by first | assumption | exact dS (aj _ _) _) (cZ _ _)).mono ?_;rintro e g ⟨rfl,f⟩))
 all_goals
  go_ret
  exact ⟨bN (by rw [h.out];grind),by first | assumption | exact dS (aj _ _) _⟩
theorem JN (a b:ByteArray) (w:ai) (has:a.size<=be) :
  aJ ah 52 #[aa a,aa b] w fun e w'=>e=aw (am (fv a.data.toList b.data.toList))/\ax w.heap.size w w':=by
 by_cases h:a.size=0\/b.size=0
 ·exact El a b w h
 ·exact Ek a b w (by omega) (by omega) has
end Go.Proofs.YtlikcjbjibhjgaaGreatDoor
