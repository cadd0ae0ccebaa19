/- Parts of the proof. -/
import Derived.Test.YtlikcjbjibhjgaaGreatDoorR01
import Derived.Test.YtlikcjbjibhjgaaGreatDoorR16
import Derived.Test.YtlikcjbjibhjgaaGreatDoorR19
import Derived.Test.YtlikcjbjibhjgaaGreatDoorR11
import Derived.Test.YtlikcjbjibhjgaaGreatDoorR20
import Derived.Maps.OwnSet
import Derived.Maps.Views
import Derived.StringKeys
import Derived.Carry
import Derived.BigRegion
import Derived.Test.YtlikcjbjibhjgaaGreatDoorR03
import Derived.Maps.AppendAt
set_option maxHeartbeats 12800000
set_option maxRecDepth 100000
set_option linter.unusedSimpArgs false
open Go renaming Calls -> aJ, Program -> dz, TypeId -> bD, Value -> az, World -> ai, heap_setCell_other -> aS, maxLen -> be
open Go.Ending renaming returned -> aw
open Go.IntKind renaming i64 -> ae
open Go.IntWalk renaming wrap64_in -> fg
open Go.Proofs.Tryz renaming prog -> ah
open Go.RowKit renaming Below -> ax
open Go.RowKit.Below renaming refl -> aj
open Go.Value renaming agg -> aN, bool -> am, int -> ab, pointer -> au, string -> aa
open Go.World renaming cell?_alloc_new -> aq, cell?_of_block -> bG
open List renaming append_nil -> aA, cons_append -> ak, getD_eq_getElem?_getD -> aX, getElem?_eq_getElem -> ba, getElem?_eq_some_iff -> dV, getElem?_set -> fe, getElem_map -> bT, getElem_mem -> aR, length_map -> bm, mem_append -> dm, mem_append_left -> dU, mem_cons -> bg, mem_singleton -> aG, nil_append -> an
open Nat renaming add_zero -> bv, le_refl -> ag, le_trans -> aI, lt_of_lt_of_le -> aC, reduceAdd -> ar, zero_add -> ap
namespace Hb
open Go Go.RowKit
def NumMap (P:dz) (k e:bD) (w:ai) (b N:Nat) (f:List UInt8->Option Nat):Prop :=
 ∃D:DataW Unit,w.ownsMap P k (plainElem P e) b N D/\∀x,¬x=[95]->Maps.has D (.string x)=(f x).isSome/\D.atKey (.string x) (.lit (.int .i64 0))=.lit (.int .i64 (((f x).getD 0:Nat):Int))
def CntMap (P:dz) (k e:bD) (w:ai) (b N:Nat) (f:Nat->Nat):Prop :=
 ∃D:DataW Unit,w.ownsMap P k (plainElem P e) b N D/\∀x:Nat,D.atKey (.int .i64 x) (.lit (.int .i64 0))=.lit (.int .i64 (f x:Int))
theorem NumMap.new (P:dz) (k e:bD) (w:ai):NumMap P k e (w.alloc (.map #[] 0)) w.heap.size 0 (fun _=>none):=⟨_,World.ownsMap_made w P k _,fun _ _=>⟨rfl,rfl⟩⟩
theorem CntMap.new (P:dz) (k e:bD) (w:ai):CntMap P k e (w.alloc (.map #[] 0)) w.heap.size 0 (fun _=>0):=⟨_,World.ownsMap_made w P k _,fun _=>rfl⟩
theorem NumMap.lt {P:dz} {k e:bD} {w:ai} {b N:Nat} {f:List UInt8->Option Nat} (h:NumMap P k e w b N f):b<w.heap.size:=by
 obtain ⟨D,h,_⟩:=h;exact h.lt
theorem CntMap.lt {P:dz} {k e:bD} {w:ai} {b N:Nat} {f:Nat->Nat} (h:CntMap P k e w b N f):b<w.heap.size:=by
 obtain ⟨D,h,_⟩:=h;exact h.lt
theorem NumMap.keep {P:dz} {k e:bD} {w w':ai} {b N:Nat} {f:List UInt8->Option Nat} (h:NumMap P k e w b N f) (l:w'.heap[b]? = w.heap[b]?):NumMap P k e w' b N f:=by
 obtain ⟨D,⟨c,a,d,g,i⟩,j⟩:=h
 exact ⟨D,⟨c,a,l.trans d,g,i⟩,j⟩
theorem CntMap.keep {P:dz} {k e:bD} {w w':ai} {b N:Nat} {f:Nat->Nat} (h:CntMap P k e w b N f) (l:w'.heap[b]? = w.heap[b]?):CntMap P k e w' b N f:=by
 obtain ⟨D,⟨c,a,d,g,i⟩,j⟩:=h
 exact ⟨D,⟨c,a,l.trans d,g,i⟩,j⟩
theorem NumMap.mono {P:dz} {k e:bD} {w:ai} {b N a:Nat} {f:List UInt8->Option Nat} (h:NumMap P k e w b N f) (d:N<=a):NumMap P k e w b a f:=by
 obtain ⟨D,h,c⟩:=h;exact ⟨D,h.mono d,c⟩
def sw {α β:Type} [DecidableEq α] (f:α->β) (x:α) (y:β):α->β:=fun z=>if z=x then y else f z
theorem nd (x:Nat) (h:x<=1000000):(Lit.int .i64 (x:Int)).wf=true:=by
 unfold Lit.wf;rw [Bool.and_eq_true,decide_eq_true_iff,decide_eq_true_iff]
 exact ⟨by show (-9223372036854775808:Int)<=_;omega,by show _<=(9223372036854775807:Int);omega⟩
theorem NumMap.look {P:dz} {k e t:bD} {w:ai} {b N:Nat} {f:List UInt8->Option Nat} (h:NumMap P k e w b N f) (j:P.underlying k=some .string) (r:P.underlying t=some (.map k e)) (i:P.underlying e=some (.int ae)) (s:ByteArray) (q:s.size<=be) (y:(zeroValue e).run P w=.ok (ab ae 0) w) :
  ∃(c:Int) (g:Bool),(Instr.lookup t (.map (some b)) (aa s) true).run P w=.ok (.tuple #[ab ae c,am g]) w/\(¬s.data.toList=[95]->g=(f s.data.toList).isSome/\c=((f s.data.toList).getD 0:Nat)):=by
 obtain ⟨D,o,n⟩:=h
 obtain ⟨v,z,p,u⟩:=o.look_ok (Maps.string_keyed j) r y (zd:=.lit (.int .i64 0)) (zp:=[]) (plainElem_int i (by decide)) (WideMaps.keyOf_string_mk j q)
 obtain ⟨a,rfl,d,_⟩:=plainElem_int_inv i u
 refine ⟨a,_,p,fun x=>?_⟩
 obtain ⟨l,m⟩:=n _ x
 rw [m] at d
 simp only [Prod.mk.injEq,DataW.lit.injEq,Lit.int.injEq,true_and] at d
 exact ⟨l,d.1.symm⟩
theorem NumMap.put {P:dz} {k e t:bD} {w:ai} {b N:Nat} {f:List UInt8->Option Nat} (h:NumMap P k e w b N f) (j:P.underlying k=some .string) (v:P.underlying t=some (.map k e)) (n:P.underlying e=some (.int ae)) (s:ByteArray) (c:Nat) (u:s.size<=be) (p:N<be) (m:c<=1000000) :
  ∃w',(Instr.mapUpdate t (.map (some b)) (aa s) (ab ae c)).run P w=.ok () w'/\NumMap P k e w' b (N+1) (if s.data.toList=[95] then f else sw f s.data.toList (some c))/\w.grownBy w' (some b):=by
 obtain ⟨D,d,i⟩:=h
 obtain ⟨w',r,q,o⟩:=d.update (Maps.string_keyed j) v p (WideMaps.keyOf_string_mk j u) (plainElem_int n (nd c m))
 refine ⟨w',r,⟨_,q,fun x g=>?_⟩,o⟩
 by_cases a:x=s.data.toList
 ·subst a
  rw [if_neg g,Maps.atKey_put_same d.isMap (show WideAt.IsKeyLit (.string _) from trivial),Maps.has_put_same d.isMap (show WideAt.IsKeyLit (.string _) from trivial)]
  simp [sw]
 ·have l:(Lit.string s.data.toList)≠.string x:=fun h=>a (by injection h with h;exact h.symm)
  rw [Maps.atKey_put_other (fun h=>l h.symm),Maps.has_put_other (fun h=>l h.symm)]
  split
  ·exact i x g
  ·unfold sw;rw [if_neg a];exact i x g
theorem CntMap.look {P:dz} {k e t:bD} {w:ai} {b N:Nat} {f:Nat->Nat} (h:CntMap P k e w b N f) (d:P.underlying k=some (.int ae)) (m:P.underlying t=some (.map k e)) (i:P.underlying e=some (.int ae)) (x:Nat) (n:x<=1000000) (o:(zeroValue e).run P w=.ok (ab ae 0) w) :
  (Instr.lookup t (.map (some b)) (ab ae x) false).run P w=.ok (ab ae (f x:Int)) w:=by
 obtain ⟨D,j,g⟩:=h
 obtain ⟨c,l,a,_⟩:=j.lookup_int (Maps.int_keyed d) m i o (Maps.keyOf_int_mk d (nd x n))
 rw [g] at a
 simp only [DataW.lit.injEq,Lit.int.injEq,true_and] at a
 rw [l,<-a]
theorem CntMap.put {P:dz} {k e t:bD} {w:ai} {b N:Nat} {f:Nat->Nat} (h:CntMap P k e w b N f) (d:P.underlying k=some (.int ae)) (q:P.underlying t=some (.map k e)) (l:P.underlying e=some (.int ae)) (x c:Nat) (r:x<=1000000) (n:N<be) (j:c<=1000000) :
  ∃w',(Instr.mapUpdate t (.map (some b)) (ab ae x) (ab ae c)).run P w=.ok () w'/\CntMap P k e w' b (N+1) (sw f x c)/\w.grownBy w' (some b):=by
 obtain ⟨D,g,i⟩:=h
 obtain ⟨w',p,o,m⟩:=g.update (Maps.int_keyed d) q n (Maps.keyOf_int_mk d (nd x r)) (plainElem_int l (nd c j))
 refine ⟨w',p,⟨_,o,fun y=>?_⟩,m⟩
 by_cases a:y=x
 ·subst a
  rw [Maps.atKey_put_same g.isMap (show WideAt.IsKeyLit (.int _ _) from trivial)]
  simp [sw]
 ·rw [Maps.atKey_put_other (fun h=>a (by injection h with _ h;omega)),i]
  unfold sw;rw [if_neg a]
def AF (w:ai) (g:Nat) (T:List NextR):Prop:=∀j (h:j<T.length) i v,(kM T[j])[i]? = some v->w.cell? ⟨g,j * 6+i,none⟩=some v
def iF (m:List (List UInt8×Nat)):List az:=m.flatMap fun p=>[aa ⟨p.1.toArray⟩,ab ae (p.2:Int)]
structure PC where
 B0:Nat
 B1:Nat
 lo:Nat
 P:Nat
 V:Nat
 O:Nat
 g:Nat
 tc:Nat
 OA:Option Addr
 on:Nat
 oc:Nat
 E:RE
def PC.cells (c:PC) (n:Nat) (v:VS) (a:az):List az:=[.slice (some ⟨c.g,0,none⟩) c.E.T.length c.tc,ab ae (n:Int),.slice c.OA c.on c.oc,ab ae c.E.q,.map (some c.V),.map (some c.O),ab ae (v.c:Int),a]
structure PC.Ok (c:PC):Prop where
 b01:c.B0<=c.B1
 p1:c.B1<=c.P/\c.P<c.lo
 v1:c.B1<=c.V/\c.V<c.lo
 o1:c.B1<=c.O/\c.O<c.lo
 pv:c.P≠c.V
 po:c.P≠c.O
 vo:c.V≠c.O
 gl:c.g<c.B1
 len:c.E.T.length<=20000
 pos:0<c.E.T.length
 tcap:c.E.T.length<=c.tc
 opl:c.on=c.E.P.length
 few:c.on<=100
 ob:0<c.E.P.length->∀b off,c.OA=some ⟨b,off,none⟩->b<c.B1
 endk:(c.E.at (c.E.T.length-1)).r.kind=7
 txt:∀t∈c.E.T,t.r.text.length<=20000 /\ -9223372036854775808<=t.r.n/\t.r.n<=9223372036854775807
 nms:∀t∈c.E.T,ge t=true->t.r.text.length<=100
def PC.mine (c:PC) (a:az) (b:Nat):Prop:=b=c.P\/b=c.V\/b=c.O\/a.ownBlock=some b
end Hb
namespace Go.Proofs.YtlikcjbjibhjgaaGreatDoor
open Go.RowKit Hb
structure PsAt (c:PC) (n:Nat) (v:VS) (nv:az) (w:ai):Prop where
 ok:c.Ok
 low:c.lo<=w.heap.size
 bk:Bk w c.P (c.cells n v nv)
 tk:AF w c.g c.E.T
 ops:OpsAt w c.OA c.E.P
 vm:NumMap ah 9 2 w c.V v.o.length v.look
 om:CntMap ah 2 3 w c.O v.o.length (fun x=>v.o.count x)
 nm:w.ownsRow c.lo 86 2 nv v.m.length (iF v.m)
 n1:n<c.E.T.length
 vn:v.o.length<=n
 vc:v.Ok
structure Stp (c:PC) (nv:az) (w:ai) (nv':az) (w':ai):Prop where
 os:w'.os=w.os
 tape:w'.tape=w.tape
 output:w'.output=w.output
 size:w.heap.size<=w'.heap.size
 block:∀b,b<w.heap.size->¬c.mine nv b->w'.heap[b]? = w.heap[b]?
 own:∀b,nv'.ownBlock=some b->nv.ownBlock=some b\/w.heap.size<=b
theorem Stp.trans {c:PC} {i j l:az} {a b d:ai} (h:Stp c i a j b) (k:Stp c j b l d):Stp c i a l d where
 os:=k.os.trans h.os
 tape:=k.tape.trans h.tape
 output:=k.output.trans h.output
 size:=aI h.size k.size
 block:=fun x f g=>(k.block x (aC f h.size) (fun e=>g (by
  rcases e with e | e | e | e
  ·exact .inl e
  ·exact .inr (.inl e)
  ·exact .inr (.inr (.inl e))
  ·rcases h.own x e with e | e
   ·exact .inr (.inr (.inr e))
   ·omega))).trans (h.block x f g)
 own:=fun x f=>by
  rcases k.own x f with e | e
  ·exact h.own x e
  ·exact .inr (aI h.size e)
theorem Stp.of {c:PC} {d:az} {a b:ai} (h:ax a.heap.size a b):Stp c d a d b:=⟨h.os,h.tape,h.output,h.size,fun k e _=>h.block k e,fun _ h=>.inl h⟩
theorem Stp.refl (c:PC) (a:az) (w:ai):Stp c a w a w:=.of (aj _ _)
theorem Stp.low {c:PC} {n:Nat} {v:VS} {a b:az} {w w':ai} (h:Stp c a w b w') (p:PsAt c n v a w):ax c.B1 w w':=⟨h.os,h.tape,h.output,h.size,fun k i=>h.block k (by have:=p.low;have:=p.ok.p1;omega) (fun e=>by
 have d:=p.ok.p1;have f:=p.ok.v1;have g:=p.ok.o1
 rcases e with e | e | e | e
 ·omega
 ·omega
 ·omega
 ·have:=(p.nm.lt k e).1;omega)⟩
theorem PsAt.lts {c:PC} {n:Nat} {v:VS} {a:az} {w:ai} (p:PsAt c n v a w) {b:Nat} (h:c.mine a b):b<w.heap.size:=by
 have d:=p.ok.p1;have f:=p.ok.v1;have g:=p.ok.o1;have:=p.low
 rcases h with e | e | e | e
 ·omega
 ·omega
 ·omega
 ·exact (p.nm.lt b e).2
theorem kF {w w':ai} {g:Nat} {T:List NextR} (h:AF w g T) (b:w'.heap[g]? = w.heap[g]?):AF w' g T:=fun j c i v d=>(bG (a:=⟨g,_,none⟩) b).trans (h j c i v d)
theorem mI {w w':ai} {A:Option Addr} {l:List OpR} (h:OpsAt w A l) (n:w.heap.size<=w'.heap.size) (i:0<l.length->∀b a,A=some ⟨b,a,none⟩->w'.heap[b]? = w.heap[b]?):OpsAt w' A l:=fun j k=>by
 obtain ⟨b,a,e,m,d,f,g⟩:=h j k
 have c:∀o,w'.cell? ⟨b,o,none⟩=w.cell? ⟨b,o,none⟩:=fun o=>bG (i (by omega) b a e)
 exact ⟨b,a,e,aC m n,(c _).trans d,(c _).trans f,(c _).trans g⟩
theorem iS {w w':ai} {a e size:Nat} {v:az} {n:Nat} {xs:List az} (h:w.ownsRow a e size v n xs) (f:∀k,v.ownBlock=some k->w'.heap[k]? = w.heap[k]?):w'.ownsRow a e size v n xs:=by
 refine ⟨h.1,?_⟩
 rcases h.2 with l | ⟨g,c,d,b,i,j,rest⟩
 ·exact .inl l
 ·exact .inr ⟨g,c,d,b,i,(f g (by rw [b];rfl)).trans j,rest⟩
theorem PsAt.call {c:PC} {n:Nat} {v:VS} {a:az} {w w':ai} (p:PsAt c n v a w) (h:ax w.heap.size w w'):PsAt c n v a w' where
 ok:=p.ok
 low:=aI p.low h.size
 bk:=p.bk.call h
 tk:=kF p.tk (h.block _ (by have:=p.ok.gl;have:=p.ok.p1;have:=p.low;omega))
 ops:=p.ops.below h
 vm:=p.vm.keep (h.block _ p.vm.lt)
 om:=p.om.keep (h.block _ p.om.lt)
 nm:=iS p.nm fun k b=>h.block k (p.nm.lt k b).2
 n1:=p.n1
 vn:=p.vn
 vc:=p.vc
theorem PsAt.next {c:PC} {n:Nat} {v:VS} {f:az} {w:ai} (p:PsAt c n v f w) (k:Nat) (g:n<=k) (h:k<c.E.T.length):PsAt c k v f (w.setCell ⟨c.P,1,none⟩ (ab ae (k:Int))):=by
 have a:∀b,b≠c.P->(w.setCell ⟨c.P,1,none⟩ (ab ae (k:Int))).heap[b]? = w.heap[b]?:=fun b d=>aS _ _ _ _ d
 have l:=p.ok.p1
 refine ⟨p.ok,by simpa using p.low,p.bk.set 1 _,kF p.tk (a _ (by have:=p.ok.gl;omega)),mI p.ops (by simp) (fun i b j e=>a b (by have:=p.ok.ob i b j e;omega)),p.vm.keep (a _ (fun e=>p.ok.pv e.symm)),p.om.keep (a _ (fun e=>p.ok.po e.symm)),iS p.nm (fun b d=>a b (by have:=(p.nm.lt b d).1;omega)),h,aI p.vn g,p.vc⟩
theorem Stp.put {c:PC} {d f:az} {w w':ai} (h:Stp c d w f w') (i:Nat) (u:az):Stp c d w f (w'.setCell ⟨c.P,i,none⟩ u) where
 os:=h.os
 tape:=h.tape
 output:=h.output
 size:=by simpa using h.size
 block:=fun b g a=>(aS _ _ _ _ (fun e=>a (.inl e))).trans (h.block b g a)
 own:=h.own
structure Wk (c:PC) (n:Nat) (v:VS) (nv0:az) (w0:ai) (nv:az) (w:ai) (L:List (Nat×List az)):Prop where
 p:PsAt c n v nv w
 s:Stp c nv0 w0 nv w
 low:ax c.B1 w0 w
 b:Bks w (L++[(c.P,c.cells n v nv)])
 off:∀x∈L,¬c.mine nv x.1
 start0:c.B1<=w0.heap.size
theorem Wk.start {c:PC} {n:Nat} {v:VS} {b:az} {w:ai} (p:PsAt c n v b w):Wk c n v b w b w [] :=
 ⟨p,.refl _ _ _,.refl _ _,⟨fun x a=>by rw [an,aG] at a;subst a;exact p.bk,List.pairwise_singleton _ _⟩,fun x a=>(by cases a),by have:=p.low;have:=p.ok.p1;omega⟩
theorem Wk.call {c:PC} {n:Nat} {v:VS} {e d:az} {w0 w w':ai} {L:List (Nat×List az)} (h:Wk c n v e w0 d w L) (a:ax w.heap.size w w'):Wk c n v e w0 d w' L :=
 ⟨h.p.call a,h.s.trans (.of a),h.low.trans (a.mono (by have:=h.p.low;have:=h.p.ok.p1;omega)),h.b.call a,h.off,h.start0⟩
theorem Wk.new {c:PC} {n:Nat} {v:VS} {j i:az} {w0 w:ai} {L:List (Nat×List az)} (h:Wk c n v j w0 i w L) (vs:List az) (e:bD) {g:Nat} (f:w.heap.size=g):Wk c n v j w0 i (w.alloc (.cells vs.toArray e)) ((g,vs)::L):=by
 have a:=h.call ((aj w.heap.size w).alloc (ag _) (.cells vs.toArray e))
 refine ⟨a.p,a.s,a.low,h.b.new vs e f,fun x d=>?_,h.start0⟩
 rcases bg.1 d with rfl | d
 ·intro k
  have:=h.p.lts k
  have:w.heap.size=g:=f
  simp only at *
  omega
 ·exact h.off x d
theorem Wk.turn {c:PC} {n f:Nat} {v i:VS} {d g:az} {w w':ai} {L:List (Nat×List az)} (h:Bks w (L++[(c.P,c.cells n v d)])) (k:∀x∈L,¬c.mine d x.1) (p:PsAt c f i g w') (j:∀b,b<w.heap.size->¬c.mine d b->w'.heap[b]? = w.heap[b]?):Bks w' (L++[(c.P,c.cells f i g)]):=by
 refine ⟨fun x a=>?_,?_⟩
 ·rcases dm.1 a with a | a
  ·have e:=h.bk x (dU _ a)
   exact e.keeps (j _ e.lt (k x a))
  ·rw [aG] at a;subst a;exact p.bk
 ·have:=h.ord
  rw [List.map_append] at this |-
  exact this
theorem Wk.step {c:PC} {n f:Nat} {v j:VS} {i g a:az} {w0 w w':ai} {L:List (Nat×List az)} (h:Wk c n v i w0 g w L) (p:PsAt c f j a w') (s:Stp c g w a w'):Wk c f j i w0 a w' L :=
 ⟨p,h.s.trans s,h.low.trans (s.low h.p),Wk.turn h.b h.off p s.block,fun x d k=>h.off x d (by
  rcases k with e | e | e | e
  ·exact .inl e
  ·exact .inr (.inl e)
  ·exact .inr (.inr (.inl e))
  ·rcases s.own x.1 e with e | e
   ·exact .inr (.inr (.inr e))
   ·have:=(h.b.bk x (dU _ d)).lt;omega),h.start0⟩
theorem Wk.next {c:PC} {n:Nat} {v:VS} {b a:az} {w0 w:ai} {L:List (Nat×List az)} (h:Wk c n v b w0 a w L) (k:Nat) (d:n<=k) (e:k<c.E.T.length):Wk c k v b w0 a (w.setCell ⟨c.P,1,none⟩ (ab ae (k:Int))) L :=
 h.step (h.p.next k d e) ((Stp.refl c a w).put 1 _)
theorem Wk.put {c:PC} {n:Nat} {v:VS} {q d:az} {w0 w:ai} {L:List (Nat×List az)} (h:Wk c n v q w0 d w L) (j i:Nat) {g:Nat} {vs:List az} (f:L[j]? = some (g,vs)) (u:az) (C:w0.heap.size<=g):Wk c n v q w0 d (w.setCell ⟨g,i,none⟩ u) (L.set j (g,vs.set i u)):=by
 have m:=List.mem_of_getElem? f
 have t:¬c.mine d g:=h.off _ m
 have k:∀b,c.mine d b->(w.setCell ⟨g,i,none⟩ u).heap[b]? = w.heap[b]?:=fun b a=>aS _ _ _ _ (fun e=>t (by have r:b=g:=e;rw [<-r];exact a))
 have A:c.B1<=g:=aI h.start0 C
 have B:PsAt c n v d (w.setCell ⟨g,i,none⟩ u):=by
  have G:=h.p.ok.p1
  have o:∀b,b<c.B1->(w.setCell ⟨g,i,none⟩ u).heap[b]? = w.heap[b]?:=fun b a=>aS _ _ _ _ (show b≠g by omega)
  exact ⟨h.p.ok,by simpa using h.p.low,h.p.bk.keeps (k _ (.inl rfl)),kF h.p.tk (o _ h.p.ok.gl),mI h.p.ops (by simp) (fun z b F e=>o b (h.p.ok.ob z b F e)),h.p.vm.keep (k _ (.inr (.inl rfl))),h.p.om.keep (k _ (.inr (.inr (.inl rfl)))),iS h.p.nm (fun b a=>k b (.inr (.inr (.inr a)))),h.p.n1,h.p.vn,h.p.vc⟩
 refine ⟨B,⟨h.s.os,h.s.tape,h.s.output,by simpa using h.s.size,fun b a m=>(aS _ _ _ _ (show b≠g by omega)).trans (h.s.block b a m),h.s.own⟩,h.low.setCell (p:=⟨g,i,none⟩) A u,?_,fun x D=>?_,h.start0⟩
 ·have:=h.b.set (l:=L++[(c.P,c.cells n v d)]) j i (g:=g) (vs:=vs) (by rw [List.getElem?_append_left (dV.1 f).1];exact f) u
  rwa [List.set_append_left _ _ (dV.1 f).1] at this
 ·obtain ⟨y,E,e⟩:=CO (vs.set i u) f x D
  rw [<-e];exact h.off y E
theorem PsAt.more {c:PC} {n:Nat} {v:VS} {b:az} {w:ai} (p:PsAt c n v b w) (h:¬(c.E.at n).r.kind=7):n+1<c.E.T.length:=by
 have:=p.n1
 rcases Nat.lt_or_ge (n+1) c.E.T.length with a | a
 ·exact a
 ·exact absurd (by have:=p.ok.endk;rwa [show c.E.T.length-1=n by omega] at this) h
theorem Wk.inc {c:PC} {n:Nat} {v:VS} {b a:az} {w0 w:ai} {L:List (Nat×List az)} (h:Wk c n v b w0 a w L) (d:n+1<c.E.T.length):Wk c (n+1) v b w0 a (w.setCell ⟨c.P,1,none⟩ (ab ae ((n:Int)+1))) L:=h.next (n+1) (Nat.le_succ n) d
theorem nF {n:Nat} (h:n<=1000000):wrap64 ((n:Int)+1)=(n:Int)+1:=fg _ (by omega)
theorem Wk.put4 {c:PC} {n:Nat} {v:VS} {m l:az} {w0 w:ai} {L:List (Nat×List az)} (h:Wk c n v m w0 l w L) (j:Nat) {g:Nat} {u0 u1 u2 u3:az} (k:L[j]? = some (g,[u0,u1,u2,u3])) (a b e i:az) (d:w0.heap.size<=g) :
  Wk c n v m w0 l ((((w.setCell ⟨g,0,none⟩ a).setCell ⟨g,1,none⟩ b).setCell ⟨g,2,none⟩ e).setCell ⟨g,3,none⟩ i) (L.set j (g,[a,b,e,i])):=by
 have f:j<L.length:=(dV.1 k).1
 have o:=h.put j 0 k a d
 have p:=o.put j 1 (g:=g) (vs:=[a,u1,u2,u3]) (by rw [fe];simp [f]) b d
 have q:=p.put j 2 (g:=g) (vs:=[a,b,u2,u3]) (by rw [fe];simp [f]) e d
 have r:=q.put j 3 (g:=g) (vs:=[a,b,e,u3]) (by rw [fe];simp [f]) i d
 simpa using r
theorem Wk.tl {c:PC} {n:Nat} {v:VS} {d a:az} {w0 w:ai} {x:Nat×List az} {L:List (Nat×List az)} (h:Wk c n v d w0 a w (x::L)):Wk c n v d w0 a w L:=⟨h.p,h.s,h.low,h.b.tl,fun y e=>h.off y (List.mem_cons_of_mem _ e),h.start0⟩
def qY (t:NextR):az:=aN #[ab ae t.r.kind,aa t.txt,ab ae t.r.n,ab ae t.r.at_,ab ae t.r.end_,am t.lay]
def Fall (c:PC) (a:az) (w0 w:ai):Prop:=ax c.B1 w0 w/\∃nv',Stp c a w0 nv' w
theorem Wk.fall {c:PC} {n:Nat} {v:VS} {b a:az} {w0 w w':ai} {L:List (Nat×List az)} (h:Wk c n v b w0 a w L) (f:Fall c a w w'):Fall c b w0 w':=by
 obtain ⟨d,s⟩:=f.2
 exact ⟨h.low.trans f.1,d,h.s.trans s⟩
theorem Fall.of {c:PC} {n:Nat} {v:VS} {a:az} {w w':ai} (p:PsAt c n v a w) (h:ax w.heap.size w w'):Fall c a w w':=⟨h.mono (by have:=p.low;have:=p.ok.p1;omega),a,.of h⟩
def Li (c:PC) (a:az) (w0:ai) (k:Nat) (e:Ending) (w:ai):Prop:=e=.panicked [{ v:=.iface 124 (aN #[ab ae (c.E.at k).r.at_]),recovered:=false }]/\Fall c a w0 w
end Go.Proofs.YtlikcjbjibhjgaaGreatDoor
namespace Go.Proofs.YtlikcjbjibhjgaaGreatDoor
open Go.RowKit Hb
theorem JB {c:PC} {n:Nat} {v:VS} {d:az} {w:ai} (p:PsAt c n v d w) (k:Nat):∃j,j<c.E.T.length/\j=min (n+k) (c.E.T.length-1) /\
  w.cell? ⟨c.g,j * 6,none⟩=some (ab ae (c.E.at (n+k)).r.kind)/\w.cell? ⟨c.g,j * 6+1,none⟩=some (aa (c.E.at (n+k)).txt)/\w.cell? ⟨c.g,j * 6+2,none⟩=some (ab ae (c.E.at (n+k)).r.n)/\w.cell? ⟨c.g,j * 6+3,none⟩=some (ab ae (c.E.at (n+k)).r.at_)/\w.cell? ⟨c.g,j * 6+4,none⟩=some (ab ae (c.E.at (n+k)).r.end_)/\w.cell? ⟨c.g,j * 6+5,none⟩=some (am (c.E.at (n+k)).lay):=by
 have e:=p.ok.pos
 have a:min (n+k) (c.E.T.length-1)<c.E.T.length:=by omega
 have b:c.E.at (n+k)=c.E.T[min (n+k) (c.E.T.length-1)]:=by
  unfold RE.at wO
  rw [aX,ba a];rfl
 refine ⟨_,a,rfl,?_⟩
 rw [b]
 have h:=p.tk _ a
 exact ⟨h 0 _ rfl,h 1 _ rfl,h 2 _ rfl,h 3 _ rfl,h 4 _ rfl,h 5 _ rfl⟩
theorem eZ (s:ByteArray):s.toList=s.data.toList:=Gk s
theorem Mt (t:NextR) (s:ByteArray):isP t s.data.toList=(t.r.kind==6&&t.txt.toList==s.toList):=by
 rw [eZ,eZ];rfl
theorem Om {n k len j:Nat} (c:n+k<=100000) (d:0<len) (b:len<=20000) (a:j=min (n+k) (len-1)):min (wrap64 ((n:Int)+(k:Int))) (wrap64 ((len:Int)-1))=(j:Int):=by
 rw [fg _ (by omega),fg _ (by omega)]
 omega
theorem kc {c:PC} {n:Nat} {v:VS} {l:az} {w:ai} (p:PsAt c n v l w) (k:Nat) (i:k<=1):aJ ah 36 #[au (some ⟨c.P,0,none⟩),ab ae (k:Int)] w fun e w'=>e=aw (qY (c.E.at (n+k)))/\ax w.heap.size w w':=by
 have a:=(Wk.start p).new [ab ae 0,aa ⟨#[]⟩,ab ae 0,ab ae 0,ab ae 0,am false] 83 rfl
 have g:Hid (ax w.heap.size w (w.alloc (.cells #[ab ae 0,aa ⟨#[]⟩,ab ae 0,ab ae 0,ab ae 0,am false] 83))):=zq ((aj _ _).alloc (ag _) _)
 obtain ⟨j,h,f,s,u,x,y,z,A⟩:=JB a.p k
 have m:=Om (len:=c.E.T.length) (by have:=p.n1;have:=p.ok.len;omega) p.ok.pos p.ok.len f
 have o:(0:Int)<=(j:Int):=by omega
 have q:(j:Int)<(c.E.T.length:Int):=by omega
 have d:=a.b.all
 simp only [PC.cells,ak,an,aA,aU,bd,ap,ar,and_true] at d
 generalize c.E.at (n+k)=t at *
 generalize c.E.T.length=len at *
 clear a p f h i
 unfold qY
 go_enter Tryz.func36,Tryz.ntmps36
 go_wp2_with fail
 go_region
 all_goals
  go_wp2_with fail
  refine bodyPost_ret (v:=aN #[ab ae t.r.kind,aa t.txt,ab ae t.r.n,ab ae t.r.at_,ab ae t.r.end_,am t.lay]) (by simp [results,Tryz.results36,go_sem,d]) rfl ⟨rfl,?_⟩
  repeat (first | (with_reducible exact g.out) | (with_reducible exact aj _ _) | (with_reducible refine Below.setCell ?_ (by simp) _) | (with_reducible refine Below.alloc ?_ (by simp) _) | (with_reducible refine Below.drew ?_))
theorem jm (t:NextR) (s:ByteArray) (w:ai):aJ ah 128 #[qY t,aa s] w fun e w'=>e=aw (am (isP t s.data.toList))/\ax w.heap.size w w':=by
 have c:=zq ((aj w.heap.size w).alloc (ag _) (.cells #[ab ae t.r.kind,aa t.txt,ab ae t.r.n,ab ae t.r.at_,ab ae t.r.end_,am t.lay] 83))
 have d:Hid (isP t s.data.toList=(t.r.kind==6&&t.txt.toList==s.toList)):=zq (Mt t s)
 rw [d.out]
 unfold qY
 generalize t.txt=x at *
 by_cases a:t.r.kind=6
 ·have b:(t.r.kind==6)=true:=by simpa using a
  rw [b]
  clear a
  go_enter Tryz.func128,Tryz.ntmps128
  go_wp2_with fail
  go_ret
  exact ⟨by simp,c.out⟩
 ·have b:(t.r.kind==6)=false:=by simpa using a
  rw [b]
  clear a
  go_enter Tryz.func128,Tryz.ntmps128
  go_wp2_with fail
  go_ret
  exact ⟨rfl,c.out⟩
theorem sK (t:NextR) (w:ai):aJ ah 130 #[qY t] w fun e w'=>e=aw (am (ge t))/\ax w.heap.size w w':=by
 have c:=zq ((aj w.heap.size w).alloc (ag _) (.cells #[ab ae t.r.kind,aa t.txt,ab ae t.r.n,ab ae t.r.at_,ab ae t.r.end_,am t.lay] 83))
 unfold qY ge
 by_cases a:t.r.kind=1
 ·have b:(t.r.kind==1)=true:=by simpa using a
  rw [b]
  clear a
  go_enter Tryz.func130,Tryz.ntmps130
  go_wp2_with fail
  go_ret
  exact ⟨rfl,c.out⟩
 ·have b:(t.r.kind==1)=false:=by simpa using a
  rw [b]
  clear a
  go_enter Tryz.func130,Tryz.ntmps130
  go_wp2_with fail
  go_ret
  exact ⟨rfl,c.out⟩
theorem zg (t:NextR) (w:ai):aJ ah 185 #[qY t] w fun e w'=>e=aw (am (opn t))/\ax w.heap.size w w':=by
 have a:=zq ((aj w.heap.size w).alloc (ag _) (.cells #[ab ae t.r.kind,aa t.txt,ab ae t.r.n,ab ae t.r.at_,ab ae t.r.end_,am t.lay] 83))
 have c:=zq fun W=>jm t ⟨#[40]⟩ W
 have d:=zq ((Bks.nil w).new [ab ae t.r.kind,aa t.txt,ab ae t.r.n,ab ae t.r.at_,ab ae t.r.end_,am t.lay] 83 rfl)
 unfold qY opn at *
 have g:isP t (⟨#[40]⟩:ByteArray).data.toList=isP t [40]:=rfl
 rw [g] at c
 generalize isP t [40]=b at *
 clear g
 cases b
 all_goals
  have f:=d.out.all
  simp only [PC.cells,ak,an,aA,aU,bd,ap,ar,and_true] at f
  go_enter Tryz.func185,Tryz.ntmps185
  go_wp2_with fail
  refine (c.out _).mono ?_;rintro e k ⟨rfl,h⟩
  have i:=(d.out.call h).all
  simp only [PC.cells,ak,an,aA,aU,bd,ap,ar,and_true] at i
  clear f
  have j:=a.out.trans (h.mono a.out.size)
  go_wp2_with fail
  go_ret
  exact ⟨rfl,j⟩
theorem kb (s:ByteArray) (A:Option Addr) (n a:Nat) (w:ai):aJ ah 92 #[aa s,.slice A n a] w fun e w'=>e=aw (aN #[ab ae 3,ab ae 0,aa s,.slice A n a])/\ax w.heap.size w w':=by
 have b:=zq ((aj w.heap.size w).alloc (ag _) (.cells #[ab ae 3,ab ae 0,aa s,.slice A n a] 25))
 go_enter Tryz.func92,Tryz.ntmps92
 go_wp2_with fail
 exact bodyPost_ret (v:=aN #[ab ae 3,ab ae 0,aa s,.slice A n a]) (by simp [results,Tryz.results92,go_sem]) rfl ⟨rfl,b.out⟩
theorem sL {c:PC} {n:Nat} {v:VS} {b:az} {w:ai} (p:PsAt c n v b w):aJ ah 62 #[au (some ⟨c.P,0,none⟩)] w fun e w'=>Li c b w n e w':=by
 have a:=zq (kc p 0 (by decide))
 have d:Hid (∀w',ax w.heap.size w w'->Li c b w n (.panicked [{ v:=.iface 124 (aN #[ab ae (c.E.at n).r.at_]),recovered:=false }]) w'):=zq fun w' h=>⟨rfl,Fall.of p h⟩
 rw [bv] at a
 unfold qY at a
 generalize c.E.at n=t at *
 clear p
 have g:∀W,(Instr.field 83 (aN #[ab ae t.r.kind,aa t.txt,ab ae t.r.n,ab ae t.r.at_,ab ae t.r.end_,am t.lay]) 3).run ah W=.ok (ab ae t.r.at_) W:=fun W=>by kernel_rfl
 go_enter Tryz.func62,Tryz.ntmps62
 go_wp2_with fail
 refine a.out.mono ?_;rintro e i ⟨rfl,f⟩
 go_wp2_with fail
 exact ⟨rfl,d.out _ f⟩
end Go.Proofs.YtlikcjbjibhjgaaGreatDoor
namespace Hb
open Go Go.RowKit
theorem yy {K K':Nat->Prop} {w:ai} (e:bD) (a:List TR) (l:a.length<=be) (i:K w.heap.size) (h:∀b,K' b->K b/\b<w.heap.size) (m:∀r∈a,TmsK K' w r.2.1 r.1.args):TmsK K (w.alloc (.cells (eB a).toArray e)) (some ⟨w.heap.size,0,none⟩) (a.map (·.1)):=by
 have d:∀k u,(eB a)[k]? = some u->(w.alloc (.cells (eB a).toArray e)).cell? ⟨w.heap.size,0+k,none⟩=some u:=fun k u n=>by
  rw [ap,aq];simpa using n
 refine .mk _ _ (fun j=>(a.getD j (tm0,none,0)).2.1) (fun j=>(a.getD j (tm0,none,0)).2.2) (by rw [bm];exact l) (fun j c=>?_) (fun j c=>?_)
 ·rw [bm] at c
  obtain ⟨o,p,q,s⟩:=mD a j c
  have f:a.getD j (tm0,none,0)=a[j]:=by rw [aX,ba c];rfl
  refine ⟨w.heap.size,0,rfl,i,?_,?_,?_,?_⟩
  ·rw [bT];exact d _ _ o
  ·rw [bT];exact d _ _ p
  ·rw [bT];exact d _ _ q
  ·rw [bT];simp only [f];exact d _ _ s
 ·rw [bm] at c
  have f:a.getD j (tm0,none,0)=a[j]:=by rw [aX,ba c];rfl
  rw [bT];simp only [f]
  exact (m _ (aR c)).keep (fun b g=>heap_alloc_old w _ (h b g).2) (fun b g=>(h b g).1)
end Hb
namespace Go.Proofs.YtlikcjbjibhjgaaGreatDoor
open Go.RowKit Hb
def _root_.Hb.PC.new (c:PC) (a:az) (w0 w:ai) (b:Nat):Prop:=w0.heap.size<=b/\b<w.heap.size/\¬c.mine a b
theorem xS {c:PC} {a d:az} {w0 w w':ai} (s:Stp c a w d w') {b:Nat} (h:c.new a w0 w b):c.new d w0 w' b:=⟨h.1,aC h.2.1 s.size,fun e=>h.2.2 (by
 rcases e with e | e | e | e
 ·exact .inl e
 ·exact .inr (.inl e)
 ·exact .inr (.inr (.inl e))
 ·rcases s.own b e with e | e
  ·exact .inr (.inr (.inr e))
  ·have:=h.2.1;omega)⟩
def Trm (c:PC) (a:az) (w0 w:ai) (F:List Nat) (A:Option Addr) (l:List Tm):Prop:=TmsK (fun b=>c.new a w0 w b/\b ∉ F) w A l
theorem Trm.step {c:PC} {d e:az} {w0 w w':ai} {F:List Nat} {A:Option Addr} {l:List Tm} (h:Trm c d w0 w F A l) (s:Stp c d w e w'):Trm c e w0 w' F A l :=
 h.keep (fun b a=>s.block b a.1.2.1 a.1.2.2) fun _ a=>⟨xS s a.1,a.2⟩
theorem Trm.call {c:PC} {a:az} {w0 w w':ai} {F:List Nat} {A:Option Addr} {l:List Tm} (h:Trm c a w0 w F A l) (b:ax w.heap.size w w'):Trm c a w0 w' F A l:=h.step (.of b)
theorem Trm.new {c:PC} {d:az} {w0 w:ai} {F:List Nat} {A:Option Addr} {l:List Tm} (h:Trm c d w0 w F A l) (o:Obj) {g:Nat} (f:w.heap.size=g):Trm c d w0 (w.alloc o) (g::F) A l :=
 TmsK.keep h (fun b a=>((aj w.heap.size w).alloc (ag _) o).block b a.1.2.1) fun b a=>⟨⟨a.1.1,aC a.1.2.1 (by simp),a.1.2.2⟩,fun e=>by
  rcases bg.1 e with e | e
  ·have:=a.1.2.1;omega
  ·exact a.2 e⟩
theorem Trm.put {c:PC} {d:az} {w0 w w':ai} {F:List Nat} {A:Option Addr} {l:List Tm} (h:Trm c d w0 w F A l) {g:Nat} (i:g∈F) (f:∀k,k≠g->w'.heap[k]? = w.heap[k]?) (j:w.heap.size<=w'.heap.size):Trm c d w0 w' F A l :=
 TmsK.keep h (fun b a=>f b (fun e=>a.2 (e ▸ i))) fun _ a=>⟨⟨a.1.1,aC a.1.2.1 j,a.1.2.2⟩,a.2⟩
theorem Trm.fewer {c:PC} {f:az} {w0 w:ai} {F a:List Nat} {A:Option Addr} {l:List Tm} (h:Trm c f w0 w F A l) (g:∀b∈a,b∈F):Trm c f w0 w a A l:=TmsK.keep h (fun _ _=>rfl) fun b d=>⟨d.1,fun e=>d.2 (g b e)⟩
theorem Trm.sub {c:PC} {f:az} {w0 d w:ai} {F:List Nat} {A:Option Addr} {l:List Tm} (h:TmsK (c.new f d w) w A l) (i:w0.heap.size<=d.heap.size) (g:∀b∈F,b<d.heap.size):Trm c f w0 w F A l :=
 TmsK.keep h (fun _ _=>rfl) fun b a=>⟨⟨aI i a.1,a.2⟩,fun e=>by have:=g b e;have:=a.1;omega⟩
theorem Trm.out {c:PC} {a:az} {w0 w:ai} {F:List Nat} {A:Option Addr} {l:List Tm} (h:Trm c a w0 w F A l):TmsK (c.new a w0 w) w A l:=TmsK.keep h (fun _ _=>rfl) fun _ b=>b.1
theorem Trm.row {c:PC} {n:Nat} {v:VS} {g:az} {w0 w:ai} {F:List Nat} (p:PsAt c n v g w) (j:w0.heap.size<=w.heap.size) (h:∀b∈F,b<w.heap.size) (e:bD) (f:List TR) (d:f.length<=be) (i:∀r∈f,Trm c g w0 w F r.2.1 r.1.args):Trm c g w0 (w.alloc (.cells (eB f).toArray e)) F (some ⟨w.heap.size,0,none⟩) (f.map (·.1)):=by
 refine yy (K':=fun b=>c.new g w0 w b/\b ∉ F) e f d ⟨⟨j,by simp,fun d=>?_⟩,fun d=>?_⟩ (fun b a=>⟨⟨⟨a.1.1,aC a.1.2.1 (by simp),a.1.2.2⟩,a.2⟩,a.1.2.1⟩) i
 ·have:=p.lts d;omega
 ·have:=h _ d;omega
structure OwnT (c:PC) (nv:az) (w0 w:ai) (F:List Nat) (v:az) (rs:List TR):Prop where
 own:w.ownsRow w0.heap.size 25 4 v rs.length (eB rs)
 off:∀g,v.ownBlock=some g->¬c.mine nv g/\g ∉ F
 sub:∀r∈rs,TmsK (fun b=>(c.new nv w0 w b/\b ∉ F)/\v.ownBlock≠some b) w r.2.1 r.1.args
theorem OwnT.nul (c:PC) (b:az) (w0 w:ai) (F:List Nat):OwnT c b w0 w F (.slice none 0 0) []:=⟨World.ownsRow_nil _ _ _ _,fun g h=>(by cases h),fun r a=>absurd a (by simp)⟩
theorem OwnT.step {c:PC} {f i:az} {w0 w w':ai} {F:List Nat} {v:az} {j:List TR} (h:OwnT c f w0 w F v j) (s:Stp c f w i w'):OwnT c i w0 w' F v j where
 own:=iS h.own fun k e=>s.block k (h.own.lt k e).2 (h.off k e).1
 off:=fun g d=>⟨fun l=>(xS (w0:=w0) s ⟨(h.own.lt g d).1,(h.own.lt g d).2,(h.off g d).1⟩).2.2 l,(h.off g d).2⟩
 sub:=fun r m=>(h.sub r m).keep (fun b a=>s.block b a.1.1.2.1 a.1.1.2.2) fun _ a=>⟨⟨xS s a.1.1,a.1.2⟩,a.2⟩
theorem OwnT.call {c:PC} {a:az} {w0 w w':ai} {F:List Nat} {v:az} {rs:List TR} (h:OwnT c a w0 w F v rs) (b:ax w.heap.size w w'):OwnT c a w0 w' F v rs:=h.step (.of b)
theorem OwnT.snoc {c:PC} {n:Nat} {u:VS} {i:az} {w0 W m:ai} {F:List Nat} {v k:az} {o:List TR} (h:OwnT c i w0 W F v o) (p:PsAt c n u i W) (z:∀b∈F,b<W.heap.size) (r:TR) (D:TmsK (fun b=>(c.new i w0 W b/\b ∉ F)/\v.ownBlock≠some b) W r.2.1 r.1.args)
  (C:m.ownsRow w0.heap.size 25 4 k (o.length+1) (eB o++iW r)) (t:W.grownBy m v.ownBlock) (s:k.ownBlock=v.ownBlock\/k.ownBlock=some W.heap.size):OwnT c i w0 m F k (o++[r]) where
 own:=by
  rw [vB,List.length_append]
  have y:eB [r]=iW r:=by unfold eB;simp
  rw [y];exact C
 off:=fun g j=>by
  rcases s with d | d
  ·rw [d] at j;exact h.off g j
  ·rw [d] at j;injection j with j
   exact ⟨fun q=>by have:=p.lts q;omega,fun q=>by have:=z g q;omega⟩
 sub:=by
  have w:∀{A:Option Addr} {l:List Tm},TmsK (fun b=>(c.new i w0 W b/\b ∉ F)/\v.ownBlock≠some b) W A l->TmsK (fun b=>(c.new i w0 m b/\b ∉ F)/\k.ownBlock≠some b) m A l:=fun B=>by
   refine B.keep (fun b a=>t.block b a.1.1.2.1 (fun e=>a.2 e.symm)) (fun b a=>⟨⟨⟨a.1.1.1,aC a.1.1.2.1 t.size,a.1.1.2.2⟩,a.1.2⟩,fun e=>?_⟩)
   rcases s with d | d
   ·rw [d] at e;exact a.2 e
   ·rw [d] at e;injection e with e;have:=a.1.1.2.1;omega
  intro x f
  rcases dm.1 f with f | f
  ·exact w (h.sub x f)
  ·rw [aG] at f;subst f;exact w D
theorem OwnT.tms {c:PC} {m:az} {w0 w:ai} {F:List Nat} {v:az} {a:List TR} (h:OwnT c m w0 w F v a):∃A i,v=.slice A a.length i/\Trm c m w0 w F A (a.map (·.1)):=by
 have s:∀j (d:j<a.length),TmsK (fun b=>c.new m w0 w b/\b ∉ F) w a[j].2.1 a[j].1.args:=fun j d=>(h.sub _ (aR d)).keep (fun _ _=>rfl) (fun b p=>p.1)
 rcases h.own.2 with ⟨e,o⟩ | ⟨g,i,C,e,q,r,E,D,rest⟩
 ·have:a=[]:=List.eq_nil_of_length_eq_zero o
  subst this
  exact ⟨_,_,e,TmsK.nil⟩
 ·refine ⟨some ⟨g,0,none⟩,i,e,.mk _ _ (fun j=>(a.getD j (tm0,none,0)).2.1) (fun j=>(a.getD j (tm0,none,0)).2.2) (by rw [bm];omega) (fun j d=>?_) (fun j d=>?_)⟩
  ·rw [bm] at d
   obtain ⟨x,y,z,B⟩:=mD a j d
   have f:∀k u,(eB a)[k]? = some u->w.cell? ⟨g,0+k,none⟩=some u:=fun k u t=>by
    have:=h.own.cells (g:=g) (by rw [e];rfl) k u t
    rw [fC] at this
    exact this
   have l:a.getD j (tm0,none,0)=a[j]:=by rw [aX,ba d];rfl
   have n:=h.off g (by rw [e];rfl)
   refine ⟨g,0,rfl,⟨⟨q,(Array.getElem?_eq_some_iff.1 r).1,n.1⟩,n.2⟩,?_,?_,?_,?_⟩
   ·rw [bT];exact f _ _ x
   ·rw [bT];exact f _ _ y
   ·rw [bT];exact f _ _ z
   ·rw [bT];simp only [l];exact f _ _ B
  ·rw [bm] at d
   have l:a.getD j (tm0,none,0)=a[j]:=by rw [aX,ba d];rfl
   rw [bT];simp only [l]
   exact s j d
theorem vR:(Tryz.prog.info? 25).map (fun i=>(i.zero,i.size,i.bytes))=some (some (aN #[ab ae 0,ab ae 0,aa ⟨#[]⟩,.slice none 0 0]),4,56):=by kernel_rfl
theorem nA {w W:ai} {z:Array Oper} {rest:List Oper} {o:Oper} {a:Act} {Q:Exit->Act->ai->Prop} (E:o.guard=none) (s x:Operand)
  (H:o.op=.call { callee:=.builtin .append,args:=#[s,x],argTypes:=#[23,23] }) (c:PC) (n:Nat) (u:VS) (k:az) (w0:ai) (F:List Nat) (v:az) (f:List TR) (K:a.eval s=v) (B:OwnT c k w0 W F v f) (p:PsAt c n u k W) (R:w0.heap.size<=W.heap.size) (A:∀b∈F,b<W.heap.size)
  (r:TR) (J:TmsK (fun b=>(c.new k w0 W b/\b ∉ F)/\v.ownBlock≠some b) W r.2.1 r.1.args) (m:Array az) (D:m=(iW r).toArray) (L:w=W.alloc (.cells m 25)) (M:a.eval x=.slice (some ⟨W.heap.size,0,none⟩) 1 1) (S:f.length<=100000)
  (h:∀l w',Hid (OwnT c k w0 w' F l (f++[r]))->Hid (w.grownBy w' v.ownBlock)->wpList ah z Q rest (a.put o.dst l) w'):wpList ah z Q (o::rest) a w:=by
 obtain ⟨i,G,N,O,P⟩:=info_parts vR
 subst L D
 have e:ax W.heap.size W (W.alloc (.cells (iW r).toArray 25)):=(aj _ _).alloc (ag _) _
 have q:=B.call e
 refine wpList_append_own_at _ E s x 23 H w0.heap.size 25 i _ 4 56 Tryz.underlying23 G N O P rfl (by decide) v f.length (eB f) K q.own ⟨W.heap.size,0,none⟩ 1 1 (iW r) M rfl ?_ (by
   intro y g
   simp only [iW,bg,List.mem_nil_iff,or_false] at g
   rcases g with rfl|rfl|rfl|rfl <;> rfl) (by unfold be;omega) (by omega) (by simp;omega) ?_
 ·intro j y g
  rw [fC]
  have:=aq W (iW r).toArray 25 j
  rw [show 0+j=j by omega,this]
  simpa using g
 ·intro l w' I t _ C
  refine h l w' (zq (q.snoc (p.call e) (fun b d=>aC (A b d) e.size) r ?_ I t C)) (zq t)
  exact J.keep (fun b d=>e.block b d.1.1.2.1) fun b d=>⟨⟨⟨d.1.1.1,aC d.1.1.2.1 e.size,d.1.1.2.2⟩,d.1.2⟩,d.2⟩
theorem PsAt.keep {c:PC} {n:Nat} {v:VS} {d:az} {w w':ai} (p:PsAt c n v d w) (g:w.heap.size<=w'.heap.size) (a:∀b,c.mine d b->w'.heap[b]? = w.heap[b]?) (f:∀b,b<c.B1->w'.heap[b]? = w.heap[b]?):PsAt c n v d w' :=
 ⟨p.ok,aI p.low g,p.bk.keeps (a _ (.inl rfl)),kF p.tk (f _ p.ok.gl),mI p.ops g (fun i b j e=>f b (p.ok.ob i b j e)),p.vm.keep (a _ (.inr (.inl rfl))),p.om.keep (a _ (.inr (.inr (.inl rfl)))),iS p.nm (fun b h=>a b (.inr (.inr (.inr h)))),p.n1,p.vn,p.vc⟩
theorem Wk.box {c:PC} {n:Nat} {v:VS} {i f:az} {w0 w Y:ai} {L:List (Nat×List az)} (h:Wk c n v i w0 f w L) (j:ax w.heap.size w Y) {e:Nat} {vs:List az} (k:w.heap.size<=e) (m:Bk Y e vs):Wk c n v i w0 f Y ((e,vs)::L):=by
 have d:=h.call j
 refine ⟨d.p,d.s,d.low,⟨fun x a=>?_,?_⟩,fun x a=>?_,h.start0⟩
 ·rcases bg.1 a with rfl | a
  ·exact m
  ·exact d.b.bk x a
 ·show (List.map (·.1) ((e,vs)::(L++[(c.P,c.cells n v f)]))).Pairwise (· > ·)
  rw [List.map_cons,List.pairwise_cons]
  refine ⟨fun g l=>?_,h.b.ord⟩
  obtain ⟨x,a,rfl⟩:=List.mem_map.1 l
  have:=(h.b.bk x a).lt
  show x.1<e
  omega
 ·rcases bg.1 a with rfl | a
  ·intro o
   have:=h.p.lts o
   have q:w.heap.size<=e:=k
   exact absurd this (by show ¬e<w.heap.size;omega)
  ·exact h.off x a
theorem Wk.grown {c:PC} {n:Nat} {v:VS} {l g:az} {w0 w w':ai} {L:List (Nat×List az)} {F:List Nat} {u:az} {y:List TR} (h:Wk c n v l w0 g w L) (k:OwnT c g w0 w F u y) (r:∀x∈L,x.1∈F) (d:w.grownBy w' u.ownBlock):Wk c n v l w0 g w' L:=by
 have j:∀b,u.ownBlock=some b->w0.heap.size<=b/\¬c.mine g b/\b ∉ F:=fun b a=>⟨(k.own.lt b a).1,(k.off b a).1,(k.off b a).2⟩
 have A:=h.s.size
 have B:=h.p.low
 have C:=h.p.ok.p1
 have o:∀b,b<c.B1->w'.heap[b]? = w.heap[b]?:=fun b a=>d.block b (by omega) fun e=>by
  have z:=j b e.symm
  exact absurd a (by
   have:=h.low.size
   have:=h.start0
   omega)
 have q:PsAt c n v g w':=h.p.keep d.size (fun b a=>d.block b (h.p.lts a) fun e=>(j b e.symm).2.1 a) o
 have i:Stp c l w0 g w':=⟨d.os.trans h.s.os,d.tape.trans h.s.tape,d.output.trans h.s.output,aI h.s.size d.size,fun b a t=>(d.block b (by omega) fun e=>by have:=(j b e.symm).1;omega).trans (h.s.block b a t),h.s.own⟩
 refine ⟨q,i,⟨i.os,i.tape,i.output,i.size,fun b a=>(o b a).trans (h.low.block b a)⟩,⟨fun x f=>?_,h.b.ord⟩,h.off,h.start0⟩
 rcases dm.1 f with f | f
 ·have m:=h.b.bk x (dU _ f)
  exact m.keeps (d.block _ m.lt fun e=>(j _ e.symm).2.2 (r x f))
 ·rw [aG] at f;subst f;exact q.bk
end Go.Proofs.YtlikcjbjibhjgaaGreatDoor
namespace Go.Proofs.YtlikcjbjibhjgaaGreatDoor
open Go.RowKit Hb
theorem oq {t:NextR} {s:List UInt8} (h:isP t s=true):¬t.r.kind=7:=by
 unfold isP at h;simp at h;omega
theorem jO {c:PC} {n:Nat} {v:VS} {i:az} {w:ai} (p:PsAt c n v i w) (s:ByteArray) (h:isP (c.E.at n) s.data.toList=false):aJ ah 166 #[au (some ⟨c.P,0,none⟩),aa s] w fun e w'=>e=aw (am false)/\ax w.heap.size w w':=by
 have a:=zq (kc p 0 (by decide))
 have b:=zq fun W=>jm (c.E.at n) s W
 rw [h] at b
 rw [bv] at a
 clear h p
 go_enter Tryz.func166,Tryz.ntmps166
 go_wp2_with fail
 refine a.out.mono ?_;rintro e j ⟨rfl,d⟩
 go_wp2_with fail
 refine (b.out _).mono ?_;rintro e k ⟨rfl,g⟩
 have f:=d.trans (g.mono d.size)
 go_wp2_with fail
 go_ret
 exact ⟨rfl,f⟩
theorem jk {c:PC} {n:Nat} {v:VS} {a:az} {w:ai} (p:PsAt c n v a w) (s:ByteArray) (h:isP (c.E.at n) s.data.toList=true):aJ ah 166 #[au (some ⟨c.P,0,none⟩),aa s] w fun e w'=>e=aw (am true)/\PsAt c (n+1) v a w'/\Stp c a w a w':=by
 have d:=zq (kc p 0 (by decide))
 have f:=zq fun W=>jm (c.E.at n) s W
 have m:=p.more (oq h)
 have q:=zq (nF (n:=n) (by have:=p.ok.len;omega))
 have r:=zq m
 rw [h] at f
 rw [bv] at d
 have g:=zq (Wk.start p)
 clear h p m
 go_enter Tryz.func166,Tryz.ntmps166
 go_wp2_with fail
 refine d.out.mono ?_;rintro e x ⟨rfl,k⟩
 have i:=zq (g.out.call k)
 clear k g
 go_wp2_with fail
 refine (f.out _).mono ?_;rintro e y ⟨rfl,l⟩
 have j:=zq (i.out.call l)
 clear l i
 have t:=j.out.b.all
 simp only [PC.cells,ak,an,aA,aU,bd,ap,ar,and_true] at t
 have u:=q.out
 go_wp2_with fail
 go_ret
 have o:=j.out.inc r.out
 exact ⟨rfl,o.p,o.s⟩
theorem lE {c:PC} {n:Nat} {v:VS} {b:az} {w:ai} (p:PsAt c n v b w) (s:ByteArray) (h:isP (c.E.at n) s.data.toList=false):aJ ah 165 #[au (some ⟨c.P,0,none⟩),aa s] w fun e w'=>Li c b w n e w':=by
 have f:=zq (jO p s h)
 have d:=zq fun w' (i:ax w.heap.size w w')=>sL (p.call i)
 have g:=zq (Wk.start p)
 clear h p
 go_enter Tryz.func165,Tryz.ntmps165
 go_wp2_with fail
 refine f.out.mono ?_;rintro e k ⟨rfl,a⟩
 go_wp2_with fail
 refine (d.out _ a).mono ?_;rintro e l ⟨rfl,j⟩
 exact ⟨rfl,rfl,(g.out.call a).fall j⟩
theorem kK {c:PC} {n:Nat} {v:VS} {a:az} {w:ai} (p:PsAt c n v a w) (s:ByteArray) (h:isP (c.E.at n) s.data.toList=true):aJ ah 165 #[au (some ⟨c.P,0,none⟩),aa s] w fun e w'=>e=aw (.tuple #[])/\PsAt c (n+1) v a w'/\Stp c a w a w':=by
 have i:=zq (jk p s h)
 clear h p
 go_enter Tryz.func165,Tryz.ntmps165
 go_wp2_with fail
 refine i.out.mono ?_;rintro e j ⟨rfl,b,d⟩
 have f:=zq b
 have g:=zq d
 clear b d
 go_wp2_with fail
 go_end0
 exact ⟨rfl,f.out,g.out⟩
end Go.Proofs.YtlikcjbjibhjgaaGreatDoor
