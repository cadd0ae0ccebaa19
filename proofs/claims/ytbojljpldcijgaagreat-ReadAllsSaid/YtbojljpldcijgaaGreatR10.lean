/- Parts of the proof. -/
import Derived.Test.YtbojljpldcijgaaGreatR01
import Derived.Test.YtbojljpldcijgaaGreatR02
import Derived.Test.YtbojljpldcijgaaGreatR06
import Derived.Test.YtbojljpldcijgaaGreatR08
import Derived.Test.YtbojljpldcijgaaGreatR09
import Derived.Maps.OwnSet
import Derived.Maps.Views
import Derived.StringKeys
import Derived.Carry
import Derived.BigRegion
import Derived.Test.YtbojljpldcijgaaGreatR07
import Derived.Maps.AppendAt
set_option maxHeartbeats 12800000
set_option maxRecDepth 100000
set_option linter.unusedSimpArgs false
open Go renaming Calls -> aU, Program -> dO, TypeId -> cH, Value -> aC, World -> au, heap_setCell_other -> aW, maxLen -> bF
open Go.Ending renaming returned -> aD
open Go.IntKind renaming i64 -> ab
open Go.IntWalk renaming wrap64_in -> cg
open Go.Proofs.Tryz renaming prog -> am
open Go.RowKit renaming Below -> aB
open Go.RowKit.Below renaming refl -> ap
open Go.Value renaming agg -> aV, bool -> av, int -> aa, pointer -> ar, string -> ac
open Go.World renaming cell?_alloc_new -> aF, cell?_of_block -> bd
open List renaming append_nil -> aj, cons_append -> ag, getD_eq_getElem?_getD -> bt, getElem?_eq_getElem -> bi, getElem?_eq_some_iff -> cO, getElem?_set -> dR, getElem_map -> bT, getElem_mem -> bW, length_map -> bZ, mem_append -> di, mem_append_left -> dt, mem_cons -> bh, mem_singleton -> aK, nil_append -> ai
open Nat renaming add_zero -> bj, le_refl -> ae, le_trans -> aQ, lt_of_lt_of_le -> aA, reduceAdd -> af, zero_add -> ah
namespace Hb
open Go Go.RowKit
def NumMap (P:dO) (k e:cH) (w:au) (b N:Nat) (f:List UInt8->Option Nat):Prop :=
 ∃D:DataW Unit,w.ownsMap P k (plainElem P e) b N D/\∀x,¬x=[95]->Maps.has D (.string x)=(f x).isSome/\D.atKey (.string x) (.lit (.int .i64 0))=.lit (.int .i64 (((f x).getD 0:Nat):Int))
def CntMap (P:dO) (k e:cH) (w:au) (b N:Nat) (f:Nat->Nat):Prop :=
 ∃D:DataW Unit,w.ownsMap P k (plainElem P e) b N D/\∀x:Nat,D.atKey (.int .i64 x) (.lit (.int .i64 0))=.lit (.int .i64 (f x:Int))
theorem NumMap.new (P:dO) (k e:cH) (w:au):NumMap P k e (w.alloc (.map #[] 0)) w.heap.size 0 (fun _=>none):=⟨_,World.ownsMap_made w P k _,fun _ _=>⟨rfl,rfl⟩⟩
theorem CntMap.new (P:dO) (k e:cH) (w:au):CntMap P k e (w.alloc (.map #[] 0)) w.heap.size 0 (fun _=>0):=⟨_,World.ownsMap_made w P k _,fun _=>rfl⟩
theorem NumMap.lt {P:dO} {k e:cH} {w:au} {b N:Nat} {f:List UInt8->Option Nat} (h:NumMap P k e w b N f):b<w.heap.size:=by
 obtain ⟨D,h,_⟩:=h;exact h.lt
theorem CntMap.lt {P:dO} {k e:cH} {w:au} {b N:Nat} {f:Nat->Nat} (h:CntMap P k e w b N f):b<w.heap.size:=by
 obtain ⟨D,h,_⟩:=h;exact h.lt
theorem NumMap.keep {P:dO} {k e:cH} {w w':au} {b N:Nat} {f:List UInt8->Option Nat} (h:NumMap P k e w b N f) (l:w'.heap[b]? = w.heap[b]?):NumMap P k e w' b N f:=by
 obtain ⟨D,⟨c,a,d,g,i⟩,j⟩:=h
 exact ⟨D,⟨c,a,l.trans d,g,i⟩,j⟩
theorem CntMap.keep {P:dO} {k e:cH} {w w':au} {b N:Nat} {f:Nat->Nat} (h:CntMap P k e w b N f) (l:w'.heap[b]? = w.heap[b]?):CntMap P k e w' b N f:=by
 obtain ⟨D,⟨c,a,d,g,i⟩,j⟩:=h
 exact ⟨D,⟨c,a,l.trans d,g,i⟩,j⟩
theorem NumMap.mono {P:dO} {k e:cH} {w:au} {b N a:Nat} {f:List UInt8->Option Nat} (h:NumMap P k e w b N f) (d:N<=a):NumMap P k e w b a f:=by
 obtain ⟨D,h,c⟩:=h;exact ⟨D,h.mono d,c⟩
def oL {α β:Type} [DecidableEq α] (f:α->β) (x:α) (y:β):α->β:=fun z=>if z=x then y else f z
theorem ls (x:Nat) (h:x<=1000000):(Lit.int .i64 (x:Int)).wf=true:=by
 unfold Lit.wf;rw [Bool.and_eq_true,decide_eq_true_iff,decide_eq_true_iff]
 exact ⟨by show (-9223372036854775808:Int)<=_;omega,by show _<=(9223372036854775807:Int);omega⟩
theorem NumMap.look {P:dO} {k e t:cH} {w:au} {b N:Nat} {f:List UInt8->Option Nat} (h:NumMap P k e w b N f) (j:P.underlying k=some .string) (r:P.underlying t=some (.map k e)) (i:P.underlying e=some (.int ab)) (s:ByteArray) (q:s.size<=bF) (y:(zeroValue e).run P w=.ok (aa ab 0) w) :
  ∃(c:Int) (g:Bool),(Instr.lookup t (.map (some b)) (ac s) true).run P w=.ok (.tuple #[aa ab c,av g]) w/\(¬s.data.toList=[95]->g=(f s.data.toList).isSome/\c=((f s.data.toList).getD 0:Nat)):=by
 obtain ⟨D,o,n⟩:=h
 obtain ⟨v,z,p,u⟩:=o.look_ok (Maps.string_keyed j) r y (zd:=.lit (.int .i64 0)) (zp:=[]) (plainElem_int i (by decide)) (WideMaps.keyOf_string_mk j q)
 obtain ⟨a,rfl,d,_⟩:=plainElem_int_inv i u
 refine ⟨a,_,p,fun x=>?_⟩
 obtain ⟨l,m⟩:=n _ x
 rw [m] at d
 simp only [Prod.mk.injEq,DataW.lit.injEq,Lit.int.injEq,true_and] at d
 exact ⟨l,d.1.symm⟩
theorem NumMap.put {P:dO} {k e t:cH} {w:au} {b N:Nat} {f:List UInt8->Option Nat} (h:NumMap P k e w b N f) (j:P.underlying k=some .string) (v:P.underlying t=some (.map k e)) (n:P.underlying e=some (.int ab)) (s:ByteArray) (c:Nat) (u:s.size<=bF) (p:N<bF) (m:c<=1000000) :
  ∃w',(Instr.mapUpdate t (.map (some b)) (ac s) (aa ab c)).run P w=.ok () w'/\NumMap P k e w' b (N+1) (if s.data.toList=[95] then f else oL f s.data.toList (some c))/\w.grownBy w' (some b):=by
 obtain ⟨D,d,i⟩:=h
 obtain ⟨w',r,q,o⟩:=d.update (Maps.string_keyed j) v p (WideMaps.keyOf_string_mk j u) (plainElem_int n (ls c m))
 refine ⟨w',r,⟨_,q,fun x g=>?_⟩,o⟩
 by_cases a:x=s.data.toList
 ·subst a
  rw [if_neg g,Maps.atKey_put_same d.isMap (show WideAt.IsKeyLit (.string _) from trivial),Maps.has_put_same d.isMap (show WideAt.IsKeyLit (.string _) from trivial)]
  simp [oL]
 ·have l:(Lit.string s.data.toList)≠.string x:=fun h=>a (by injection h with h;exact h.symm)
  rw [Maps.atKey_put_other (fun h=>l h.symm),Maps.has_put_other (fun h=>l h.symm)]
  split
  ·exact i x g
  ·unfold oL;rw [if_neg a];exact i x g
theorem CntMap.look {P:dO} {k e t:cH} {w:au} {b N:Nat} {f:Nat->Nat} (h:CntMap P k e w b N f) (d:P.underlying k=some (.int ab)) (m:P.underlying t=some (.map k e)) (i:P.underlying e=some (.int ab)) (x:Nat) (n:x<=1000000) (o:(zeroValue e).run P w=.ok (aa ab 0) w) :
  (Instr.lookup t (.map (some b)) (aa ab x) false).run P w=.ok (aa ab (f x:Int)) w:=by
 obtain ⟨D,j,g⟩:=h
 obtain ⟨c,l,a,_⟩:=j.lookup_int (Maps.int_keyed d) m i o (Maps.keyOf_int_mk d (ls x n))
 rw [g] at a
 simp only [DataW.lit.injEq,Lit.int.injEq,true_and] at a
 rw [l,<-a]
theorem CntMap.put {P:dO} {k e t:cH} {w:au} {b N:Nat} {f:Nat->Nat} (h:CntMap P k e w b N f) (d:P.underlying k=some (.int ab)) (q:P.underlying t=some (.map k e)) (l:P.underlying e=some (.int ab)) (x c:Nat) (r:x<=1000000) (n:N<bF) (j:c<=1000000) :
  ∃w',(Instr.mapUpdate t (.map (some b)) (aa ab x) (aa ab c)).run P w=.ok () w'/\CntMap P k e w' b (N+1) (oL f x c)/\w.grownBy w' (some b):=by
 obtain ⟨D,g,i⟩:=h
 obtain ⟨w',p,o,m⟩:=g.update (Maps.int_keyed d) q n (Maps.keyOf_int_mk d (ls x r)) (plainElem_int l (ls c j))
 refine ⟨w',p,⟨_,o,fun y=>?_⟩,m⟩
 by_cases a:y=x
 ·subst a
  rw [Maps.atKey_put_same g.isMap (show WideAt.IsKeyLit (.int _ _) from trivial)]
  simp [oL]
 ·rw [Maps.atKey_put_other (fun h=>a (by injection h with _ h;omega)),i]
  unfold oL;rw [if_neg a]
def oJ (w:au) (g:Nat) (T:List NextR):Prop:=∀j (h:j<T.length) i v,(jz T[j])[i]? = some v->w.cell? ⟨g,j * 6+i,none⟩=some v
def eE (m:List (List UInt8×Nat)):List aC:=m.flatMap fun p=>[ac ⟨p.1.toArray⟩,aa ab (p.2:Int)]
structure PC where
 B0:Nat
 B1:Nat
 lo:Nat
 P:Nat
 V:Nat
 O:Nat
 g:Nat
 tc:Nat
 OA:Option Addr
 on:Nat
 oc:Nat
 E:RE
def PC.cells (c:PC) (n:Nat) (v:VS) (a:aC):List aC:=[.slice (some ⟨c.g,0,none⟩) c.E.T.length c.tc,aa ab (n:Int),.slice c.OA c.on c.oc,aa ab c.E.q,.map (some c.V),.map (some c.O),aa ab (v.c:Int),a]
structure PC.Ok (c:PC):Prop where
 b01:c.B0<=c.B1
 p1:c.B1<=c.P/\c.P<c.lo
 v1:c.B1<=c.V/\c.V<c.lo
 o1:c.B1<=c.O/\c.O<c.lo
 pv:c.P≠c.V
 po:c.P≠c.O
 vo:c.V≠c.O
 gl:c.g<c.B1
 len:c.E.T.length<=20000
 pos:0<c.E.T.length
 tcap:c.E.T.length<=c.tc
 opl:c.on=c.E.P.length
 few:c.on<=100
 ob:0<c.E.P.length->∀b off,c.OA=some ⟨b,off,none⟩->b<c.B1
 endk:(c.E.at (c.E.T.length-1)).r.kind=7
 txt:∀t∈c.E.T,t.r.text.length<=20000 /\ -9223372036854775808<=t.r.n/\t.r.n<=9223372036854775807
 nms:∀t∈c.E.T,fa t=true->t.r.text.length<=100
def PC.mine (c:PC) (a:aC) (b:Nat):Prop:=b=c.P\/b=c.V\/b=c.O\/a.ownBlock=some b
end Hb
namespace Go.Proofs.YtbojljpldcijgaaGreat
open Go.RowKit Hb
structure PsAt (c:PC) (n:Nat) (v:VS) (nv:aC) (w:au):Prop where
 ok:c.Ok
 low:c.lo<=w.heap.size
 bk:Bk w c.P (c.cells n v nv)
 tk:oJ w c.g c.E.T
 ops:OpsAt w c.OA c.E.P
 vm:NumMap am 9 2 w c.V v.o.length v.look
 om:CntMap am 2 3 w c.O v.o.length (fun x=>v.o.count x)
 nm:w.ownsRow c.lo 44 2 nv v.m.length (eE v.m)
 n1:n<c.E.T.length
 vn:v.o.length<=n
 vc:v.Ok
structure Stp (c:PC) (nv:aC) (w:au) (nv':aC) (w':au):Prop where
 os:w'.os=w.os
 tape:w'.tape=w.tape
 output:w'.output=w.output
 size:w.heap.size<=w'.heap.size
 block:∀b,b<w.heap.size->¬c.mine nv b->w'.heap[b]? = w.heap[b]?
 own:∀b,nv'.ownBlock=some b->nv.ownBlock=some b\/w.heap.size<=b
theorem Stp.trans {c:PC} {i j l:aC} {a b d:au} (h:Stp c i a j b) (k:Stp c j b l d):Stp c i a l d where
 os:=k.os.trans h.os
 tape:=k.tape.trans h.tape
 output:=k.output.trans h.output
 size:=aQ h.size k.size
 block:=fun x f g=>(k.block x (aA f h.size) (fun e=>g (by
  rcases e with e | e | e | e
  ·exact .inl e
  ·exact .inr (.inl e)
  ·exact .inr (.inr (.inl e))
  ·rcases h.own x e with e | e
   ·exact .inr (.inr (.inr e))
   ·omega))).trans (h.block x f g)
 own:=fun x f=>by
  rcases k.own x f with e | e
  ·exact h.own x e
  ·exact .inr (aQ h.size e)
theorem Stp.of {c:PC} {d:aC} {a b:au} (h:aB a.heap.size a b):Stp c d a d b:=⟨h.os,h.tape,h.output,h.size,fun k e _=>h.block k e,fun _ h=>.inl h⟩
theorem Stp.refl (c:PC) (a:aC) (w:au):Stp c a w a w:=.of (ap _ _)
theorem Stp.low {c:PC} {n:Nat} {v:VS} {a b:aC} {w w':au} (h:Stp c a w b w') (p:PsAt c n v a w):aB c.B1 w w':=⟨h.os,h.tape,h.output,h.size,fun k i=>h.block k (by have:=p.low;have:=p.ok.p1;omega) (fun e=>by
 have d:=p.ok.p1;have f:=p.ok.v1;have g:=p.ok.o1
 rcases e with e | e | e | e
 ·omega
 ·omega
 ·omega
 ·have:=(p.nm.lt k e).1;omega)⟩
theorem PsAt.lts {c:PC} {n:Nat} {v:VS} {a:aC} {w:au} (p:PsAt c n v a w) {b:Nat} (h:c.mine a b):b<w.heap.size:=by
 have d:=p.ok.p1;have f:=p.ok.v1;have g:=p.ok.o1;have:=p.low
 rcases h with e | e | e | e
 ·omega
 ·omega
 ·omega
 ·exact (p.nm.lt b e).2
theorem fN {w w':au} {g:Nat} {T:List NextR} (h:oJ w g T) (b:w'.heap[g]? = w.heap[g]?):oJ w' g T:=fun j c i v d=>(bd (a:=⟨g,_,none⟩) b).trans (h j c i v d)
theorem ii {w w':au} {A:Option Addr} {l:List OpR} (h:OpsAt w A l) (n:w.heap.size<=w'.heap.size) (i:0<l.length->∀b a,A=some ⟨b,a,none⟩->w'.heap[b]? = w.heap[b]?):OpsAt w' A l:=fun j k=>by
 obtain ⟨b,a,e,m,d,f,g⟩:=h j k
 have c:∀o,w'.cell? ⟨b,o,none⟩=w.cell? ⟨b,o,none⟩:=fun o=>bd (i (by omega) b a e)
 exact ⟨b,a,e,aA m n,(c _).trans d,(c _).trans f,(c _).trans g⟩
theorem dJ {w w':au} {a e size:Nat} {v:aC} {n:Nat} {xs:List aC} (h:w.ownsRow a e size v n xs) (f:∀k,v.ownBlock=some k->w'.heap[k]? = w.heap[k]?):w'.ownsRow a e size v n xs:=by
 refine ⟨h.1,?_⟩
 rcases h.2 with l | ⟨g,c,d,b,i,j,m⟩
 ·exact .inl l
 ·exact .inr ⟨g,c,d,b,i,(f g (by rw [b];rfl)).trans j,m⟩
theorem PsAt.call {c:PC} {n:Nat} {v:VS} {a:aC} {w w':au} (p:PsAt c n v a w) (h:aB w.heap.size w w'):PsAt c n v a w' where
 ok:=p.ok
 low:=aQ p.low h.size
 bk:=p.bk.call h
 tk:=fN p.tk (h.block _ (by have:=p.ok.gl;have:=p.ok.p1;have:=p.low;omega))
 ops:=p.ops.below h
 vm:=p.vm.keep (h.block _ p.vm.lt)
 om:=p.om.keep (h.block _ p.om.lt)
 nm:=dJ p.nm fun k b=>h.block k (p.nm.lt k b).2
 n1:=p.n1
 vn:=p.vn
 vc:=p.vc
theorem PsAt.next {c:PC} {n:Nat} {v:VS} {f:aC} {w:au} (p:PsAt c n v f w) (k:Nat) (g:n<=k) (h:k<c.E.T.length):PsAt c k v f (w.setCell ⟨c.P,1,none⟩ (aa ab (k:Int))):=by
 have a:∀b,b≠c.P->(w.setCell ⟨c.P,1,none⟩ (aa ab (k:Int))).heap[b]? = w.heap[b]?:=fun b d=>aW _ _ _ _ d
 have l:=p.ok.p1
 refine ⟨p.ok,by simpa using p.low,p.bk.set 1 _,fN p.tk (a _ (by have:=p.ok.gl;omega)),ii p.ops (by simp) (fun i b j e=>a b (by have:=p.ok.ob i b j e;omega)),p.vm.keep (a _ (fun e=>p.ok.pv e.symm)),p.om.keep (a _ (fun e=>p.ok.po e.symm)),dJ p.nm (fun b d=>a b (by have:=(p.nm.lt b d).1;omega)),h,aQ p.vn g,p.vc⟩
theorem Stp.put {c:PC} {d f:aC} {w w':au} (h:Stp c d w f w') (i:Nat) (u:aC):Stp c d w f (w'.setCell ⟨c.P,i,none⟩ u) where
 os:=h.os
 tape:=h.tape
 output:=h.output
 size:=by simpa using h.size
 block:=fun b g a=>(aW _ _ _ _ (fun e=>a (.inl e))).trans (h.block b g a)
 own:=h.own
structure Wk (c:PC) (n:Nat) (v:VS) (nv0:aC) (w0:au) (nv:aC) (w:au) (L:List (Nat×List aC)):Prop where
 p:PsAt c n v nv w
 s:Stp c nv0 w0 nv w
 low:aB c.B1 w0 w
 b:Bks w (L++[(c.P,c.cells n v nv)])
 off:∀x∈L,¬c.mine nv x.1
 start0:c.B1<=w0.heap.size
theorem Wk.start {c:PC} {n:Nat} {v:VS} {b:aC} {w:au} (p:PsAt c n v b w):Wk c n v b w b w [] :=
 ⟨p,.refl _ _ _,.refl _ _,⟨fun x a=>by rw [ai,aK] at a;subst a;exact p.bk,List.pairwise_singleton _ _⟩,fun x a=>(by cases a),by have:=p.low;have:=p.ok.p1;omega⟩
theorem Wk.call {c:PC} {n:Nat} {v:VS} {e d:aC} {w0 w w':au} {L:List (Nat×List aC)} (h:Wk c n v e w0 d w L) (a:aB w.heap.size w w'):Wk c n v e w0 d w' L :=
 ⟨h.p.call a,h.s.trans (.of a),h.low.trans (a.mono (by have:=h.p.low;have:=h.p.ok.p1;omega)),h.b.call a,h.off,h.start0⟩
theorem Wk.new {c:PC} {n:Nat} {v:VS} {j i:aC} {w0 w:au} {L:List (Nat×List aC)} (h:Wk c n v j w0 i w L) (vs:List aC) (e:cH) {g:Nat} (f:w.heap.size=g):Wk c n v j w0 i (w.alloc (.cells vs.toArray e)) ((g,vs)::L):=by
 have a:=h.call ((ap w.heap.size w).alloc (ae _) (.cells vs.toArray e))
 refine ⟨a.p,a.s,a.low,h.b.new vs e f,fun x d=>?_,h.start0⟩
 rcases bh.1 d with rfl | d
 ·intro k
  have:=h.p.lts k
  have:w.heap.size=g:=f
  simp only at *
  omega
 ·exact h.off x d
theorem Wk.turn {c:PC} {n f:Nat} {v i:VS} {d g:aC} {w w':au} {L:List (Nat×List aC)} (h:Bks w (L++[(c.P,c.cells n v d)])) (k:∀x∈L,¬c.mine d x.1) (p:PsAt c f i g w') (j:∀b,b<w.heap.size->¬c.mine d b->w'.heap[b]? = w.heap[b]?):Bks w' (L++[(c.P,c.cells f i g)]):=by
 refine ⟨fun x a=>?_,?_⟩
 ·rcases di.1 a with a | a
  ·have e:=h.bk x (dt _ a)
   exact e.keeps (j _ e.lt (k x a))
  ·rw [aK] at a;subst a;exact p.bk
 ·have:=h.ord
  rw [List.map_append] at this |-
  exact this
theorem Wk.step {c:PC} {n f:Nat} {v j:VS} {i g a:aC} {w0 w w':au} {L:List (Nat×List aC)} (h:Wk c n v i w0 g w L) (p:PsAt c f j a w') (s:Stp c g w a w'):Wk c f j i w0 a w' L :=
 ⟨p,h.s.trans s,h.low.trans (s.low h.p),Wk.turn h.b h.off p s.block,fun x d k=>h.off x d (by
  rcases k with e | e | e | e
  ·exact .inl e
  ·exact .inr (.inl e)
  ·exact .inr (.inr (.inl e))
  ·rcases s.own x.1 e with e | e
   ·exact .inr (.inr (.inr e))
   ·have:=(h.b.bk x (dt _ d)).lt;omega),h.start0⟩
theorem Wk.next {c:PC} {n:Nat} {v:VS} {b a:aC} {w0 w:au} {L:List (Nat×List aC)} (h:Wk c n v b w0 a w L) (k:Nat) (d:n<=k) (e:k<c.E.T.length):Wk c k v b w0 a (w.setCell ⟨c.P,1,none⟩ (aa ab (k:Int))) L :=
 h.step (h.p.next k d e) ((Stp.refl c a w).put 1 _)
theorem Wk.put {c:PC} {n:Nat} {v:VS} {q d:aC} {w0 w:au} {L:List (Nat×List aC)} (h:Wk c n v q w0 d w L) (j i:Nat) {g:Nat} {vs:List aC} (f:L[j]? = some (g,vs)) (u:aC) (C:w0.heap.size<=g):Wk c n v q w0 d (w.setCell ⟨g,i,none⟩ u) (L.set j (g,vs.set i u)):=by
 have m:=List.mem_of_getElem? f
 have t:¬c.mine d g:=h.off _ m
 have k:∀b,c.mine d b->(w.setCell ⟨g,i,none⟩ u).heap[b]? = w.heap[b]?:=fun b a=>aW _ _ _ _ (fun e=>t (by have r:b=g:=e;rw [<-r];exact a))
 have A:c.B1<=g:=aQ h.start0 C
 have B:PsAt c n v d (w.setCell ⟨g,i,none⟩ u):=by
  have G:=h.p.ok.p1
  have o:∀b,b<c.B1->(w.setCell ⟨g,i,none⟩ u).heap[b]? = w.heap[b]?:=fun b a=>aW _ _ _ _ (show b≠g by omega)
  exact ⟨h.p.ok,by simpa using h.p.low,h.p.bk.keeps (k _ (.inl rfl)),fN h.p.tk (o _ h.p.ok.gl),ii h.p.ops (by simp) (fun z b F e=>o b (h.p.ok.ob z b F e)),h.p.vm.keep (k _ (.inr (.inl rfl))),h.p.om.keep (k _ (.inr (.inr (.inl rfl)))),dJ h.p.nm (fun b a=>k b (.inr (.inr (.inr a)))),h.p.n1,h.p.vn,h.p.vc⟩
 refine ⟨B,⟨h.s.os,h.s.tape,h.s.output,by simpa using h.s.size,fun b a m=>(aW _ _ _ _ (show b≠g by omega)).trans (h.s.block b a m),h.s.own⟩,h.low.setCell (p:=⟨g,i,none⟩) A u,?_,fun x D=>?_,h.start0⟩
 ·have:=h.b.set (l:=L++[(c.P,c.cells n v d)]) j i (g:=g) (vs:=vs) (by rw [List.getElem?_append_left (cO.1 f).1];exact f) u
  rwa [List.set_append_left _ _ (cO.1 f).1] at this
 ·obtain ⟨y,E,e⟩:=oT (vs.set i u) f x D
  rw [<-e];exact h.off y E
theorem PsAt.more {c:PC} {n:Nat} {v:VS} {b:aC} {w:au} (p:PsAt c n v b w) (h:¬(c.E.at n).r.kind=7):n+1<c.E.T.length:=by
 have:=p.n1
 rcases Nat.lt_or_ge (n+1) c.E.T.length with a | a
 ·exact a
 ·exact absurd (by have:=p.ok.endk;rwa [show c.E.T.length-1=n by omega] at this) h
theorem Wk.inc {c:PC} {n:Nat} {v:VS} {b a:aC} {w0 w:au} {L:List (Nat×List aC)} (h:Wk c n v b w0 a w L) (d:n+1<c.E.T.length):Wk c (n+1) v b w0 a (w.setCell ⟨c.P,1,none⟩ (aa ab ((n:Int)+1))) L:=h.next (n+1) (Nat.le_succ n) d
theorem jd {n:Nat} (h:n<=1000000):wrap64 ((n:Int)+1)=(n:Int)+1:=cg _ (by omega)
theorem Wk.put4 {c:PC} {n:Nat} {v:VS} {m l:aC} {w0 w:au} {L:List (Nat×List aC)} (h:Wk c n v m w0 l w L) (j:Nat) {g:Nat} {u0 u1 u2 u3:aC} (k:L[j]? = some (g,[u0,u1,u2,u3])) (a b e i:aC) (d:w0.heap.size<=g) :
  Wk c n v m w0 l ((((w.setCell ⟨g,0,none⟩ a).setCell ⟨g,1,none⟩ b).setCell ⟨g,2,none⟩ e).setCell ⟨g,3,none⟩ i) (L.set j (g,[a,b,e,i])):=by
 have f:j<L.length:=(cO.1 k).1
 have o:=h.put j 0 k a d
 have p:=o.put j 1 (g:=g) (vs:=[a,u1,u2,u3]) (by rw [dR];simp [f]) b d
 have q:=p.put j 2 (g:=g) (vs:=[a,b,u2,u3]) (by rw [dR];simp [f]) e d
 have r:=q.put j 3 (g:=g) (vs:=[a,b,e,u3]) (by rw [dR];simp [f]) i d
 simpa using r
theorem Wk.tl {c:PC} {n:Nat} {v:VS} {d a:aC} {w0 w:au} {x:Nat×List aC} {L:List (Nat×List aC)} (h:Wk c n v d w0 a w (x::L)):Wk c n v d w0 a w L:=⟨h.p,h.s,h.low,h.b.tl,fun y e=>h.off y (List.mem_cons_of_mem _ e),h.start0⟩
def kk (t:NextR):aC:=aV #[aa ab t.r.kind,ac t.txt,aa ab t.r.n,aa ab t.r.at_,aa ab t.r.end_,av t.lay]
def Fall (c:PC) (a:aC) (w0 w:au):Prop:=aB c.B1 w0 w/\∃nv',Stp c a w0 nv' w
theorem Wk.fall {c:PC} {n:Nat} {v:VS} {b a:aC} {w0 w w':au} {L:List (Nat×List aC)} (h:Wk c n v b w0 a w L) (f:Fall c a w w'):Fall c b w0 w':=by
 obtain ⟨d,s⟩:=f.2
 exact ⟨h.low.trans f.1,d,h.s.trans s⟩
theorem Fall.of {c:PC} {n:Nat} {v:VS} {a:aC} {w w':au} (p:PsAt c n v a w) (h:aB w.heap.size w w'):Fall c a w w':=⟨h.mono (by have:=p.low;have:=p.ok.p1;omega),a,.of h⟩
def AG (c:PC) (a:aC) (w0:au) (k:Nat) (e:Ending) (w:au):Prop:=e=.panicked [{ v:=.iface 102 (aV #[aa ab (c.E.at k).r.at_]),recovered:=false }]/\Fall c a w0 w
end Go.Proofs.YtbojljpldcijgaaGreat
namespace Go.Proofs.YtbojljpldcijgaaGreat
open Go.RowKit Hb
theorem zF {c:PC} {n:Nat} {v:VS} {d:aC} {w:au} (p:PsAt c n v d w) (k:Nat):∃j,j<c.E.T.length/\j=min (n+k) (c.E.T.length-1) /\
  w.cell? ⟨c.g,j * 6,none⟩=some (aa ab (c.E.at (n+k)).r.kind)/\w.cell? ⟨c.g,j * 6+1,none⟩=some (ac (c.E.at (n+k)).txt)/\w.cell? ⟨c.g,j * 6+2,none⟩=some (aa ab (c.E.at (n+k)).r.n)/\w.cell? ⟨c.g,j * 6+3,none⟩=some (aa ab (c.E.at (n+k)).r.at_)/\w.cell? ⟨c.g,j * 6+4,none⟩=some (aa ab (c.E.at (n+k)).r.end_)/\w.cell? ⟨c.g,j * 6+5,none⟩=some (av (c.E.at (n+k)).lay):=by
 have e:=p.ok.pos
 have a:min (n+k) (c.E.T.length-1)<c.E.T.length:=by omega
 have b:c.E.at (n+k)=c.E.T[min (n+k) (c.E.T.length-1)]:=by
  unfold RE.at lJ
  rw [bt,bi a];rfl
 refine ⟨_,a,rfl,?_⟩
 rw [b]
 have h:=p.tk _ a
 exact ⟨h 0 _ rfl,h 1 _ rfl,h 2 _ rfl,h 3 _ rfl,h 4 _ rfl,h 5 _ rfl⟩
theorem eM (s:ByteArray):s.toList=s.data.toList:=jW s
theorem yU (t:NextR) (s:ByteArray):dp t s.data.toList=(t.r.kind==6&&t.txt.toList==s.toList):=by
 rw [eM,eM];rfl
theorem Cx {n k len j:Nat} (c:n+k<=100000) (d:0<len) (b:len<=20000) (a:j=min (n+k) (len-1)):min (wrap64 ((n:Int)+(k:Int))) (wrap64 ((len:Int)-1))=(j:Int):=by
 rw [cg _ (by omega),cg _ (by omega)]
 omega
theorem iW {c:PC} {n:Nat} {v:VS} {l:aC} {w:au} (p:PsAt c n v l w) (k:Nat) (i:k<=1):aU am 35 #[ar (some ⟨c.P,0,none⟩),aa ab (k:Int)] w fun e w'=>e=aD (kk (c.E.at (n+k)))/\aB w.heap.size w w':=by
 have a:=(Wk.start p).new [aa ab 0,ac ⟨#[]⟩,aa ab 0,aa ab 0,aa ab 0,av false] 76 rfl
 have g:Hid (aB w.heap.size w (w.alloc (.cells #[aa ab 0,ac ⟨#[]⟩,aa ab 0,aa ab 0,aa ab 0,av false] 76))):=zq ((ap _ _).alloc (ae _) _)
 obtain ⟨j,h,f,s,u,x,y,z,A⟩:=zF a.p k
 have m:=Cx (len:=c.E.T.length) (by have:=p.n1;have:=p.ok.len;omega) p.ok.pos p.ok.len f
 have o:(0:Int)<=(j:Int):=by omega
 have q:(j:Int)<(c.E.T.length:Int):=by omega
 have d:=a.b.all
 simp only [PC.cells,ag,ai,aj,aH,aP,ah,af,and_true] at d
 generalize c.E.at (n+k)=t at *
 generalize c.E.T.length=len at *
 clear a p f h i
 unfold kk
 go_enter Tryz.func35,Tryz.ntmps35
 go_wp2_with fail
 go_region
 all_goals
  go_wp2_with fail
  refine bodyPost_ret (v:=aV #[aa ab t.r.kind,ac t.txt,aa ab t.r.n,aa ab t.r.at_,aa ab t.r.end_,av t.lay]) (by simp [results,Tryz.results35,go_sem,d]) rfl ⟨rfl,?_⟩
  repeat (first | (with_reducible exact g.out) | (with_reducible exact ap _ _) | (with_reducible refine Below.setCell ?_ (by simp) _) | (with_reducible refine Below.alloc ?_ (by simp) _) | (with_reducible refine Below.drew ?_))
theorem iu (t:NextR) (s:ByteArray) (w:au):aU am 141 #[kk t,ac s] w fun e w'=>e=aD (av (dp t s.data.toList))/\aB w.heap.size w w':=by
 have c:=zq ((ap w.heap.size w).alloc (ae _) (.cells #[aa ab t.r.kind,ac t.txt,aa ab t.r.n,aa ab t.r.at_,aa ab t.r.end_,av t.lay] 76))
 have d:Hid (dp t s.data.toList=(t.r.kind==6&&t.txt.toList==s.toList)):=zq (yU t s)
 rw [d.out]
 unfold kk
 generalize t.txt=x at *
 by_cases a:t.r.kind=6
 ·have b:(t.r.kind==6)=true:=by simpa using a
  rw [b]
  clear a
  go_enter Tryz.func141,Tryz.ntmps141
  go_wp2_with fail
  go_ret
  exact ⟨by simp,c.out⟩
 ·have b:(t.r.kind==6)=false:=by simpa using a
  rw [b]
  clear a
  go_enter Tryz.func141,Tryz.ntmps141
  go_wp2_with fail
  go_ret
  exact ⟨rfl,c.out⟩
theorem oV (t:NextR) (w:au):aU am 143 #[kk t] w fun e w'=>e=aD (av (fa t))/\aB w.heap.size w w':=by
 have c:=zq ((ap w.heap.size w).alloc (ae _) (.cells #[aa ab t.r.kind,ac t.txt,aa ab t.r.n,aa ab t.r.at_,aa ab t.r.end_,av t.lay] 76))
 unfold kk fa
 by_cases a:t.r.kind=1
 ·have b:(t.r.kind==1)=true:=by simpa using a
  rw [b]
  clear a
  go_enter Tryz.func143,Tryz.ntmps143
  go_wp2_with fail
  go_ret
  exact ⟨rfl,c.out⟩
 ·have b:(t.r.kind==1)=false:=by simpa using a
  rw [b]
  clear a
  go_enter Tryz.func143,Tryz.ntmps143
  go_wp2_with fail
  go_ret
  exact ⟨rfl,c.out⟩
theorem sY (t:NextR) (w:au):aU am 198 #[kk t] w fun e w'=>e=aD (av (qW t))/\aB w.heap.size w w':=by
 have a:=zq ((ap w.heap.size w).alloc (ae _) (.cells #[aa ab t.r.kind,ac t.txt,aa ab t.r.n,aa ab t.r.at_,aa ab t.r.end_,av t.lay] 76))
 have c:=zq fun W=>iu t ⟨#[40]⟩ W
 have d:=zq ((Bks.nil w).new [aa ab t.r.kind,ac t.txt,aa ab t.r.n,aa ab t.r.at_,aa ab t.r.end_,av t.lay] 76 rfl)
 unfold kk qW at *
 have g:dp t (⟨#[40]⟩:ByteArray).data.toList=dp t [40]:=rfl
 rw [g] at c
 generalize dp t [40]=b at *
 clear g
 cases b
 all_goals
  have f:=d.out.all
  simp only [PC.cells,ag,ai,aj,aH,aP,ah,af,and_true] at f
  go_enter Tryz.func198,Tryz.ntmps198
  go_wp2_with fail
  refine (c.out _).mono ?_;rintro e k ⟨rfl,h⟩
  have i:=(d.out.call h).all
  simp only [PC.cells,ag,ai,aj,aH,aP,ah,af,and_true] at i
  clear f
  have j:=a.out.trans (h.mono a.out.size)
  go_wp2_with fail
  go_ret
  exact ⟨rfl,j⟩
theorem iV (s:ByteArray) (A:Option Addr) (n a:Nat) (w:au):aU am 97 #[ac s,.slice A n a] w fun e w'=>e=aD (aV #[aa ab 3,aa ab 0,ac s,.slice A n a])/\aB w.heap.size w w':=by
 have b:=zq ((ap w.heap.size w).alloc (ae _) (.cells #[aa ab 3,aa ab 0,ac s,.slice A n a] 30))
 go_enter Tryz.func97,Tryz.ntmps97
 go_wp2_with fail
 exact bodyPost_ret (v:=aV #[aa ab 3,aa ab 0,ac s,.slice A n a]) (by simp [results,Tryz.results97,go_sem]) rfl ⟨rfl,b.out⟩
theorem oW {c:PC} {n:Nat} {v:VS} {b:aC} {w:au} (p:PsAt c n v b w):aU am 57 #[ar (some ⟨c.P,0,none⟩)] w fun e w'=>AG c b w n e w':=by
 have a:=zq (iW p 0 (by decide))
 have d:Hid (∀w',aB w.heap.size w w'->AG c b w n (.panicked [{ v:=.iface 102 (aV #[aa ab (c.E.at n).r.at_]),recovered:=false }]) w'):=zq fun w' h=>⟨rfl,Fall.of p h⟩
 rw [bj] at a
 unfold kk at a
 generalize c.E.at n=t at *
 clear p
 have g:∀W,(Instr.field 76 (aV #[aa ab t.r.kind,ac t.txt,aa ab t.r.n,aa ab t.r.at_,aa ab t.r.end_,av t.lay]) 3).run am W=.ok (aa ab t.r.at_) W:=fun W=>by kernel_rfl
 go_enter Tryz.func57,Tryz.ntmps57
 go_wp2_with fail
 refine a.out.mono ?_;rintro e i ⟨rfl,f⟩
 go_wp2_with fail
 exact ⟨rfl,d.out _ f⟩
end Go.Proofs.YtbojljpldcijgaaGreat
namespace Hb
open Go Go.RowKit
theorem mY {K K':Nat->Prop} {w:au} (e:cH) (rs:List TR) (i:rs.length<=bF) (h:K w.heap.size) (g:∀b,K' b->K b/\b<w.heap.size) (l:∀r∈rs,TmsK K' w r.2.1 r.1.args):TmsK K (w.alloc (.cells (dM rs).toArray e)) (some ⟨w.heap.size,0,none⟩) (rs.map (·.1)):=by
 have c:∀k u,(dM rs)[k]? = some u->(w.alloc (.cells (dM rs).toArray e)).cell? ⟨w.heap.size,0+k,none⟩=some u:=fun k u m=>by
  rw [ah,aF];simpa using m
 refine .mk _ _ (fun j=>(rs.getD j (sC,none,0)).2.1) (fun j=>(rs.getD j (sC,none,0)).2.2) (by rw [bZ];exact i) (fun j a=>?_) (fun j a=>?_)
 ·rw [bZ] at a
  obtain ⟨n,o,p,q⟩:=kM rs j a
  have d:rs.getD j (sC,none,0)=rs[j]:=by rw [bt,bi a];rfl
  refine ⟨w.heap.size,0,rfl,h,?_,?_,?_,?_⟩
  ·rw [bT];exact c _ _ n
  ·rw [bT];exact c _ _ o
  ·rw [bT];exact c _ _ p
  ·rw [bT];simp only [d];exact c _ _ q
 ·rw [bZ] at a
  have d:rs.getD j (sC,none,0)=rs[j]:=by rw [bt,bi a];rfl
  rw [bT];simp only [d]
  exact (l _ (bW a)).keep (fun b f=>heap_alloc_old w _ (g b f).2) (fun b f=>(g b f).1)
end Hb
namespace Go.Proofs.YtbojljpldcijgaaGreat
open Go.RowKit Hb
def _root_.Hb.PC.new (c:PC) (a:aC) (w0 w:au) (b:Nat):Prop:=w0.heap.size<=b/\b<w.heap.size/\¬c.mine a b
theorem sh {c:PC} {a d:aC} {w0 w w':au} (s:Stp c a w d w') {b:Nat} (h:c.new a w0 w b):c.new d w0 w' b:=⟨h.1,aA h.2.1 s.size,fun e=>h.2.2 (by
 rcases e with e | e | e | e
 ·exact .inl e
 ·exact .inr (.inl e)
 ·exact .inr (.inr (.inl e))
 ·rcases s.own b e with e | e
  ·exact .inr (.inr (.inr e))
  ·have:=h.2.1;omega)⟩
def Trm (c:PC) (a:aC) (w0 w:au) (F:List Nat) (A:Option Addr) (l:List Tm):Prop:=TmsK (fun b=>c.new a w0 w b/\b ∉ F) w A l
theorem Trm.step {c:PC} {d e:aC} {w0 w w':au} {F:List Nat} {A:Option Addr} {l:List Tm} (h:Trm c d w0 w F A l) (s:Stp c d w e w'):Trm c e w0 w' F A l :=
 h.keep (fun b a=>s.block b a.1.2.1 a.1.2.2) fun _ a=>⟨sh s a.1,a.2⟩
theorem Trm.call {c:PC} {a:aC} {w0 w w':au} {F:List Nat} {A:Option Addr} {l:List Tm} (h:Trm c a w0 w F A l) (b:aB w.heap.size w w'):Trm c a w0 w' F A l:=h.step (.of b)
theorem Trm.new {c:PC} {d:aC} {w0 w:au} {F:List Nat} {A:Option Addr} {l:List Tm} (h:Trm c d w0 w F A l) (o:Obj) {g:Nat} (f:w.heap.size=g):Trm c d w0 (w.alloc o) (g::F) A l :=
 TmsK.keep h (fun b a=>((ap w.heap.size w).alloc (ae _) o).block b a.1.2.1) fun b a=>⟨⟨a.1.1,aA a.1.2.1 (by simp),a.1.2.2⟩,fun e=>by
  rcases bh.1 e with e | e
  ·have:=a.1.2.1;omega
  ·exact a.2 e⟩
theorem Trm.put {c:PC} {d:aC} {w0 w w':au} {F:List Nat} {A:Option Addr} {l:List Tm} (h:Trm c d w0 w F A l) {g:Nat} (i:g∈F) (f:∀k,k≠g->w'.heap[k]? = w.heap[k]?) (j:w.heap.size<=w'.heap.size):Trm c d w0 w' F A l :=
 TmsK.keep h (fun b a=>f b (fun e=>a.2 (e ▸ i))) fun _ a=>⟨⟨a.1.1,aA a.1.2.1 j,a.1.2.2⟩,a.2⟩
theorem Trm.fewer {c:PC} {d:aC} {w0 w:au} {F F':List Nat} {A:Option Addr} {l:List Tm} (h:Trm c d w0 w F A l) (f:∀b∈F',b∈F):Trm c d w0 w F' A l:=TmsK.keep h (fun _ _=>rfl) fun b a=>⟨a.1,fun e=>a.2 (f b e)⟩
theorem Trm.sub {c:PC} {f:aC} {w0 d w:au} {F:List Nat} {A:Option Addr} {l:List Tm} (h:TmsK (c.new f d w) w A l) (i:w0.heap.size<=d.heap.size) (g:∀b∈F,b<d.heap.size):Trm c f w0 w F A l :=
 TmsK.keep h (fun _ _=>rfl) fun b a=>⟨⟨aQ i a.1,a.2⟩,fun e=>by have:=g b e;have:=a.1;omega⟩
theorem Trm.out {c:PC} {a:aC} {w0 w:au} {F:List Nat} {A:Option Addr} {l:List Tm} (h:Trm c a w0 w F A l):TmsK (c.new a w0 w) w A l:=TmsK.keep h (fun _ _=>rfl) fun _ b=>b.1
theorem Trm.row {c:PC} {n:Nat} {v:VS} {f:aC} {w0 w:au} {F:List Nat} (p:PsAt c n v f w) (i:w0.heap.size<=w.heap.size) (g:∀b∈F,b<w.heap.size) (e:cH) (rs:List TR) (d:rs.length<=bF) (h:∀r∈rs,Trm c f w0 w F r.2.1 r.1.args):Trm c f w0 (w.alloc (.cells (dM rs).toArray e)) F (some ⟨w.heap.size,0,none⟩) (rs.map (·.1)):=by
 refine mY (K':=fun b=>c.new f w0 w b/\b ∉ F) e rs d ⟨⟨i,by simp,fun d=>?_⟩,fun d=>?_⟩ (fun b a=>⟨⟨⟨a.1.1,aA a.1.2.1 (by simp),a.1.2.2⟩,a.2⟩,a.1.2.1⟩) h
 ·have:=p.lts d;omega
 ·have:=g _ d;omega
structure OwnT (c:PC) (nv:aC) (w0 w:au) (F:List Nat) (v:aC) (rs:List TR):Prop where
 own:w.ownsRow w0.heap.size 30 4 v rs.length (dM rs)
 off:∀g,v.ownBlock=some g->¬c.mine nv g/\g ∉ F
 sub:∀r∈rs,TmsK (fun b=>(c.new nv w0 w b/\b ∉ F)/\v.ownBlock≠some b) w r.2.1 r.1.args
theorem OwnT.nul (c:PC) (b:aC) (w0 w:au) (F:List Nat):OwnT c b w0 w F (.slice none 0 0) []:=⟨World.ownsRow_nil _ _ _ _,fun g h=>(by cases h),fun r a=>absurd a (by simp)⟩
theorem OwnT.step {c:PC} {f i:aC} {w0 w w':au} {F:List Nat} {v:aC} {rs:List TR} (h:OwnT c f w0 w F v rs) (s:Stp c f w i w'):OwnT c i w0 w' F v rs where
 own:=dJ h.own fun k e=>s.block k (h.own.lt k e).2 (h.off k e).1
 off:=fun g d=>⟨fun j=>(sh (w0:=w0) s ⟨(h.own.lt g d).1,(h.own.lt g d).2,(h.off g d).1⟩).2.2 j,(h.off g d).2⟩
 sub:=fun r l=>(h.sub r l).keep (fun b a=>s.block b a.1.1.2.1 a.1.1.2.2) fun _ a=>⟨⟨sh s a.1.1,a.1.2⟩,a.2⟩
theorem OwnT.call {c:PC} {a:aC} {w0 w w':au} {F:List Nat} {v:aC} {rs:List TR} (h:OwnT c a w0 w F v rs) (b:aB w.heap.size w w'):OwnT c a w0 w' F v rs:=h.step (.of b)
theorem OwnT.snoc {c:PC} {n:Nat} {u:VS} {i:aC} {w0 W m:au} {F:List Nat} {v k:aC} {rs:List TR} (h:OwnT c i w0 W F v rs) (p:PsAt c n u i W) (y:∀b∈F,b<W.heap.size) (r:TR) (C:TmsK (fun b=>(c.new i w0 W b/\b ∉ F)/\v.ownBlock≠some b) W r.2.1 r.1.args)
  (B:m.ownsRow w0.heap.size 30 4 k (rs.length+1) (dM rs++fL r)) (s:W.grownBy m v.ownBlock) (q:k.ownBlock=v.ownBlock\/k.ownBlock=some W.heap.size):OwnT c i w0 m F k (rs++[r]) where
 own:=by
  rw [nR,List.length_append]
  have w:dM [r]=fL r:=by unfold dM;simp
  rw [w];exact B
 off:=fun g j=>by
  rcases q with d | d
  ·rw [d] at j;exact h.off g j
  ·rw [d] at j;injection j with j
   exact ⟨fun o=>by have:=p.lts o;omega,fun o=>by have:=y g o;omega⟩
 sub:=by
  have t:∀{A:Option Addr} {l:List Tm},TmsK (fun b=>(c.new i w0 W b/\b ∉ F)/\v.ownBlock≠some b) W A l->TmsK (fun b=>(c.new i w0 m b/\b ∉ F)/\k.ownBlock≠some b) m A l:=fun z=>by
   refine z.keep (fun b a=>s.block b a.1.1.2.1 (fun e=>a.2 e.symm)) (fun b a=>⟨⟨⟨a.1.1.1,aA a.1.1.2.1 s.size,a.1.1.2.2⟩,a.1.2⟩,fun e=>?_⟩)
   rcases q with d | d
   ·rw [d] at e;exact a.2 e
   ·rw [d] at e;injection e with e;have:=a.1.1.2.1;omega
  intro x f
  rcases di.1 f with f | f
  ·exact t (h.sub x f)
  ·rw [aK] at f;subst f;exact t C
theorem OwnT.tms {c:PC} {l:aC} {w0 w:au} {F:List Nat} {v:aC} {rs:List TR} (h:OwnT c l w0 w F v rs):∃A f,v=.slice A rs.length f/\Trm c l w0 w F A (rs.map (·.1)):=by
 have r:∀j (a:j<rs.length),TmsK (fun b=>c.new l w0 w b/\b ∉ F) w rs[j].2.1 rs[j].1.args:=fun j a=>(h.sub _ (bW a)).keep (fun _ _=>rfl) (fun b o=>o.1)
 rcases h.own.2 with ⟨d,n⟩ | ⟨g,f,B,d,p,q,D,C,E⟩
 ·have:rs=[]:=List.eq_nil_of_length_eq_zero n
  subst this
  exact ⟨_,_,d,TmsK.nil⟩
 ·refine ⟨some ⟨g,0,none⟩,f,d,.mk _ _ (fun j=>(rs.getD j (sC,none,0)).2.1) (fun j=>(rs.getD j (sC,none,0)).2.2) (by rw [bZ];omega) (fun j a=>?_) (fun j a=>?_)⟩
  ·rw [bZ] at a
   obtain ⟨t,x,y,z⟩:=kM rs j a
   have e:∀k u,(dM rs)[k]? = some u->w.cell? ⟨g,0+k,none⟩=some u:=fun k u s=>by
    have:=h.own.cells (g:=g) (by rw [d];rfl) k u s
    rw [eO] at this
    exact this
   have i:rs.getD j (sC,none,0)=rs[j]:=by rw [bt,bi a];rfl
   have m:=h.off g (by rw [d];rfl)
   refine ⟨g,0,rfl,⟨⟨p,(Array.getElem?_eq_some_iff.1 q).1,m.1⟩,m.2⟩,?_,?_,?_,?_⟩
   ·rw [bT];exact e _ _ t
   ·rw [bT];exact e _ _ x
   ·rw [bT];exact e _ _ y
   ·rw [bT];simp only [i];exact e _ _ z
  ·rw [bZ] at a
   have i:rs.getD j (sC,none,0)=rs[j]:=by rw [bt,bi a];rfl
   rw [bT];simp only [i]
   exact r j a
theorem nY:(Tryz.prog.info? 30).map (fun i=>(i.zero,i.size,i.bytes))=some (some (aV #[aa ab 0,aa ab 0,ac ⟨#[]⟩,.slice none 0 0]),4,56):=by kernel_rfl
theorem lE {w W:au} {t:Array Oper} {z:List Oper} {o:Oper} {a:Act} {Q:Exit->Act->au->Prop} (E:o.guard=none) (s x:Operand)
  (H:o.op=.call { callee:=.builtin .append,args:=#[s,x],argTypes:=#[28,28] }) (c:PC) (n:Nat) (u:VS) (g:aC) (w0:au) (F:List Nat) (v:aC) (rs:List TR) (K:a.eval s=v) (B:OwnT c g w0 W F v rs) (p:PsAt c n u g W) (R:w0.heap.size<=W.heap.size) (A:∀b∈F,b<W.heap.size)
  (r:TR) (J:TmsK (fun b=>(c.new g w0 W b/\b ∉ F)/\v.ownBlock≠some b) W r.2.1 r.1.args) (l:Array aC) (D:l=(fL r).toArray) (L:w=W.alloc (.cells l 30)) (M:a.eval x=.slice (some ⟨W.heap.size,0,none⟩) 1 1) (S:rs.length<=100000)
  (h:∀k w',Hid (OwnT c g w0 w' F k (rs++[r]))->Hid (w.grownBy w' v.ownBlock)->wpList am t Q z (a.put o.dst k) w'):wpList am t Q (o::z) a w:=by
 obtain ⟨i,G,N,O,P⟩:=info_parts nY
 subst L D
 have e:aB W.heap.size W (W.alloc (.cells (fL r).toArray 30)):=(ap _ _).alloc (ae _) _
 have m:=B.call e
 refine wpList_append_own_at _ E s x 28 H w0.heap.size 30 i _ 4 56 Tryz.underlying28 G N O P rfl (by decide) v rs.length (dM rs) K m.own ⟨W.heap.size,0,none⟩ 1 1 (fL r) M rfl ?_ (by
   intro y f
   simp only [fL,bh,List.mem_nil_iff,or_false] at f
   rcases f with rfl|rfl|rfl|rfl <;> rfl) (by unfold bF;omega) (by omega) (by simp;omega) ?_
 ·intro j y f
  rw [eO]
  have:=aF W (fL r).toArray 30 j
  rw [show 0+j=j by omega,this]
  simpa using f
 ·intro k w' I q _ C
  refine h k w' (zq (m.snoc (p.call e) (fun b d=>aA (A b d) e.size) r ?_ I q C)) (zq q)
  exact J.keep (fun b d=>e.block b d.1.1.2.1) fun b d=>⟨⟨⟨d.1.1.1,aA d.1.1.2.1 e.size,d.1.1.2.2⟩,d.1.2⟩,d.2⟩
theorem PsAt.keep {c:PC} {n:Nat} {v:VS} {d:aC} {w w':au} (p:PsAt c n v d w) (g:w.heap.size<=w'.heap.size) (a:∀b,c.mine d b->w'.heap[b]? = w.heap[b]?) (f:∀b,b<c.B1->w'.heap[b]? = w.heap[b]?):PsAt c n v d w' :=
 ⟨p.ok,aQ p.low g,p.bk.keeps (a _ (.inl rfl)),fN p.tk (f _ p.ok.gl),ii p.ops g (fun i b j e=>f b (p.ok.ob i b j e)),p.vm.keep (a _ (.inr (.inl rfl))),p.om.keep (a _ (.inr (.inr (.inl rfl)))),dJ p.nm (fun b h=>a b (.inr (.inr (.inr h)))),p.n1,p.vn,p.vc⟩
theorem Wk.box {c:PC} {n:Nat} {v:VS} {i f:aC} {w0 w Y:au} {L:List (Nat×List aC)} (h:Wk c n v i w0 f w L) (j:aB w.heap.size w Y) {e:Nat} {vs:List aC} (k:w.heap.size<=e) (m:Bk Y e vs):Wk c n v i w0 f Y ((e,vs)::L):=by
 have d:=h.call j
 refine ⟨d.p,d.s,d.low,⟨fun x a=>?_,?_⟩,fun x a=>?_,h.start0⟩
 ·rcases bh.1 a with rfl | a
  ·exact m
  ·exact d.b.bk x a
 ·show (List.map (·.1) ((e,vs)::(L++[(c.P,c.cells n v f)]))).Pairwise (· > ·)
  rw [List.map_cons,List.pairwise_cons]
  refine ⟨fun g l=>?_,h.b.ord⟩
  obtain ⟨x,a,rfl⟩:=List.mem_map.1 l
  have:=(h.b.bk x a).lt
  show x.1<e
  omega
 ·rcases bh.1 a with rfl | a
  ·intro o
   have:=h.p.lts o
   have q:w.heap.size<=e:=k
   exact absurd this (by show ¬e<w.heap.size;omega)
  ·exact h.off x a
theorem Wk.grown {c:PC} {n:Nat} {v:VS} {l g:aC} {w0 w w':au} {L:List (Nat×List aC)} {F:List Nat} {u:aC} {rs:List TR} (h:Wk c n v l w0 g w L) (k:OwnT c g w0 w F u rs) (r:∀x∈L,x.1∈F) (d:w.grownBy w' u.ownBlock):Wk c n v l w0 g w' L:=by
 have j:∀b,u.ownBlock=some b->w0.heap.size<=b/\¬c.mine g b/\b ∉ F:=fun b a=>⟨(k.own.lt b a).1,(k.off b a).1,(k.off b a).2⟩
 have z:=h.s.size
 have A:=h.p.low
 have B:=h.p.ok.p1
 have o:∀b,b<c.B1->w'.heap[b]? = w.heap[b]?:=fun b a=>d.block b (by omega) fun e=>by
  have y:=j b e.symm
  exact absurd a (by
   have:=h.low.size
   have:=h.start0
   omega)
 have q:PsAt c n v g w':=h.p.keep d.size (fun b a=>d.block b (h.p.lts a) fun e=>(j b e.symm).2.1 a) o
 have i:Stp c l w0 g w':=⟨d.os.trans h.s.os,d.tape.trans h.s.tape,d.output.trans h.s.output,aQ h.s.size d.size,fun b a t=>(d.block b (by omega) fun e=>by have:=(j b e.symm).1;omega).trans (h.s.block b a t),h.s.own⟩
 refine ⟨q,i,⟨i.os,i.tape,i.output,i.size,fun b a=>(o b a).trans (h.low.block b a)⟩,⟨fun x f=>?_,h.b.ord⟩,h.off,h.start0⟩
 rcases di.1 f with f | f
 ·have m:=h.b.bk x (dt _ f)
  exact m.keeps (d.block _ m.lt fun e=>(j _ e.symm).2.2 (r x f))
 ·rw [aK] at f;subst f;exact q.bk
end Go.Proofs.YtbojljpldcijgaaGreat
namespace Go.Proofs.YtbojljpldcijgaaGreat
open Go.RowKit Hb
theorem jA {t:NextR} {s:List UInt8} (h:dp t s=true):¬t.r.kind=7:=by
 unfold dp at h;simp at h;omega
theorem iK {c:PC} {n:Nat} {v:VS} {i:aC} {w:au} (p:PsAt c n v i w) (s:ByteArray) (h:dp (c.E.at n) s.data.toList=false):aU am 178 #[ar (some ⟨c.P,0,none⟩),ac s] w fun e w'=>e=aD (av false)/\aB w.heap.size w w':=by
 have a:=zq (iW p 0 (by decide))
 have b:=zq fun W=>iu (c.E.at n) s W
 rw [h] at b
 rw [bj] at a
 clear h p
 go_enter Tryz.func178,Tryz.ntmps178
 go_wp2_with fail
 refine a.out.mono ?_;rintro e j ⟨rfl,d⟩
 go_wp2_with fail
 refine (b.out _).mono ?_;rintro e k ⟨rfl,g⟩
 have f:=d.trans (g.mono d.size)
 go_wp2_with fail
 go_ret
 exact ⟨rfl,f⟩
theorem it {c:PC} {n:Nat} {v:VS} {a:aC} {w:au} (p:PsAt c n v a w) (s:ByteArray) (h:dp (c.E.at n) s.data.toList=true):aU am 178 #[ar (some ⟨c.P,0,none⟩),ac s] w fun e w'=>e=aD (av true)/\PsAt c (n+1) v a w'/\Stp c a w a w':=by
 have d:=zq (iW p 0 (by decide))
 have f:=zq fun W=>iu (c.E.at n) s W
 have m:=p.more (jA h)
 have q:=zq (jd (n:=n) (by have:=p.ok.len;omega))
 have r:=zq m
 rw [h] at f
 rw [bj] at d
 have g:=zq (Wk.start p)
 clear h p m
 go_enter Tryz.func178,Tryz.ntmps178
 go_wp2_with fail
 refine d.out.mono ?_;rintro e x ⟨rfl,k⟩
 have i:=zq (g.out.call k)
 clear k g
 go_wp2_with fail
 refine (f.out _).mono ?_;rintro e y ⟨rfl,l⟩
 have j:=zq (i.out.call l)
 clear l i
 have t:=j.out.b.all
 simp only [PC.cells,ag,ai,aj,aH,aP,ah,af,and_true] at t
 have u:=q.out
 go_wp2_with fail
 go_ret
 have o:=j.out.inc r.out
 exact ⟨rfl,o.p,o.s⟩
theorem kb {c:PC} {n:Nat} {v:VS} {b:aC} {w:au} (p:PsAt c n v b w) (s:ByteArray) (h:dp (c.E.at n) s.data.toList=false):aU am 177 #[ar (some ⟨c.P,0,none⟩),ac s] w fun e w'=>AG c b w n e w':=by
 have f:=zq (iK p s h)
 have d:=zq fun w' (i:aB w.heap.size w w')=>oW (p.call i)
 have g:=zq (Wk.start p)
 clear h p
 go_enter Tryz.func177,Tryz.ntmps177
 go_wp2_with fail
 refine f.out.mono ?_;rintro e k ⟨rfl,a⟩
 go_wp2_with fail
 refine (d.out _ a).mono ?_;rintro e l ⟨rfl,j⟩
 exact ⟨rfl,rfl,(g.out.call a).fall j⟩
theorem jw {c:PC} {n:Nat} {v:VS} {a:aC} {w:au} (p:PsAt c n v a w) (s:ByteArray) (h:dp (c.E.at n) s.data.toList=true):aU am 177 #[ar (some ⟨c.P,0,none⟩),ac s] w fun e w'=>e=aD (.tuple #[])/\PsAt c (n+1) v a w'/\Stp c a w a w':=by
 have i:=zq (it p s h)
 clear h p
 go_enter Tryz.func177,Tryz.ntmps177
 go_wp2_with fail
 refine i.out.mono ?_;rintro e j ⟨rfl,b,d⟩
 have f:=zq b
 have g:=zq d
 clear b d
 go_wp2_with fail
 go_end0
 exact ⟨rfl,f.out,g.out⟩
end Go.Proofs.YtbojljpldcijgaaGreat
