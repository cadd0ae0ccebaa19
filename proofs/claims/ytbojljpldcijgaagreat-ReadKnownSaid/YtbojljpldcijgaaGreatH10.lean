/- Parts of the proof. -/
import Derived.Test.YtbojljpldcijgaaGreatH01
import Derived.Test.YtbojljpldcijgaaGreatH02
import Derived.Test.YtbojljpldcijgaaGreatH06
import Derived.Test.YtbojljpldcijgaaGreatH08
import Derived.Test.YtbojljpldcijgaaGreatH09
import Derived.Maps.OwnSet
import Derived.Maps.Views
import Derived.StringKeys
import Derived.Carry
import Derived.BigRegion
import Derived.Test.YtbojljpldcijgaaGreatH07
import Derived.Maps.AppendAt
namespace Hb
open Go Go.RowKit
def NumMap (P:Program) (k e:TypeId) (w:World) (b N:Nat) (f:List UInt8→Option Nat):Prop :=
 ∃D:DataW Unit,w.ownsMap P k (plainElem P e) b N D∧∀x,¬x=[95]→Maps.has D (.string x)=(f x).isSome∧D.atKey (.string x) (.lit (.int .i64 0))=.lit (.int .i64 (((f x).getD 0:Nat):Int))
def CntMap (P:Program) (k e:TypeId) (w:World) (b N:Nat) (f:Nat→Nat):Prop :=
 ∃D:DataW Unit,w.ownsMap P k (plainElem P e) b N D∧∀x:Nat,D.atKey (.int .i64 x) (.lit (.int .i64 0))=.lit (.int .i64 (f x:Int))
theorem NumMap.new (P:Program) (k e:TypeId) (w:World):NumMap P k e (w.alloc (.map #[] 0)) w.heap.size 0 (fun _=>none):=⟨_,World.ownsMap_made w P k _,fun _ _=>⟨rfl,rfl⟩⟩
theorem CntMap.new (P:Program) (k e:TypeId) (w:World):CntMap P k e (w.alloc (.map #[] 0)) w.heap.size 0 (fun _=>0):=⟨_,World.ownsMap_made w P k _,fun _=>rfl⟩
theorem NumMap.lt {P:Program} {k e:TypeId} {w:World} {b N:Nat} {f:List UInt8→Option Nat} (h:NumMap P k e w b N f):b<w.heap.size:=by
 obtain ⟨D,h,_⟩:=h;exact h.lt
theorem CntMap.lt {P:Program} {k e:TypeId} {w:World} {b N:Nat} {f:Nat→Nat} (h:CntMap P k e w b N f):b<w.heap.size:=by
 obtain ⟨D,h,_⟩:=h;exact h.lt
theorem NumMap.keep {P:Program} {k e:TypeId} {w w':World} {b N:Nat} {f:List UInt8→Option Nat} (h:NumMap P k e w b N f) (hb:w'.heap[b]? = w.heap[b]?):NumMap P k e w' b N f:=by
 obtain ⟨D,⟨es,clock,h1,h2,h3⟩,hD⟩:=h
 exact ⟨D,⟨es,clock,hb.trans h1,h2,h3⟩,hD⟩
theorem CntMap.keep {P:Program} {k e:TypeId} {w w':World} {b N:Nat} {f:Nat→Nat} (h:CntMap P k e w b N f) (hb:w'.heap[b]? = w.heap[b]?):CntMap P k e w' b N f:=by
 obtain ⟨D,⟨es,clock,h1,h2,h3⟩,hD⟩:=h
 exact ⟨D,⟨es,clock,hb.trans h1,h2,h3⟩,hD⟩
theorem NumMap.mono {P:Program} {k e:TypeId} {w:World} {b N N':Nat} {f:List UInt8→Option Nat} (h:NumMap P k e w b N f) (hN:N≤N'):NumMap P k e w b N' f:=by
 obtain ⟨D,h,hD⟩:=h;exact ⟨D,h.mono hN,hD⟩
def updO {α β:Type} [DecidableEq α] (f:α→β) (x:α) (y:β):α→β:=fun z=>if z=x then y else f z
theorem lit_nat_wf (x:Nat) (h:x≤1000000):(Lit.int .i64 (x:Int)).wf=true:=by
 unfold Lit.wf;rw [Bool.and_eq_true,decide_eq_true_iff,decide_eq_true_iff]
 exact ⟨by show (-9223372036854775808:Int)≤_;omega,by show _≤(9223372036854775807:Int);omega⟩
theorem NumMap.look {P:Program} {k e t:TypeId} {w:World} {b N:Nat} {f:List UInt8→Option Nat} (h:NumMap P k e w b N f) (hk:P.underlying k=some .string) (ht:P.underlying t=some (.map k e)) (he:P.underlying e=some (.int .i64)) (s:ByteArray) (hs:s.size≤maxLen) (hz:(zeroValue e).run P w=.ok (.int .i64 0) w) :
  ∃(c:Int) (b':Bool),(Instr.lookup t (.map (some b)) (.string s) true).run P w=.ok (.tuple #[.int .i64 c,.bool b']) w∧(¬s.data.toList=[95]→b'=(f s.data.toList).isSome∧c=((f s.data.toList).getD 0:Nat)):=by
 obtain ⟨D,ho,hD⟩:=h
 obtain ⟨v,ps,hr,hv⟩:=ho.look_ok (Maps.string_keyed hk) ht hz (zd:=.lit (.int .i64 0)) (zp:=[]) (plainElem_int he (by decide)) (WideMaps.keyOf_string_mk hk hs)
 obtain ⟨a,rfl,ha,_⟩:=plainElem_int_inv he hv
 refine ⟨a,_,hr,fun hx=>?_⟩
 obtain ⟨h1,h2⟩:=hD _ hx
 rw [h2] at ha
 simp only [Prod.mk.injEq,DataW.lit.injEq,Lit.int.injEq,true_and] at ha
 exact ⟨h1,ha.1.symm⟩
theorem NumMap.put {P:Program} {k e t:TypeId} {w:World} {b N:Nat} {f:List UInt8→Option Nat} (h:NumMap P k e w b N f) (hk:P.underlying k=some .string) (ht:P.underlying t=some (.map k e)) (he:P.underlying e=some (.int .i64)) (s:ByteArray) (c:Nat) (hs:s.size≤maxLen) (hn:N<maxLen) (hc:c≤1000000) :
  ∃w',(Instr.mapUpdate t (.map (some b)) (.string s) (.int .i64 c)).run P w=.ok () w'∧NumMap P k e w' b (N+1) (if s.data.toList=[95] then f else updO f s.data.toList (some c))∧w.grownBy w' (some b):=by
 obtain ⟨D,ho,hD⟩:=h
 obtain ⟨w',hr,ho',hg⟩:=ho.update (Maps.string_keyed hk) ht hn (WideMaps.keyOf_string_mk hk hs) (plainElem_int he (lit_nat_wf c hc))
 refine ⟨w',hr,⟨_,ho',fun x hx=>?_⟩,hg⟩
 by_cases e1:x=s.data.toList
 ·subst e1
  rw [if_neg hx,Maps.atKey_put_same ho.isMap (show WideAt.IsKeyLit (.string _) from trivial),Maps.has_put_same ho.isMap (show WideAt.IsKeyLit (.string _) from trivial)]
  simp [updO]
 ·have hne:(Lit.string s.data.toList)≠.string x:=fun h=>e1 (by injection h with h;exact h.symm)
  rw [Maps.atKey_put_other (fun h=>hne h.symm),Maps.has_put_other (fun h=>hne h.symm)]
  split
  ·exact hD x hx
  ·unfold updO;rw [if_neg e1];exact hD x hx
theorem CntMap.look {P:Program} {k e t:TypeId} {w:World} {b N:Nat} {f:Nat→Nat} (h:CntMap P k e w b N f) (hk:P.underlying k=some (.int .i64)) (ht:P.underlying t=some (.map k e)) (he:P.underlying e=some (.int .i64)) (x:Nat) (hx:x≤1000000) (hz:(zeroValue e).run P w=.ok (.int .i64 0) w) :
  (Instr.lookup t (.map (some b)) (.int .i64 x) false).run P w=.ok (.int .i64 (f x:Int)) w:=by
 obtain ⟨D,ho,hD⟩:=h
 obtain ⟨c,hr,hv,_⟩:=ho.lookup_int (Maps.int_keyed hk) ht he hz (Maps.keyOf_int_mk hk (lit_nat_wf x hx))
 rw [hD] at hv
 simp only [DataW.lit.injEq,Lit.int.injEq,true_and] at hv
 rw [hr,←hv]
theorem CntMap.put {P:Program} {k e t:TypeId} {w:World} {b N:Nat} {f:Nat→Nat} (h:CntMap P k e w b N f) (hk:P.underlying k=some (.int .i64)) (ht:P.underlying t=some (.map k e)) (he:P.underlying e=some (.int .i64)) (x c:Nat) (hx:x≤1000000) (hn:N<maxLen) (hc:c≤1000000) :
  ∃w',(Instr.mapUpdate t (.map (some b)) (.int .i64 x) (.int .i64 c)).run P w=.ok () w'∧CntMap P k e w' b (N+1) (updO f x c)∧w.grownBy w' (some b):=by
 obtain ⟨D,ho,hD⟩:=h
 obtain ⟨w',hr,ho',hg⟩:=ho.update (Maps.int_keyed hk) ht hn (Maps.keyOf_int_mk hk (lit_nat_wf x hx)) (plainElem_int he (lit_nat_wf c hc))
 refine ⟨w',hr,⟨_,ho',fun y=>?_⟩,hg⟩
 by_cases e1:y=x
 ·subst e1
  rw [Maps.atKey_put_same ho.isMap (show WideAt.IsKeyLit (.int _ _) from trivial)]
  simp [updO]
 ·rw [Maps.atKey_put_other (fun h=>e1 (by injection h with _ h;omega)),hD]
  unfold updO;rw [if_neg e1]
def TokAt (w:World) (g:Nat) (T:List NextR):Prop:=∀j (h:j<T.length) i v,(nxtCells T[j])[i]? = some v→w.cell? ⟨g,j * 6+i,none⟩=some v
def nmCells (m:List (List UInt8×Nat)):List Value:=m.flatMap fun p=>[.string ⟨p.1.toArray⟩,.int .i64 (p.2:Int)]
structure PC where
 B0:Nat
 B1:Nat
 lo:Nat
 P:Nat
 V:Nat
 O:Nat
 g:Nat
 tc:Nat
 OA:Option Addr
 on:Nat
 oc:Nat
 E:RE
def PC.cells (c:PC) (n:Nat) (v:VS) (nv:Value):List Value:=[.slice (some ⟨c.g,0,none⟩) c.E.T.length c.tc,.int .i64 (n:Int),.slice c.OA c.on c.oc,.int .i64 c.E.q,.map (some c.V),.map (some c.O),.int .i64 (v.c:Int),nv]
structure PC.Ok (c:PC):Prop where
 b01:c.B0≤c.B1
 p1:c.B1≤c.P∧c.P<c.lo
 v1:c.B1≤c.V∧c.V<c.lo
 o1:c.B1≤c.O∧c.O<c.lo
 pv:c.P≠c.V
 po:c.P≠c.O
 vo:c.V≠c.O
 gl:c.g<c.B1
 len:c.E.T.length≤20000
 pos:0<c.E.T.length
 tcap:c.E.T.length≤c.tc
 opl:c.on=c.E.P.length
 few:c.on≤100
 ob:0<c.E.P.length→∀b off,c.OA=some ⟨b,off,none⟩→b<c.B1
 endk:(c.E.at (c.E.T.length-1)).r.kind=7
 txt:∀t∈c.E.T,t.r.text.length≤20000 ∧ -9223372036854775808≤t.r.n∧t.r.n≤9223372036854775807
 nms:∀t∈c.E.T,isNam t=true→t.r.text.length≤100
def PC.mine (c:PC) (nv:Value) (b:Nat):Prop:=b=c.P∨b=c.V∨b=c.O∨nv.ownBlock=some b
end Hb
namespace Go.Proofs.YtbojljpldcijgaaGreat
open Go.RowKit Hb
structure PsAt (c:PC) (n:Nat) (v:VS) (nv:Value) (w:World):Prop where
 ok:c.Ok
 low:c.lo≤w.heap.size
 bk:Bk w c.P (c.cells n v nv)
 tk:TokAt w c.g c.E.T
 ops:OpsAt w c.OA c.E.P
 vm:NumMap Tryz.prog 9 2 w c.V v.o.length v.look
 om:CntMap Tryz.prog 2 3 w c.O v.o.length (fun x=>v.o.count x)
 nm:w.ownsRow c.lo 44 2 nv v.m.length (nmCells v.m)
 n1:n<c.E.T.length
 vn:v.o.length≤n
 vc:v.Ok
structure Stp (c:PC) (nv:Value) (w:World) (nv':Value) (w':World):Prop where
 os:w'.os=w.os
 tape:w'.tape=w.tape
 output:w'.output=w.output
 size:w.heap.size≤w'.heap.size
 block:∀b,b<w.heap.size→¬c.mine nv b→w'.heap[b]? = w.heap[b]?
 own:∀b,nv'.ownBlock=some b→nv.ownBlock=some b∨w.heap.size≤b
theorem Stp.trans {c:PC} {n1 n2 n3:Value} {a b d:World} (h:Stp c n1 a n2 b) (k:Stp c n2 b n3 d):Stp c n1 a n3 d where
 os:=k.os.trans h.os
 tape:=k.tape.trans h.tape
 output:=k.output.trans h.output
 size:=Nat.le_trans h.size k.size
 block:=fun x hx hm=>(k.block x (Nat.lt_of_lt_of_le hx h.size) (fun e=>hm (by
  rcases e with e | e | e | e
  ·exact .inl e
  ·exact .inr (.inl e)
  ·exact .inr (.inr (.inl e))
  ·rcases h.own x e with e | e
   ·exact .inr (.inr (.inr e))
   ·omega))).trans (h.block x hx hm)
 own:=fun x hx=>by
  rcases k.own x hx with e | e
  ·exact h.own x e
  ·exact .inr (Nat.le_trans h.size e)
theorem Stp.of {c:PC} {nv:Value} {a b:World} (h:Below a.heap.size a b):Stp c nv a nv b:=⟨h.os,h.tape,h.output,h.size,fun k hk _=>h.block k hk,fun _ h=>.inl h⟩
theorem Stp.refl (c:PC) (nv:Value) (w:World):Stp c nv w nv w:=.of (Below.refl _ _)
theorem Stp.low {c:PC} {n:Nat} {v:VS} {nv nv':Value} {w w':World} (h:Stp c nv w nv' w') (p:PsAt c n v nv w):Below c.B1 w w':=⟨h.os,h.tape,h.output,h.size,fun k hk=>h.block k (by have:=p.low;have:=p.ok.p1;omega) (fun e=>by
 have h1:=p.ok.p1;have h2:=p.ok.v1;have h3:=p.ok.o1
 rcases e with e | e | e | e
 ·omega
 ·omega
 ·omega
 ·have:=(p.nm.lt k e).1;omega)⟩
theorem PsAt.lts {c:PC} {n:Nat} {v:VS} {nv:Value} {w:World} (p:PsAt c n v nv w) {b:Nat} (h:c.mine nv b):b<w.heap.size:=by
 have h1:=p.ok.p1;have h2:=p.ok.v1;have h3:=p.ok.o1;have:=p.low
 rcases h with e | e | e | e
 ·omega
 ·omega
 ·omega
 ·exact (p.nm.lt b e).2
theorem tok_keep {w w':World} {g:Nat} {T:List NextR} (h:TokAt w g T) (hb:w'.heap[g]? = w.heap[g]?):TokAt w' g T:=fun j hj i v hv=>(World.cell?_of_block (a:=⟨g,_,none⟩) hb).trans (h j hj i v hv)
theorem ops_keep {w w':World} {A:Option Addr} {l:List OpR} (h:OpsAt w A l) (hs:w.heap.size≤w'.heap.size) (hb:0<l.length→∀b off,A=some ⟨b,off,none⟩→w'.heap[b]? = w.heap[b]?):OpsAt w' A l:=fun j hj=>by
 obtain ⟨b,off,e,hlt,c0,c1,c2⟩:=h j hj
 have hw:∀o,w'.cell? ⟨b,o,none⟩=w.cell? ⟨b,o,none⟩:=fun o=>World.cell?_of_block (hb (by omega) b off e)
 exact ⟨b,off,e,Nat.lt_of_lt_of_le hlt hs,(hw _).trans c0,(hw _).trans c1,(hw _).trans c2⟩
theorem row_keep {w w':World} {base e size:Nat} {v:Value} {n:Nat} {xs:List Value} (h:w.ownsRow base e size v n xs) (hb:∀k,v.ownBlock=some k→w'.heap[k]? = w.heap[k]?):w'.ownsRow base e size v n xs:=by
 refine ⟨h.1,?_⟩
 rcases h.2 with hn | ⟨g,cap,cur,hv,hbg,hh,rest⟩
 ·exact .inl hn
 ·exact .inr ⟨g,cap,cur,hv,hbg,(hb g (by rw [hv];rfl)).trans hh,rest⟩
theorem PsAt.call {c:PC} {n:Nat} {v:VS} {nv:Value} {w w':World} (p:PsAt c n v nv w) (h:Below w.heap.size w w'):PsAt c n v nv w' where
 ok:=p.ok
 low:=Nat.le_trans p.low h.size
 bk:=p.bk.call h
 tk:=tok_keep p.tk (h.block _ (by have:=p.ok.gl;have:=p.ok.p1;have:=p.low;omega))
 ops:=p.ops.below h
 vm:=p.vm.keep (h.block _ p.vm.lt)
 om:=p.om.keep (h.block _ p.om.lt)
 nm:=row_keep p.nm fun k hk=>h.block k (p.nm.lt k hk).2
 n1:=p.n1
 vn:=p.vn
 vc:=p.vc
theorem PsAt.next {c:PC} {n:Nat} {v:VS} {nv:Value} {w:World} (p:PsAt c n v nv w) (k:Nat) (hk:n≤k) (hk2:k<c.E.T.length):PsAt c k v nv (w.setCell ⟨c.P,1,none⟩ (.int .i64 (k:Int))):=by
 have hne:∀b,b≠c.P→(w.setCell ⟨c.P,1,none⟩ (.int .i64 (k:Int))).heap[b]? = w.heap[b]?:=fun b hb=>heap_setCell_other _ _ _ _ hb
 have h1:=p.ok.p1
 refine ⟨p.ok,by simpa using p.low,p.bk.set 1 _,tok_keep p.tk (hne _ (by have:=p.ok.gl;omega)),ops_keep p.ops (by simp) (fun hl b off e=>hne b (by have:=p.ok.ob hl b off e;omega)),p.vm.keep (hne _ (fun e=>p.ok.pv e.symm)),p.om.keep (hne _ (fun e=>p.ok.po e.symm)),row_keep p.nm (fun b hb=>hne b (by have:=(p.nm.lt b hb).1;omega)),hk2,Nat.le_trans p.vn hk,p.vc⟩
theorem Stp.put {c:PC} {nv nv':Value} {w w':World} (h:Stp c nv w nv' w') (i:Nat) (u:Value):Stp c nv w nv' (w'.setCell ⟨c.P,i,none⟩ u) where
 os:=h.os
 tape:=h.tape
 output:=h.output
 size:=by simpa using h.size
 block:=fun b hb hm=>(heap_setCell_other _ _ _ _ (fun e=>hm (.inl e))).trans (h.block b hb hm)
 own:=h.own
structure Wk (c:PC) (n:Nat) (v:VS) (nv0:Value) (w0:World) (nv:Value) (w:World) (L:List (Nat×List Value)):Prop where
 p:PsAt c n v nv w
 s:Stp c nv0 w0 nv w
 low:Below c.B1 w0 w
 b:Bks w (L++[(c.P,c.cells n v nv)])
 off:∀x∈L,¬c.mine nv x.1
 start0:c.B1≤w0.heap.size
theorem Wk.start {c:PC} {n:Nat} {v:VS} {nv:Value} {w:World} (p:PsAt c n v nv w):Wk c n v nv w nv w [] :=
 ⟨p,.refl _ _ _,.refl _ _,⟨fun x hx=>by rw [List.nil_append,List.mem_singleton] at hx;subst hx;exact p.bk,List.pairwise_singleton _ _⟩,fun x hx=>(by cases hx),by have:=p.low;have:=p.ok.p1;omega⟩
theorem Wk.call {c:PC} {n:Nat} {v:VS} {nv0 nv:Value} {w0 w w':World} {L:List (Nat×List Value)} (h:Wk c n v nv0 w0 nv w L) (hB:Below w.heap.size w w'):Wk c n v nv0 w0 nv w' L :=
 ⟨h.p.call hB,h.s.trans (.of hB),h.low.trans (hB.mono (by have:=h.p.low;have:=h.p.ok.p1;omega)),h.b.call hB,h.off,h.start0⟩
theorem Wk.new {c:PC} {n:Nat} {v:VS} {nv0 nv:Value} {w0 w:World} {L:List (Nat×List Value)} (h:Wk c n v nv0 w0 nv w L) (vs:List Value) (e:TypeId) {g:Nat} (hg:w.heap.size=g):Wk c n v nv0 w0 nv (w.alloc (.cells vs.toArray e)) ((g,vs)::L):=by
 have h1:=h.call ((Below.refl w.heap.size w).alloc (Nat.le_refl _) (.cells vs.toArray e))
 refine ⟨h1.p,h1.s,h1.low,h.b.new vs e hg,fun x hx=>?_,h.start0⟩
 rcases List.mem_cons.1 hx with rfl | hx
 ·intro hm
  have:=h.p.lts hm
  have:w.heap.size=g:=hg
  simp only at *
  omega
 ·exact h.off x hx
theorem Wk.turn {c:PC} {n n':Nat} {v v':VS} {nv nv':Value} {w w':World} {L:List (Nat×List Value)} (h:Bks w (L++[(c.P,c.cells n v nv)])) (ho:∀x∈L,¬c.mine nv x.1) (p:PsAt c n' v' nv' w') (hb:∀b,b<w.heap.size→¬c.mine nv b→w'.heap[b]? = w.heap[b]?):Bks w' (L++[(c.P,c.cells n' v' nv')]):=by
 refine ⟨fun x hx=>?_,?_⟩
 ·rcases List.mem_append.1 hx with hx | hx
  ·have hk:=h.bk x (List.mem_append_left _ hx)
   exact hk.keeps (hb _ hk.lt (ho x hx))
  ·rw [List.mem_singleton] at hx;subst hx;exact p.bk
 ·have:=h.ord
  rw [List.map_append] at this ⊢
  exact this
theorem Wk.step {c : PC} {n n' : Nat} {v v' : VS} {nv0 nv nv' : Value} {w0 w w' : World} {L : List (Nat × List Value)} (h : Wk c n v nv0 w0 nv w L) (p : PsAt c n' v' nv' w') (s : Stp c nv w nv' w') : Wk c n' v' nv0 w0 nv' w' L :=
 ⟨p, h.s.trans s, h.low.trans (s.low h.p), Wk.turn h.b h.off p s.block, fun x hx hm => h.off x hx (by
  rcases hm with e | e | e | e
  ·exact .inl e
  ·exact .inr (.inl e)
  ·exact .inr (.inr (.inl e))
  ·rcases s.own x.1 e with e | e
   ·exact .inr (.inr (.inr e))
   ·have := (h.b.bk x (List.mem_append_left _ hx)).lt; omega), h.start0⟩
theorem Wk.next {c:PC} {n:Nat} {v:VS} {nv0 nv:Value} {w0 w:World} {L:List (Nat×List Value)} (h:Wk c n v nv0 w0 nv w L) (k:Nat) (hk:n≤k) (hk2:k<c.E.T.length):Wk c k v nv0 w0 nv (w.setCell ⟨c.P,1,none⟩ (.int .i64 (k:Int))) L :=
 h.step (h.p.next k hk hk2) ((Stp.refl c nv w).put 1 _)
theorem Wk.put {c:PC} {n:Nat} {v:VS} {nv0 nv:Value} {w0 w:World} {L:List (Nat×List Value)} (h:Wk c n v nv0 w0 nv w L) (j i:Nat) {g:Nat} {vs:List Value} (hx:L[j]? = some (g,vs)) (u:Value) (hw:w0.heap.size≤g):Wk c n v nv0 w0 nv (w.setCell ⟨g,i,none⟩ u) (L.set j (g,vs.set i u)):=by
 have hm:=List.mem_of_getElem? hx
 have hg:¬c.mine nv g:=h.off _ hm
 have hne:∀b,c.mine nv b→(w.setCell ⟨g,i,none⟩ u).heap[b]? = w.heap[b]?:=fun b hb=>heap_setCell_other _ _ _ _ (fun e=>hg (by have e2:b=g:=e;rw [←e2];exact hb))
 have hlow:c.B1≤g:=Nat.le_trans h.start0 hw
 have hp:PsAt c n v nv (w.setCell ⟨g,i,none⟩ u):=by
  have h1:=h.p.ok.p1
  have hlo:∀b,b<c.B1→(w.setCell ⟨g,i,none⟩ u).heap[b]? = w.heap[b]?:=fun b hb=>heap_setCell_other _ _ _ _ (show b≠g by omega)
  exact ⟨h.p.ok,by simpa using h.p.low,h.p.bk.keeps (hne _ (.inl rfl)),tok_keep h.p.tk (hlo _ h.p.ok.gl),ops_keep h.p.ops (by simp) (fun hl b off e=>hlo b (h.p.ok.ob hl b off e)),h.p.vm.keep (hne _ (.inr (.inl rfl))),h.p.om.keep (hne _ (.inr (.inr (.inl rfl)))),row_keep h.p.nm (fun b hb=>hne b (.inr (.inr (.inr hb)))),h.p.n1,h.p.vn,h.p.vc⟩
 refine ⟨hp,⟨h.s.os,h.s.tape,h.s.output,by simpa using h.s.size,fun b hb hm=>(heap_setCell_other _ _ _ _ (show b≠g by omega)).trans (h.s.block b hb hm),h.s.own⟩,h.low.setCell (p:=⟨g,i,none⟩) hlow u,?_,fun x hx2=>?_,h.start0⟩
 ·have:=h.b.set (l:=L++[(c.P,c.cells n v nv)]) j i (g:=g) (vs:=vs) (by rw [List.getElem?_append_left (List.getElem?_eq_some_iff.1 hx).1];exact hx) u
  rwa [List.set_append_left _ _ (List.getElem?_eq_some_iff.1 hx).1] at this
 ·obtain ⟨y,hy,e⟩:=set_fst (vs.set i u) hx x hx2
  rw [←e];exact h.off y hy
theorem PsAt.more {c:PC} {n:Nat} {v:VS} {nv:Value} {w:World} (p:PsAt c n v nv w) (h:¬(c.E.at n).r.kind=7):n+1<c.E.T.length:=by
 have:=p.n1
 rcases Nat.lt_or_ge (n+1) c.E.T.length with h1 | h1
 ·exact h1
 ·exact absurd (by have:=p.ok.endk;rwa [show c.E.T.length-1=n by omega] at this) h
theorem Wk.inc {c:PC} {n:Nat} {v:VS} {nv0 nv:Value} {w0 w:World} {L:List (Nat×List Value)} (h:Wk c n v nv0 w0 nv w L) (hm:n+1<c.E.T.length):Wk c (n+1) v nv0 w0 nv (w.setCell ⟨c.P,1,none⟩ (.int .i64 ((n:Int)+1))) L:=h.next (n+1) (Nat.le_succ n) hm
theorem inc64 {n:Nat} (h:n≤1000000):wrap64 ((n:Int)+1)=(n:Int)+1:=IntWalk.wrap64_in _ (by omega)
theorem Wk.put4 {c:PC} {n:Nat} {v:VS} {nv0 nv:Value} {w0 w:World} {L:List (Nat×List Value)} (h:Wk c n v nv0 w0 nv w L) (j:Nat) {g:Nat} {u0 u1 u2 u3:Value} (hx:L[j]? = some (g,[u0,u1,u2,u3])) (v0 v1 v2 v3:Value) (hw:w0.heap.size≤g) :
  Wk c n v nv0 w0 nv ((((w.setCell ⟨g,0,none⟩ v0).setCell ⟨g,1,none⟩ v1).setCell ⟨g,2,none⟩ v2).setCell ⟨g,3,none⟩ v3) (L.set j (g,[v0,v1,v2,v3])):=by
 have hj:j<L.length:=(List.getElem?_eq_some_iff.1 hx).1
 have h1:=h.put j 0 hx v0 hw
 have h2:=h1.put j 1 (g:=g) (vs:=[v0,u1,u2,u3]) (by rw [List.getElem?_set];simp [hj]) v1 hw
 have h3:=h2.put j 2 (g:=g) (vs:=[v0,v1,u2,u3]) (by rw [List.getElem?_set];simp [hj]) v2 hw
 have h4:=h3.put j 3 (g:=g) (vs:=[v0,v1,v2,u3]) (by rw [List.getElem?_set];simp [hj]) v3 hw
 simpa using h4
theorem Wk.tl {c:PC} {n:Nat} {v:VS} {nv0 nv:Value} {w0 w:World} {x:Nat×List Value} {L:List (Nat×List Value)} (h:Wk c n v nv0 w0 nv w (x::L)):Wk c n v nv0 w0 nv w L:=⟨h.p,h.s,h.low,h.b.tl,fun y hy=>h.off y (List.mem_cons_of_mem _ hy),h.start0⟩
def tkV (t:NextR):Value:=.agg #[.int .i64 t.r.kind,.string t.txt,.int .i64 t.r.n,.int .i64 t.r.at_,.int .i64 t.r.end_,.bool t.lay]
def Fall (c:PC) (nv:Value) (w0 w:World):Prop:=Below c.B1 w0 w∧∃nv',Stp c nv w0 nv' w
theorem Wk.fall {c:PC} {n:Nat} {v:VS} {nv0 nv:Value} {w0 w w':World} {L:List (Nat×List Value)} (h:Wk c n v nv0 w0 nv w L) (f:Fall c nv w w'):Fall c nv0 w0 w':=by
 obtain ⟨nv',s⟩:=f.2
 exact ⟨h.low.trans f.1,nv',h.s.trans s⟩
theorem Fall.of {c:PC} {n:Nat} {v:VS} {nv:Value} {w w':World} (p:PsAt c n v nv w) (h:Below w.heap.size w w'):Fall c nv w w':=⟨h.mono (by have:=p.low;have:=p.ok.p1;omega),nv,.of h⟩
def Bad (c:PC) (nv:Value) (w0:World) (k:Nat) (e:Ending) (w:World):Prop:=e=.panicked [{ v:=.iface 102 (.agg #[.int .i64 (c.E.at k).r.at_]),recovered:=false }]∧Fall c nv w0 w
end Go.Proofs.YtbojljpldcijgaaGreat
namespace Go.Proofs.YtbojljpldcijgaaGreat
open Go.RowKit Hb
set_option maxRecDepth 100000
set_option linter.unusedSimpArgs false
theorem tok_get {c:PC} {n:Nat} {v:VS} {nv:Value} {w:World} (p:PsAt c n v nv w) (k:Nat):∃j,j<c.E.T.length∧j=min (n+k) (c.E.T.length-1) ∧
  w.cell? ⟨c.g,j * 6,none⟩=some (.int .i64 (c.E.at (n+k)).r.kind)∧w.cell? ⟨c.g,j * 6+1,none⟩=some (.string (c.E.at (n+k)).txt)∧w.cell? ⟨c.g,j * 6+2,none⟩=some (.int .i64 (c.E.at (n+k)).r.n)∧w.cell? ⟨c.g,j * 6+3,none⟩=some (.int .i64 (c.E.at (n+k)).r.at_)∧w.cell? ⟨c.g,j * 6+4,none⟩=some (.int .i64 (c.E.at (n+k)).r.end_)∧w.cell? ⟨c.g,j * 6+5,none⟩=some (.bool (c.E.at (n+k)).lay):=by
 have hpos:=p.ok.pos
 have hj:min (n+k) (c.E.T.length-1)<c.E.T.length:=by omega
 have ht:c.E.at (n+k)=c.E.T[min (n+k) (c.E.T.length-1)]:=by
  unfold RE.at tokA
  rw [List.getD_eq_getElem?_getD,List.getElem?_eq_getElem hj];rfl
 refine ⟨_,hj,rfl,?_⟩
 rw [ht]
 have h:=p.tk _ hj
 exact ⟨h 0 _ rfl,h 1 _ rfl,h 2 _ rfl,h 3 _ rfl,h 4 _ rfl,h 5 _ rfl⟩
theorem tl_dataR (s:ByteArray):s.toList=s.data.toList:=tl_dataO s
theorem isP_eq (t:NextR) (s:ByteArray):isP t s.data.toList=(t.r.kind==6&&t.txt.toList==s.toList):=by
 rw [tl_dataR,tl_dataR];rfl
theorem minK {n k len j:Nat} (hn:n+k≤100000) (hp:0<len) (hl:len≤20000) (hj:j=min (n+k) (len-1)):min (wrap64 ((n:Int)+(k:Int))) (wrap64 ((len:Int)-1))=(j:Int):=by
 rw [IntWalk.wrap64_in _ (by omega),IntWalk.wrap64_in _ (by omega)]
 omega
set_option maxHeartbeats 1600000 in
theorem rd_peek {c:PC} {n:Nat} {v:VS} {nv:Value} {w:World} (p:PsAt c n v nv w) (k:Nat) (hk:k≤1):Calls Tryz.prog 35 #[.pointer (some ⟨c.P,0,none⟩),.int .i64 (k:Int)] w fun e w'=>e=.returned (tkV (c.E.at (n+k)))∧Below w.heap.size w w':=by
 have h0:=(Wk.start p).new [.int .i64 0,.string ⟨#[]⟩,.int .i64 0,.int .i64 0,.int .i64 0,.bool false] 76 rfl
 have HB:Hid (Below w.heap.size w (w.alloc (.cells #[.int .i64 0,.string ⟨#[]⟩,.int .i64 0,.int .i64 0,.int .i64 0,.bool false] 76))):=zq ((Below.refl _ _).alloc (Nat.le_refl _) _)
 obtain ⟨j,hj,hje,t0,t1,t2,t3,t4,t5⟩:=tok_get h0.p k
 have hmin:=minK (len:=c.E.T.length) (by have:=p.n1;have:=p.ok.len;omega) p.ok.pos p.ok.len hje
 have j0:(0:Int)≤(j:Int):=by omega
 have j1:(j:Int)<(c.E.T.length:Int):=by omega
 have cc:=h0.b.all
 simp only [PC.cells,List.cons_append,List.nil_append,List.append_nil,bksAll,bkAll,Nat.zero_add,Nat.reduceAdd,and_true] at cc
 generalize c.E.at (n+k)=t at *
 generalize c.E.T.length=len at *
 clear h0 p hje hj hk
 unfold tkV
 go_enter Tryz.func35,Tryz.ntmps35
 go_wp2_with fail
 go_region
 all_goals
  go_wp2_with fail
  refine bodyPost_ret (v:=.agg #[.int .i64 t.r.kind,.string t.txt,.int .i64 t.r.n,.int .i64 t.r.at_,.int .i64 t.r.end_,.bool t.lay]) (by simp [results,Tryz.results35,go_sem,cc]) rfl ⟨rfl,?_⟩
  repeat (first | (with_reducible exact HB.out) | (with_reducible exact Below.refl _ _) | (with_reducible refine Below.setCell ?_ (by simp) _) | (with_reducible refine Below.alloc ?_ (by simp) _) | (with_reducible refine Below.drew ?_))
theorem rd_punct (t:NextR) (s:ByteArray) (w:World):Calls Tryz.prog 141 #[tkV t,.string s] w fun e w'=>e=.returned (.bool (isP t s.data.toList))∧Below w.heap.size w w':=by
 have HB:=zq ((Below.refl w.heap.size w).alloc (Nat.le_refl _) (.cells #[.int .i64 t.r.kind,.string t.txt,.int .i64 t.r.n,.int .i64 t.r.at_,.int .i64 t.r.end_,.bool t.lay] 76))
 have HE:Hid (isP t s.data.toList=(t.r.kind==6&&t.txt.toList==s.toList)):=zq (isP_eq t s)
 rw [HE.out]
 unfold tkV
 generalize t.txt=x at *
 by_cases h6:t.r.kind=6
 ·have b6:(t.r.kind==6)=true:=by simpa using h6
  rw [b6]
  clear h6
  go_enter Tryz.func141,Tryz.ntmps141
  go_wp2_with fail
  go_ret
  exact ⟨by simp,HB.out⟩
 ·have b6:(t.r.kind==6)=false:=by simpa using h6
  rw [b6]
  clear h6
  go_enter Tryz.func141,Tryz.ntmps141
  go_wp2_with fail
  go_ret
  exact ⟨rfl,HB.out⟩
theorem rd_name (t:NextR) (w:World):Calls Tryz.prog 143 #[tkV t] w fun e w'=>e=.returned (.bool (isNam t))∧Below w.heap.size w w':=by
 have HB:=zq ((Below.refl w.heap.size w).alloc (Nat.le_refl _) (.cells #[.int .i64 t.r.kind,.string t.txt,.int .i64 t.r.n,.int .i64 t.r.at_,.int .i64 t.r.end_,.bool t.lay] 76))
 unfold tkV isNam
 by_cases h6:t.r.kind=1
 ·have b6:(t.r.kind==1)=true:=by simpa using h6
  rw [b6]
  clear h6
  go_enter Tryz.func143,Tryz.ntmps143
  go_wp2_with fail
  go_ret
  exact ⟨rfl,HB.out⟩
 ·have b6:(t.r.kind==1)=false:=by simpa using h6
  rw [b6]
  clear h6
  go_enter Tryz.func143,Tryz.ntmps143
  go_wp2_with fail
  go_ret
  exact ⟨rfl,HB.out⟩
theorem rd_opens (t:NextR) (w:World):Calls Tryz.prog 198 #[tkV t] w fun e w'=>e=.returned (.bool (opn t))∧Below w.heap.size w w':=by
 have HB:=zq ((Below.refl w.heap.size w).alloc (Nat.le_refl _) (.cells #[.int .i64 t.r.kind,.string t.txt,.int .i64 t.r.n,.int .i64 t.r.at_,.int .i64 t.r.end_,.bool t.lay] 76))
 have HC:=zq fun W=>rd_punct t ⟨#[40]⟩ W
 have HK:=zq ((Bks.nil w).new [.int .i64 t.r.kind,.string t.txt,.int .i64 t.r.n,.int .i64 t.r.at_,.int .i64 t.r.end_,.bool t.lay] 76 rfl)
 unfold tkV opn at *
 have e1:isP t (⟨#[40]⟩:ByteArray).data.toList=isP t [40]:=rfl
 rw [e1] at HC
 generalize isP t [40]=b at *
 clear e1
 cases b
 all_goals
  have cc:=HK.out.all
  simp only [PC.cells,List.cons_append,List.nil_append,List.append_nil,bksAll,bkAll,Nat.zero_add,Nat.reduceAdd,and_true] at cc
  go_enter Tryz.func198,Tryz.ntmps198
  go_wp2_with fail
  refine (HC.out _).mono ?_;rintro e w1 ⟨rfl,hB⟩
  have cc1:=(HK.out.call hB).all
  simp only [PC.cells,List.cons_append,List.nil_append,List.append_nil,bksAll,bkAll,Nat.zero_add,Nat.reduceAdd,and_true] at cc1
  clear cc
  have hB1:=HB.out.trans (hB.mono HB.out.size)
  go_wp2_with fail
  go_ret
  exact ⟨rfl,hB1⟩
theorem rd_structure (s:ByteArray) (A:Option Addr) (n cap:Nat) (w:World):Calls Tryz.prog 97 #[.string s,.slice A n cap] w fun e w'=>e=.returned (.agg #[.int .i64 3,.int .i64 0,.string s,.slice A n cap])∧Below w.heap.size w w':=by
 have HB:=zq ((Below.refl w.heap.size w).alloc (Nat.le_refl _) (.cells #[.int .i64 3,.int .i64 0,.string s,.slice A n cap] 30))
 go_enter Tryz.func97,Tryz.ntmps97
 go_wp2_with fail
 exact bodyPost_ret (v:=.agg #[.int .i64 3,.int .i64 0,.string s,.slice A n cap]) (by simp [results,Tryz.results97,go_sem]) rfl ⟨rfl,HB.out⟩
theorem rd_fail {c:PC} {n:Nat} {v:VS} {nv:Value} {w:World} (p:PsAt c n v nv w):Calls Tryz.prog 57 #[.pointer (some ⟨c.P,0,none⟩)] w fun e w'=>Bad c nv w n e w':=by
 have HP:=zq (rd_peek p 0 (by decide))
 have HX:Hid (∀w',Below w.heap.size w w'→Bad c nv w n (.panicked [{ v:=.iface 102 (.agg #[.int .i64 (c.E.at n).r.at_]),recovered:=false }]) w'):=zq fun w' h=>⟨rfl,Fall.of p h⟩
 rw [Nat.add_zero] at HP
 unfold tkV at HP
 generalize c.E.at n=t at *
 clear p
 have hf:∀W,(Instr.field 76 (.agg #[.int .i64 t.r.kind,.string t.txt,.int .i64 t.r.n,.int .i64 t.r.at_,.int .i64 t.r.end_,.bool t.lay]) 3).run Tryz.prog W=.ok (.int .i64 t.r.at_) W:=fun W=>by kernel_rfl
 go_enter Tryz.func57,Tryz.ntmps57
 go_wp2_with fail
 refine HP.out.mono ?_;rintro e w1 ⟨rfl,hB⟩
 go_wp2_with fail
 exact ⟨rfl,HX.out _ hB⟩
end Go.Proofs.YtbojljpldcijgaaGreat
namespace Hb
open Go Go.RowKit
theorem tmsK_row {K K':Nat→Prop} {w:World} (e:TypeId) (rs:List TR) (hm:rs.length≤maxLen) (hg:K w.heap.size) (hK:∀b,K' b→K b∧b<w.heap.size) (hrs:∀r∈rs,TmsK K' w r.2.1 r.1.args):TmsK K (w.alloc (.cells (rowsC rs).toArray e)) (some ⟨w.heap.size,0,none⟩) (rs.map (·.1)):=by
 have hc:∀k u,(rowsC rs)[k]? = some u→(w.alloc (.cells (rowsC rs).toArray e)).cell? ⟨w.heap.size,0+k,none⟩=some u:=fun k u hu=>by
  rw [Nat.zero_add,World.cell?_alloc_new];simpa using hu
 refine .mk _ _ (fun j=>(rs.getD j (tm0,none,0)).2.1) (fun j=>(rs.getD j (tm0,none,0)).2.2) (by rw [List.length_map];exact hm) (fun j hj=>?_) (fun j hj=>?_)
 ·rw [List.length_map] at hj
  obtain ⟨p0,p1,p2,p3⟩:=rowsC_get rs j hj
  have e1:rs.getD j (tm0,none,0)=rs[j]:=by rw [List.getD_eq_getElem?_getD,List.getElem?_eq_getElem hj];rfl
  refine ⟨w.heap.size,0,rfl,hg,?_,?_,?_,?_⟩
  ·rw [List.getElem_map];exact hc _ _ p0
  ·rw [List.getElem_map];exact hc _ _ p1
  ·rw [List.getElem_map];exact hc _ _ p2
  ·rw [List.getElem_map];simp only [e1];exact hc _ _ p3
 ·rw [List.length_map] at hj
  have e1:rs.getD j (tm0,none,0)=rs[j]:=by rw [List.getD_eq_getElem?_getD,List.getElem?_eq_getElem hj];rfl
  rw [List.getElem_map];simp only [e1]
  exact (hrs _ (List.getElem_mem hj)).keep (fun b hb=>heap_alloc_old w _ (hK b hb).2) (fun b hb=>(hK b hb).1)
end Hb
namespace Go.Proofs.YtbojljpldcijgaaGreat
open Go.RowKit Hb
set_option maxRecDepth 100000
def _root_.Hb.PC.new (c:PC) (nv:Value) (w0 w:World) (b:Nat):Prop:=w0.heap.size≤b∧b<w.heap.size∧¬c.mine nv b
theorem new_stp {c:PC} {nv nv':Value} {w0 w w':World} (s:Stp c nv w nv' w') {b:Nat} (h:c.new nv w0 w b):c.new nv' w0 w' b:=⟨h.1,Nat.lt_of_lt_of_le h.2.1 s.size,fun e=>h.2.2 (by
 rcases e with e | e | e | e
 ·exact .inl e
 ·exact .inr (.inl e)
 ·exact .inr (.inr (.inl e))
 ·rcases s.own b e with e | e
  ·exact .inr (.inr (.inr e))
  ·have:=h.2.1;omega)⟩
def Trm (c:PC) (nv:Value) (w0 w:World) (F:List Nat) (A:Option Addr) (l:List Tm):Prop:=TmsK (fun b=>c.new nv w0 w b∧b ∉ F) w A l
theorem Trm.step {c:PC} {nv nv':Value} {w0 w w':World} {F:List Nat} {A:Option Addr} {l:List Tm} (h:Trm c nv w0 w F A l) (s:Stp c nv w nv' w'):Trm c nv' w0 w' F A l :=
 h.keep (fun b hb=>s.block b hb.1.2.1 hb.1.2.2) fun _ hb=>⟨new_stp s hb.1,hb.2⟩
theorem Trm.call {c:PC} {nv:Value} {w0 w w':World} {F:List Nat} {A:Option Addr} {l:List Tm} (h:Trm c nv w0 w F A l) (hB:Below w.heap.size w w'):Trm c nv w0 w' F A l:=h.step (.of hB)
theorem Trm.new {c:PC} {nv:Value} {w0 w:World} {F:List Nat} {A:Option Addr} {l:List Tm} (h:Trm c nv w0 w F A l) (o:Obj) {g:Nat} (hg:w.heap.size=g):Trm c nv w0 (w.alloc o) (g::F) A l :=
 TmsK.keep h (fun b hb=>((Below.refl w.heap.size w).alloc (Nat.le_refl _) o).block b hb.1.2.1) fun b hb=>⟨⟨hb.1.1,Nat.lt_of_lt_of_le hb.1.2.1 (by simp),hb.1.2.2⟩,fun e=>by
  rcases List.mem_cons.1 e with e | e
  ·have:=hb.1.2.1;omega
  ·exact hb.2 e⟩
theorem Trm.put {c:PC} {nv:Value} {w0 w w':World} {F:List Nat} {A:Option Addr} {l:List Tm} (h:Trm c nv w0 w F A l) {g:Nat} (hg:g∈F) (hb:∀k,k≠g→w'.heap[k]? = w.heap[k]?) (hs:w.heap.size≤w'.heap.size):Trm c nv w0 w' F A l :=
 TmsK.keep h (fun b hb2=>hb b (fun e=>hb2.2 (e ▸ hg))) fun _ hb2=>⟨⟨hb2.1.1,Nat.lt_of_lt_of_le hb2.1.2.1 hs,hb2.1.2.2⟩,hb2.2⟩
theorem Trm.fewer {c:PC} {nv:Value} {w0 w:World} {F F':List Nat} {A:Option Addr} {l:List Tm} (h:Trm c nv w0 w F A l) (hF:∀b∈F',b∈F):Trm c nv w0 w F' A l:=TmsK.keep h (fun _ _=>rfl) fun b hb=>⟨hb.1,fun e=>hb.2 (hF b e)⟩
theorem Trm.sub {c:PC} {nv:Value} {w0 w1 w:World} {F:List Nat} {A:Option Addr} {l:List Tm} (h:TmsK (c.new nv w1 w) w A l) (hs:w0.heap.size≤w1.heap.size) (hF:∀b∈F,b<w1.heap.size):Trm c nv w0 w F A l :=
 TmsK.keep h (fun _ _=>rfl) fun b hb=>⟨⟨Nat.le_trans hs hb.1,hb.2⟩,fun e=>by have:=hF b e;have:=hb.1;omega⟩
theorem Trm.out {c:PC} {nv:Value} {w0 w:World} {F:List Nat} {A:Option Addr} {l:List Tm} (h:Trm c nv w0 w F A l):TmsK (c.new nv w0 w) w A l:=TmsK.keep h (fun _ _=>rfl) fun _ hb=>hb.1
theorem Trm.row {c:PC} {n:Nat} {v:VS} {nv:Value} {w0 w:World} {F:List Nat} (p:PsAt c n v nv w) (hw:w0.heap.size≤w.heap.size) (hF:∀b∈F,b<w.heap.size) (e:TypeId) (rs:List TR) (hm:rs.length≤maxLen) (hrs:∀r∈rs,Trm c nv w0 w F r.2.1 r.1.args):Trm c nv w0 (w.alloc (.cells (rowsC rs).toArray e)) F (some ⟨w.heap.size,0,none⟩) (rs.map (·.1)):=by
 refine tmsK_row (K':=fun b=>c.new nv w0 w b∧b ∉ F) e rs hm ⟨⟨hw,by simp,fun hm=>?_⟩,fun hm=>?_⟩ (fun b hb=>⟨⟨⟨hb.1.1,Nat.lt_of_lt_of_le hb.1.2.1 (by simp),hb.1.2.2⟩,hb.2⟩,hb.1.2.1⟩) hrs
 ·have:=p.lts hm;omega
 ·have:=hF _ hm;omega
structure OwnT (c:PC) (nv:Value) (w0 w:World) (F:List Nat) (v:Value) (rs:List TR):Prop where
 own:w.ownsRow w0.heap.size 30 4 v rs.length (rowsC rs)
 off:∀g,v.ownBlock=some g→¬c.mine nv g∧g ∉ F
 sub:∀r∈rs,TmsK (fun b=>(c.new nv w0 w b∧b ∉ F)∧v.ownBlock≠some b) w r.2.1 r.1.args
theorem OwnT.nul (c:PC) (nv:Value) (w0 w:World) (F:List Nat):OwnT c nv w0 w F (.slice none 0 0) []:=⟨World.ownsRow_nil _ _ _ _,fun g h=>(by cases h),fun r hr=>absurd hr (by simp)⟩
theorem OwnT.step {c:PC} {nv nv':Value} {w0 w w':World} {F:List Nat} {v:Value} {rs:List TR} (h:OwnT c nv w0 w F v rs) (s:Stp c nv w nv' w'):OwnT c nv' w0 w' F v rs where
 own:=row_keep h.own fun k hk=>s.block k (h.own.lt k hk).2 (h.off k hk).1
 off:=fun g hg=>⟨fun hm=>(new_stp (w0:=w0) s ⟨(h.own.lt g hg).1,(h.own.lt g hg).2,(h.off g hg).1⟩).2.2 hm,(h.off g hg).2⟩
 sub:=fun r hr=>(h.sub r hr).keep (fun b hb=>s.block b hb.1.1.2.1 hb.1.1.2.2) fun _ hb=>⟨⟨new_stp s hb.1.1,hb.1.2⟩,hb.2⟩
theorem OwnT.call {c:PC} {nv:Value} {w0 w w':World} {F:List Nat} {v:Value} {rs:List TR} (h:OwnT c nv w0 w F v rs) (hB:Below w.heap.size w w'):OwnT c nv w0 w' F v rs:=h.step (.of hB)
theorem OwnT.snoc {c:PC} {n:Nat} {u:VS} {nv:Value} {w0 W w2:World} {F:List Nat} {v v':Value} {rs:List TR} (h:OwnT c nv w0 W F v rs) (p:PsAt c n u nv W) (hF:∀b∈F,b<W.heap.size) (r:TR) (hr:TmsK (fun b=>(c.new nv w0 W b∧b ∉ F)∧v.ownBlock≠some b) W r.2.1 r.1.args)
  (hown:w2.ownsRow w0.heap.size 30 4 v' (rs.length+1) (rowsC rs++rowC r)) (hg:W.grownBy w2 v.ownBlock) (hat:v'.ownBlock=v.ownBlock∨v'.ownBlock=some W.heap.size):OwnT c nv w0 w2 F v' (rs++[r]) where
 own:=by
  rw [rowsC_app,List.length_append]
  have e1:rowsC [r]=rowC r:=by unfold rowsC;simp
  rw [e1];exact hown
 off:=fun g hg2=>by
  rcases hat with h' | h'
  ·rw [h'] at hg2;exact h.off g hg2
  ·rw [h'] at hg2;injection hg2 with hg2
   exact ⟨fun hm=>by have:=p.lts hm;omega,fun hm=>by have:=hF g hm;omega⟩
 sub:=by
  have key:∀{A:Option Addr} {l:List Tm},TmsK (fun b=>(c.new nv w0 W b∧b ∉ F)∧v.ownBlock≠some b) W A l→TmsK (fun b=>(c.new nv w0 w2 b∧b ∉ F)∧v'.ownBlock≠some b) w2 A l:=fun hk=>by
   refine hk.keep (fun b hb=>hg.block b hb.1.1.2.1 (fun e=>hb.2 e.symm)) (fun b hb=>⟨⟨⟨hb.1.1.1,Nat.lt_of_lt_of_le hb.1.1.2.1 hg.size,hb.1.1.2.2⟩,hb.1.2⟩,fun e=>?_⟩)
   rcases hat with h' | h'
   ·rw [h'] at e;exact hb.2 e
   ·rw [h'] at e;injection e with e;have:=hb.1.1.2.1;omega
  intro x hx
  rcases List.mem_append.1 hx with hx | hx
  ·exact key (h.sub x hx)
  ·rw [List.mem_singleton] at hx;subst hx;exact key hr
theorem OwnT.tms {c:PC} {nv:Value} {w0 w:World} {F:List Nat} {v:Value} {rs:List TR} (h:OwnT c nv w0 w F v rs):∃A cap,v=.slice A rs.length cap∧Trm c nv w0 w F A (rs.map (·.1)):=by
 have hsub:∀j (hj:j<rs.length),TmsK (fun b=>c.new nv w0 w b∧b ∉ F) w rs[j].2.1 rs[j].1.args:=fun j hj=>(h.sub _ (List.getElem_mem hj)).keep (fun _ _=>rfl) (fun b hb=>hb.1)
 rcases h.own.2 with ⟨hv,h0⟩ | ⟨g,cap,cur,hv,hg,hh,hn,hm,rest⟩
 ·have:rs=[]:=List.eq_nil_of_length_eq_zero h0
  subst this
  exact ⟨_,_,hv,TmsK.nil⟩
 ·refine ⟨some ⟨g,0,none⟩,cap,hv,.mk _ _ (fun j=>(rs.getD j (tm0,none,0)).2.1) (fun j=>(rs.getD j (tm0,none,0)).2.2) (by rw [List.length_map];omega) (fun j hj=>?_) (fun j hj=>?_)⟩
  ·rw [List.length_map] at hj
   obtain ⟨p0,p1,p2,p3⟩:=rowsC_get rs j hj
   have hc:∀k u,(rowsC rs)[k]? = some u→w.cell? ⟨g,0+k,none⟩=some u:=fun k u hu=>by
    have:=h.own.cells (g:=g) (by rw [hv];rfl) k u hu
    rw [addr_add] at this
    exact this
   have e1:rs.getD j (tm0,none,0)=rs[j]:=by rw [List.getD_eq_getElem?_getD,List.getElem?_eq_getElem hj];rfl
   have ho:=h.off g (by rw [hv];rfl)
   refine ⟨g,0,rfl,⟨⟨hg,(Array.getElem?_eq_some_iff.1 hh).1,ho.1⟩,ho.2⟩,?_,?_,?_,?_⟩
   ·rw [List.getElem_map];exact hc _ _ p0
   ·rw [List.getElem_map];exact hc _ _ p1
   ·rw [List.getElem_map];exact hc _ _ p2
   ·rw [List.getElem_map];simp only [e1];exact hc _ _ p3
  ·rw [List.length_map] at hj
   have e1:rs.getD j (tm0,none,0)=rs[j]:=by rw [List.getD_eq_getElem?_getD,List.getElem?_eq_getElem hj];rfl
   rw [List.getElem_map];simp only [e1]
   exact hsub j hj
theorem infoTermR:(Tryz.prog.info? 30).map (fun i=>(i.zero,i.size,i.bytes))=some (some (.agg #[.int .i64 0,.int .i64 0,.string ⟨#[]⟩,.slice none 0 0]),4,56):=by kernel_rfl
theorem wpList_app_term {w W:World} {ops:Array Oper} {rest:List Oper} {o:Oper} {a:Act} {Q:Exit→Act→World→Prop} (hgd:o.guard=none) (s x:Operand)
  (ho:o.op=.call { callee:=.builtin .append,args:=#[s,x],argTypes:=#[28,28] }) (c:PC) (n:Nat) (u:VS) (nv:Value) (w0:World) (F:List Nat) (v:Value) (rs:List TR) (hs:a.eval s=v) (hO:OwnT c nv w0 W F v rs) (p:PsAt c n u nv W) (h0:w0.heap.size≤W.heap.size) (hF:∀b∈F,b<W.heap.size)
  (r:TR) (hr:TmsK (fun b=>(c.new nv w0 W b∧b ∉ F)∧v.ownBlock≠some b) W r.2.1 r.1.args) (cs:Array Value) (hcs:cs=(rowC r).toArray) (hw:w=W.alloc (.cells cs 30)) (hx:a.eval x=.slice (some ⟨W.heap.size,0,none⟩) 1 1) (hn:rs.length≤100000)
  (h:∀v' w',Hid (OwnT c nv w0 w' F v' (rs++[r]))→Hid (w.grownBy w' v.ownBlock)→wpList Tryz.prog ops Q rest (a.put o.dst v') w'):wpList Tryz.prog ops Q (o::rest) a w:=by
 obtain ⟨i,hi,hz0,hz1,hz2⟩:=info_parts infoTermR
 subst hw hcs
 have hB:Below W.heap.size W (W.alloc (.cells (rowC r).toArray 30)):=(Below.refl _ _).alloc (Nat.le_refl _) _
 have hO1:=hO.call hB
 refine wpList_append_own_at _ hgd s x 28 ho w0.heap.size 30 i _ 4 56 Tryz.underlying28 hi hz0 hz1 hz2 rfl (by decide) v rs.length (rowsC rs) hs hO1.own ⟨W.heap.size,0,none⟩ 1 1 (rowC r) hx rfl ?_ (by
   intro y hy
   simp only [rowC,List.mem_cons,List.mem_nil_iff,or_false] at hy
   rcases hy with rfl|rfl|rfl|rfl <;> rfl) (by unfold maxLen;omega) (by omega) (by simp;omega) ?_
 ·intro j y hy
  rw [addr_add]
  have:=World.cell?_alloc_new W (rowC r).toArray 30 j
  rw [show 0+j=j by omega,this]
  simpa using hy
 ·intro v' w' hown hgr _ hat
  refine h v' w' (zq (hO1.snoc (p.call hB) (fun b hb=>Nat.lt_of_lt_of_le (hF b hb) hB.size) r ?_ hown hgr hat)) (zq hgr)
  exact hr.keep (fun b hb=>hB.block b hb.1.1.2.1) fun b hb=>⟨⟨⟨hb.1.1.1,Nat.lt_of_lt_of_le hb.1.1.2.1 hB.size,hb.1.1.2.2⟩,hb.1.2⟩,hb.2⟩
theorem PsAt.keep {c:PC} {n:Nat} {v:VS} {nv:Value} {w w':World} (p:PsAt c n v nv w) (hs:w.heap.size≤w'.heap.size) (hm:∀b,c.mine nv b→w'.heap[b]? = w.heap[b]?) (hl:∀b,b<c.B1→w'.heap[b]? = w.heap[b]?):PsAt c n v nv w' :=
 ⟨p.ok,Nat.le_trans p.low hs,p.bk.keeps (hm _ (.inl rfl)),tok_keep p.tk (hl _ p.ok.gl),ops_keep p.ops hs (fun hp b off e=>hl b (p.ok.ob hp b off e)),p.vm.keep (hm _ (.inr (.inl rfl))),p.om.keep (hm _ (.inr (.inr (.inl rfl)))),row_keep p.nm (fun b hb=>hm b (.inr (.inr (.inr hb)))),p.n1,p.vn,p.vc⟩
theorem Wk.box {c:PC} {n:Nat} {v:VS} {nv0 nv:Value} {w0 w Y:World} {L:List (Nat×List Value)} (h:Wk c n v nv0 w0 nv w L) (hB:Below w.heap.size w Y) {e:Nat} {vs:List Value} (he:w.heap.size≤e) (hk:Bk Y e vs):Wk c n v nv0 w0 nv Y ((e,vs)::L):=by
 have h1:=h.call hB
 refine ⟨h1.p,h1.s,h1.low,⟨fun x hx=>?_,?_⟩,fun x hx=>?_,h.start0⟩
 ·rcases List.mem_cons.1 hx with rfl | hx
  ·exact hk
  ·exact h1.b.bk x hx
 ·show (List.map (·.1) ((e,vs)::(L++[(c.P,c.cells n v nv)]))).Pairwise (· > ·)
  rw [List.map_cons,List.pairwise_cons]
  refine ⟨fun g hg=>?_,h.b.ord⟩
  obtain ⟨x,hx,rfl⟩:=List.mem_map.1 hg
  have:=(h.b.bk x hx).lt
  show x.1<e
  omega
 ·rcases List.mem_cons.1 hx with rfl | hx
  ·intro hm
   have:=h.p.lts hm
   have he2:w.heap.size≤e:=he
   exact absurd this (by show ¬e<w.heap.size;omega)
  ·exact h.off x hx
theorem Wk.grown {c:PC} {n:Nat} {v:VS} {nv0 nv:Value} {w0 w w':World} {L:List (Nat×List Value)} {F:List Nat} {u:Value} {rs:List TR} (h:Wk c n v nv0 w0 nv w L) (hO:OwnT c nv w0 w F u rs) (hL:∀x∈L,x.1∈F) (hg:w.grownBy w' u.ownBlock):Wk c n v nv0 w0 nv w' L:=by
 have hne:∀b,u.ownBlock=some b→w0.heap.size≤b∧¬c.mine nv b∧b ∉ F:=fun b hb=>⟨(hO.own.lt b hb).1,(hO.off b hb).1,(hO.off b hb).2⟩
 have hl0:=h.s.size
 have hlo:=h.p.low
 have hp1:=h.p.ok.p1
 have hlow:∀b,b<c.B1→w'.heap[b]? = w.heap[b]?:=fun b hb=>hg.block b (by omega) fun e=>by
  have h3:=hne b e.symm
  exact absurd hb (by
   have:=h.low.size
   have:=h.start0
   omega)
 have hp:PsAt c n v nv w':=h.p.keep hg.size (fun b hb=>hg.block b (h.p.lts hb) fun e=>(hne b e.symm).2.1 hb) hlow
 have hs:Stp c nv0 w0 nv w':=⟨hg.os.trans h.s.os,hg.tape.trans h.s.tape,hg.output.trans h.s.output,Nat.le_trans h.s.size hg.size,fun b hb hm=>(hg.block b (by omega) fun e=>by have:=(hne b e.symm).1;omega).trans (h.s.block b hb hm),h.s.own⟩
 refine ⟨hp,hs,⟨hs.os,hs.tape,hs.output,hs.size,fun b hb=>(hlow b hb).trans (h.low.block b hb)⟩,⟨fun x hx=>?_,h.b.ord⟩,h.off,h.start0⟩
 rcases List.mem_append.1 hx with hx | hx
 ·have hk:=h.b.bk x (List.mem_append_left _ hx)
  exact hk.keeps (hg.block _ hk.lt fun e=>(hne _ e.symm).2.2 (hL x hx))
 ·rw [List.mem_singleton] at hx;subst hx;exact hp.bk
end Go.Proofs.YtbojljpldcijgaaGreat
namespace Go.Proofs.YtbojljpldcijgaaGreat
open Go.RowKit Hb
set_option maxRecDepth 100000
set_option linter.unusedSimpArgs false
theorem isP_kind {t:NextR} {s:List UInt8} (h:isP t s=true):¬t.r.kind=7:=by
 unfold isP at h;simp at h;omega
theorem rd_take_no {c:PC} {n:Nat} {v:VS} {nv:Value} {w:World} (p:PsAt c n v nv w) (s:ByteArray) (h:isP (c.E.at n) s.data.toList=false):Calls Tryz.prog 178 #[.pointer (some ⟨c.P,0,none⟩),.string s] w fun e w'=>e=.returned (.bool false)∧Below w.heap.size w w':=by
 have HPK:=zq (rd_peek p 0 (by decide))
 have HPU:=zq fun W=>rd_punct (c.E.at n) s W
 rw [h] at HPU
 rw [Nat.add_zero] at HPK
 clear h p
 go_enter Tryz.func178,Tryz.ntmps178
 go_wp2_with fail
 refine HPK.out.mono ?_;rintro e w1 ⟨rfl,hB1⟩
 go_wp2_with fail
 refine (HPU.out _).mono ?_;rintro e w2 ⟨rfl,hB2⟩
 have hB:=hB1.trans (hB2.mono hB1.size)
 go_wp2_with fail
 go_ret
 exact ⟨rfl,hB⟩
theorem rd_take_yes {c:PC} {n:Nat} {v:VS} {nv:Value} {w:World} (p:PsAt c n v nv w) (s:ByteArray) (h:isP (c.E.at n) s.data.toList=true):Calls Tryz.prog 178 #[.pointer (some ⟨c.P,0,none⟩),.string s] w fun e w'=>e=.returned (.bool true)∧PsAt c (n+1) v nv w'∧Stp c nv w nv w':=by
 have HPK:=zq (rd_peek p 0 (by decide))
 have HPU:=zq fun W=>rd_punct (c.E.at n) s W
 have hm:=p.more (isP_kind h)
 have HI:=zq (inc64 (n:=n) (by have:=p.ok.len;omega))
 have HM:=zq hm
 rw [h] at HPU
 rw [Nat.add_zero] at HPK
 have HQ0:=zq (Wk.start p)
 clear h p hm
 go_enter Tryz.func178,Tryz.ntmps178
 go_wp2_with fail
 refine HPK.out.mono ?_;rintro e w1 ⟨rfl,hB1⟩
 have HQ1:=zq (HQ0.out.call hB1)
 clear hB1 HQ0
 go_wp2_with fail
 refine (HPU.out _).mono ?_;rintro e w2 ⟨rfl,hB2⟩
 have HQ2:=zq (HQ1.out.call hB2)
 clear hB2 HQ1
 have cc:=HQ2.out.b.all
 simp only [PC.cells,List.cons_append,List.nil_append,List.append_nil,bksAll,bkAll,Nat.zero_add,Nat.reduceAdd,and_true] at cc
 have hi:=HI.out
 go_wp2_with fail
 go_ret
 have hq:=HQ2.out.inc HM.out
 exact ⟨rfl,hq.p,hq.s⟩
theorem rd_need_no {c:PC} {n:Nat} {v:VS} {nv:Value} {w:World} (p:PsAt c n v nv w) (s:ByteArray) (h:isP (c.E.at n) s.data.toList=false):Calls Tryz.prog 177 #[.pointer (some ⟨c.P,0,none⟩),.string s] w fun e w'=>Bad c nv w n e w':=by
 have HT:=zq (rd_take_no p s h)
 have HQ:=zq fun w' (hB:Below w.heap.size w w')=>rd_fail (p.call hB)
 have HW0:=zq (Wk.start p)
 clear h p
 go_enter Tryz.func177,Tryz.ntmps177
 go_wp2_with fail
 refine HT.out.mono ?_;rintro e w1 ⟨rfl,hB1⟩
 go_wp2_with fail
 refine (HQ.out _ hB1).mono ?_;rintro e w2 ⟨rfl,hB2⟩
 exact ⟨rfl,rfl,(HW0.out.call hB1).fall hB2⟩
theorem rd_need_yes {c:PC} {n:Nat} {v:VS} {nv:Value} {w:World} (p:PsAt c n v nv w) (s:ByteArray) (h:isP (c.E.at n) s.data.toList=true):Calls Tryz.prog 177 #[.pointer (some ⟨c.P,0,none⟩),.string s] w fun e w'=>e=.returned (.tuple #[])∧PsAt c (n+1) v nv w'∧Stp c nv w nv w':=by
 have HT:=zq (rd_take_yes p s h)
 clear h p
 go_enter Tryz.func177,Tryz.ntmps177
 go_wp2_with fail
 refine HT.out.mono ?_;rintro e w1 ⟨rfl,hp,hs⟩
 have HP:=zq hp
 have HS:=zq hs
 clear hp hs
 go_wp2_with fail
 go_end0
 exact ⟨rfl,HP.out,HS.out⟩
end Go.Proofs.YtbojljpldcijgaaGreat
