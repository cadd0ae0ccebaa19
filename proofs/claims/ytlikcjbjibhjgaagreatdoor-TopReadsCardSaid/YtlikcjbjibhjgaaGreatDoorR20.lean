/- Parts of the proof. -/
import Derived.Test.YtlikcjbjibhjgaaGreatDoorR01
import Derived.Test.YtlikcjbjibhjgaaGreatDoorR14
open Array renaming getElem?_eq_getElem -> bf, getElem?_eq_some_iff -> aM
open Bool renaming and_eq_true -> aF
open Go renaming Program -> dz, Value -> az, World -> ai, execOp -> aP
open Go.Act renaming put -> gd
open Go.Ending renaming returned -> aw
open Go.Region renaming wanted -> eQ
open Go.RowKit renaming Below -> ax
open Go.RowKit.Below renaming refl -> aj
open Go.Value renaming bool -> am, pointer -> au
open List renaming all_eq_true -> bh, mem_range -> dx, range -> aY
open Nat renaming le_refl -> ag, le_trans -> aI, lt_of_lt_of_le -> aC
namespace Hb
open Go Go.RowKit
def kU (ops:Array Oper) (j:Nat):Option Tmp:=(ops[j]?).bind (·.dst)
def jx (o:Oper):List Nat:=(o.after.toList.filter (Region.binds .any)).map (·.on)
def updV (val:Nat->az) (j:Nat) (v:az):Nat->az:=fun i=>if i=j then v else val i
theorem mu (val:Nat->az) (j:Nat) (v:az):updV val j v j=v:=if_pos rfl
theorem ep (val:Nat->az) {j i:Nat} (v:az) (h:i≠j):updV val j v i=val i:=if_neg h
theorem zL {val:Nat->az} {j:Nat} {v:az} {l:List Nat} (h:∀i∈l,i≠j):l.map (updV val j v)=l.map val:=List.map_congr_left fun i a=>ep val v (h i a)
def fz (ops:Array Oper) (S:Nat->Bool) (val:Nat->az) (a0:Act):Nat->Act
 | 0=>a0
 | m+1=>if S m=true then (fz ops S val a0 m).put (kU ops m) (val m) else fz ops S val a0 m
theorem Hh (a:Act) (d:Option Tmp) (v:az):(a.put d v).tmps.size=a.tmps.size:=by
 cases d <;> simp [gd]
theorem vU (ops:Array Oper) (S:Nat->Bool) (val:Nat->az) (a0:Act):∀m,(fz ops S val a0 m).tmps.size=a0.tmps.size:=by
 intro m
 induction m with
 | zero=>rfl
 | succ m ih=>
  unfold fz
  split
  ·rw [Hh,ih]
  ·exact ih
theorem pS {ops:Array Oper} {S S':Nat->Bool} {val val':Nat->az} {a0:Act}:∀m,(∀i,i<m->S i=S' i)->(∀i,i<m->S i=true->val i=val' i)->fz ops S val a0 m=fz ops S' val' a0 m:=by
 intro m
 induction m with
 | zero=>intros;rfl
 | succ m ih=>
  intro a b
  unfold fz
  rw [ih (fun i c=>a i (by omega)) (fun i c=>b i (by omega)),<-a m (by omega)]
  split
  ·rename_i d
   rw [b m (by omega) d]
  ·rfl
def MY (ops:Array Oper):Prop:=∀i j d,i≠j->kU ops i=some d->kU ops j≠some d
theorem zX {ops:Array Oper} {S:Nat->Bool} {val:Nat->az} {a0:Act} (hd:MY ops) {j:Nat} (v:az) (f:S j=false):∀m,j<m->fz ops (ik S j) (updV val j v) a0 m=(fz ops S val a0 m).put (kU ops j) v:=by
 intro m
 induction m with
 | zero=>intro h;cases h
 | succ m ih=>
  intro g
  by_cases e:j=m
  ·subst e
   rw [fz,lm,if_pos rfl,mu,fz,f,if_neg (by simp)]
   rw [pS (S':=S) (val':=val) j (fun i b=>ce S (by omega)) (fun i b _=>ep val v (by omega))]
  ·have c:j<m:=by omega
   rw [fz,ce S (fun h=>e h.symm),ep val v (fun h=>e h.symm),ih c]
   conv=>rhs;rw [fz]
   split
   ·exact Act.put_comm _ _ _ fun d a=>hd j m d (by omega) a
   ·rfl
theorem uX {a:Act} {t:Tmp} {v:az} (h:t<a.tmps.size):(a.put (some t) v).eval (.tmp t)=v:=by
 simp [Act.eval,gd,Array.getD,h]
theorem pk {ops:Array Oper} {S:Nat->Bool} {val:Nat->az} {a0:Act} (hd:MY ops) {i:Nat} {t:Tmp} (f:S i=true) (b:kU ops i=some t) (g:t<a0.tmps.size):∀m,i<m->(fz ops S val a0 m).eval (.tmp t)=val i:=by
 intro m
 induction m with
 | zero=>intro h;cases h
 | succ m ih=>
  intro j
  rw [fz]
  by_cases e:i=m
  ·subst e
   rw [if_pos f,b]
   exact uX (by rw [vU];exact g)
  ·split
   ·rw [Act.eval_put fun d c a=>by injection a with a;subst a;exact hd i m t e b c]
    exact ih (by omega)
   ·exact ih (by omega)
theorem uo {ops:Array Oper} {S:Nat->Bool} {val:Nat->az} {a0:Act} {t:Tmp}:∀m,(∀k,k<m->S k=true->kU ops k≠some t)->(fz ops S val a0 m).eval (.tmp t)=a0.eval (.tmp t):=by
 intro m
 induction m with
 | zero=>intros;rfl
 | succ m ih=>
  intro h
  rw [fz]
  split
  ·rename_i e
   rw [Act.eval_put fun d b a=>by injection a with a;subst a;exact h m (by omega) e b]
   exact ih fun k c=>h k (by omega)
  ·exact ih fun k c=>h k (by omega)
def eOf (ops:Array Oper) (val:Nat->az) (a0:Act) (o:Oper):Operand->az
 | .tmp t=>match (jx o).find? (fun i=>kU ops i==some t) with | some i=>val i | none=>a0.eval (.tmp t)
 | x=>a0.eval x
def wantB (val:Nat->az) (o:Oper):Bool :=
 match o.guard with
 | none=>true
 | some (g,b)=>match val g with | am c=>c==b | _=>false
inductive Cls where
 | pure | call | last
 | box (zs:List az) (st:Nat)
 | store (i:Nat)
def Cls.isBox:Cls->Bool | .box _ _=>true | _=>false
def Cls.isPure:Cls->Bool | .pure=>true | _=>false
def Cls.isLast:Cls->Bool | .last=>true | _=>false
structure ROp where
 cl:Cls
 A:List Nat
 D:List Nat
 vp:List az->Prop
 vc:List az->(Nat->Prop)->ai->Prop
 cs:List az->List az
 stab:∀vs N N' X X',vc vs N X->(∀b,N b->X'.heap[b]? = X.heap[b]?)->(∀b,N b->N' b)->X.heap.size<=X'.heap.size->vc vs N' X'
def cV (A D:List Nat) (vp:List az->Prop):ROp:=⟨.pure,A,D,vp,fun _ _ _=>True,fun _=>[],fun _ _ _ _ _ _ _ _ _=>trivial⟩
def jn (A D:List Nat) (vp:List az->Prop):ROp:=⟨.call,A,D,vp,fun _ _ _=>True,fun _=>[],fun _ _ _ _ _ _ _ _ _=>trivial⟩
def GY (A D:List Nat) (vp:List az->Prop) (a:List az->(Nat->Prop)->ai->Prop) (c:∀vs N N' X X',a vs N X->(∀b,N b->X'.heap[b]? = X.heap[b]?)->(∀b,N b->N' b)->X.heap.size<=X'.heap.size->a vs N' X'):ROp:=⟨.call,A,D,vp,a,fun _=>[],c⟩
def Lw (A D:List Nat) (vp:List az->Prop):ROp:=⟨.last,A,D,vp,fun _ _ _=>True,fun _=>[],fun _ _ _ _ _ _ _ _ _=>trivial⟩
def GZ (A:List Nat) (zs:List az) (a:Nat):ROp:=⟨.box zs a,A,[],fun _=>True,fun _ _ _=>True,fun _=>[],fun _ _ _ _ _ _ _ _ _=>trivial⟩
def tB (A D:List Nat) (i:Nat) (a:List az->List az):ROp:=⟨.store i,A,D,fun _=>True,fun _ _ _=>True,a,fun _ _ _ _ _ _ _ _ _=>trivial⟩
def Nm:ROp:=cV [] [] fun _=>True
def opAt (sp:List ROp) (j:Nat):ROp:=sp.getD j Nm
def Ge (ops:Array Oper) (sp:List ROp) (a j:Nat) (o:Oper) (t:Tmp):Bool :=
 match (jx o).find? (fun i=>kU ops i==some t) with
 | some i=>decide (i<ops.size)&&decide (t<a)
 | none=>(aY ops.size).all fun k=>kU ops k != some t||(opAt sp k).A.contains j||k==j
def ss (ops:Array Oper) (sp:List ROp) (j:Nat) (o:Oper):Bool :=
 match (opAt sp j).cl with
 | .pure | .call=>true
 | .last=>(aY ops.size).all fun k=>k==j||(opAt sp k).cl.isPure||(opAt sp j).A.contains k
 | .box _ st=>o.guard.isNone&&decide (st<ops.size)&&(match (opAt sp st).cl with | .store i=>i==j | _=>false)
 | .store i=>o.guard.isNone&&decide (i<ops.size)&&(opAt sp j).A.contains i&&(match (opAt sp i).cl with | .box _ st=>st==j | _=>false)&&((opAt sp j).D.all fun k=>k != j)
def Lz (ops:Array Oper) (sp:List ROp) (a j:Nat) (o:Oper):Bool :=
 ((jx o).all fun d=>decide (d<j)&&(opAt sp j).A.contains d) &&
 ((opAt sp j).A.all fun i=>decide (i<j)&&((jx o).contains i||(jx o).any fun d=>(opAt sp d).A.contains i)) &&
 ((opAt sp j).D.all fun i=>i==j||(opAt sp j).A.contains i) &&
 (match o.op with | .select _ _=>false | _=>true) &&
 (o.op.operands.toList.all fun | .tmp t=>Ge ops sp a j o t | _=>true) &&
 (match o.guard with | none=>true | some (g,_)=>(jx o).contains g&&(match kU ops g with | some t=>decide (t<a) | none=>false)) &&
 (match o.dst with | none=>true | some d=>(aY ops.size).all fun i=>i==j||kU ops i != some d) &&
 ss ops sp j o
def iC (ops:Array Oper) (sp:List ROp) (a:Nat):Bool :=
 tI .any ops&&(aY ops.size).all fun j=>match ops[j]? with | some o=>Lz ops sp a j o | none=>false
def RunsTo (P:dz) (m:Sem Next) (X:ai) (R:az->ai->Prop):Prop :=
 (∃v X',m.run P X=.ok (.value v) X'/\R v X')\/(∃X',m.run P X=.ok .skip X'/\R undef X') \/
 (∃f args X1,m.run P X=.ok (.enter f args) X1/\Calls P f args X1 fun e w'=>∃v,e=aw v/\R v w')
theorem RunsTo.wp {P:dz} {o:Oper} {a:Act} {X:ai} {R:az->ai->Prop} {K:Act->ai->Prop} {Q:Exit->Act->ai->Prop} (h:RunsTo P (aP a.eval o) X R) (b:∀v w',R v w'->K (a.put o.dst v) w'):o.wp P a X K Q:=by
 unfold Oper.wp
 rcases h with ⟨v,c,e,h⟩ | ⟨c,e,h⟩ | ⟨f,args,d,e,h⟩
 ·rw [e];exact b _ _ h
 ·rw [e];exact b _ _ h
 ·rw [e,Oper.upon_enter]
  exact h.mono fun e w' ⟨v,he,hR⟩=>by subst he;exact b v w' hR
def Nb (n:Nat) (sp:List ROp) (S:Nat->Bool) (val:Nat->az) (X:ai) (b:Nat):Prop:=b<X.heap.size/\∀i,i<n->S i=true->(opAt sp i).cl.isBox=true->val i≠au (some ⟨b,0,none⟩)
def vals (sp:List ROp) (j:Nat) (val:Nat->az):List az:=(opAt sp j).D.map val
structure Full (n:Nat) (sp:List ROp) (BP:List az->Prop) (B:Nat) (w0:ai) (S:Nat->Bool) (val:Nat->az) (X:ai):Prop where
 bel:ax B w0 X
 low:B<=X.heap.size
 vcs:∀j,j<n->S j=true->(opAt sp j).cl=.call->(opAt sp j).vc (vals sp j val) (Nb n sp S val X) X
 bxs:∀i,i<n->S i=true->∀zs st,(opAt sp i).cl=.box zs st->∃b,val i=au (some ⟨b,0,none⟩)/\B<=b/\Bk X b (if S st=true then (opAt sp st).cs (vals sp st val) else zs)/\BP (if S st=true then (opAt sp st).cs (vals sp st val) else zs)
 dis:∀i k,i<n->k<n->S i=true->S k=true->(opAt sp i).cl.isBox=true->(opAt sp k).cl.isBox=true->i≠k->val i≠val k
theorem nr {ops:Array Oper} {sp:List ROp} {j:Nat} {o:Oper} (h:ss ops sp j o=true) (a:(opAt sp j).cl=.last):∀k,k<ops.size->k≠j->(opAt sp k).cl.isPure=false->k∈(opAt sp j).A:=by
 unfold ss at h
 rw [a] at h
 intro k b c d
 have:=bh.1 h k (dx.2 b)
 simpa [c,d] using this
theorem gJ {ops:Array Oper} {sp:List ROp} {j a:Nat} {zs:List az} {o:Oper} (h:ss ops sp j o=true) (c:(opAt sp j).cl=.box zs a):o.guard=none/\a<ops.size/\(opAt sp a).cl=.store j:=by
 unfold ss at h
 rw [c] at h
 simp only [aF,Option.isNone_iff_eq_none,decide_eq_true_eq] at h
 refine ⟨h.1.1,h.1.2,?_⟩
 have b:=h.2
 cases hs:(opAt sp a).cl <;> rw [hs] at b <;> simp at b |-
 exact b
theorem mf {ops:Array Oper} {sp:List ROp} {j i:Nat} {o:Oper} (h:ss ops sp j o=true) (b:(opAt sp j).cl=.store i):o.guard=none/\i<ops.size/\i∈(opAt sp j).A/\(∃zs,(opAt sp i).cl=.box zs j)/\∀k∈(opAt sp j).D,k≠j:=by
 unfold ss at h
 rw [b] at h
 simp only [aF,Option.isNone_iff_eq_none,decide_eq_true_eq,List.contains_iff_mem] at h
 refine ⟨h.1.1.1.1,h.1.1.1.2,h.1.1.2,?_,fun k c=>by simpa using bh.1 h.2 k c⟩
 have a:=h.1.2
 cases hs:(opAt sp i).cl <;> rw [hs] at a <;> simp at a |-
 exact a
structure Chk (ops:Array Oper) (sp:List ROp) (sz j:Nat) (o:Oper):Prop where
 dep:∀d∈jx o,d<j/\d∈(opAt sp j).A
 anc:∀i∈(opAt sp j).A,i<j/\(i∈jx o\/∃d∈jx o,i∈(opAt sp d).A)
 dd:∀i∈(opAt sp j).D,i=j\/i∈(opAt sp j).A
 sel:∀cs b,o.op≠.select cs b
 opr:∀t,Operand.tmp t∈o.op.operands->Ge ops sp sz j o t=true
 grd:∀g b,o.guard=some (g,b)->g∈jx o/\∃t,kU ops g=some t/\t<sz
 dst:∀d,o.dst=some d->∀i,i<ops.size->i≠j->kU ops i≠some d
 cls:ss ops sp j o=true
theorem fY {ops:Array Oper} {sp:List ROp} {q:Nat} (h:iC ops sp q=true) {j:Nat} {o:Oper} (p:ops[j]? = some o):Chk ops sp q j o:=by
 unfold iC at h
 rw [aF] at h
 have x:=(aM.1 p).1
 have a:=bh.1 h.2 j (dx.2 x)
 rw [p] at a
 dsimp only at a
 unfold Lz at a
 simp only [aF] at a
 obtain ⟨⟨⟨⟨⟨⟨⟨r,s⟩,u⟩,m⟩,v⟩,f⟩,n⟩,w⟩:=a
 refine ⟨fun d hd=>?_,fun i c=>?_,fun i c=>?_,fun z b e=>?_,fun t l=>?_,fun g b e=>?_,fun d e i c y=>?_,w⟩
 ·have:=bh.1 r d hd
  simpa using this
 ·have:=bh.1 s i c
  simpa using this
 ·have:=bh.1 u i c
  simpa using this
 ·rw [e] at m;cases m
 ·exact bh.1 v (.tmp t) (by simpa using l)
 ·rw [e] at f
  simp only [aF,List.contains_iff_mem] at f
  refine ⟨f.1,?_⟩
  have k:=f.2
  cases l:kU ops g with
  | none=>rw [l] at k;cases k
  | some t=>rw [l] at k;exact ⟨t,rfl,by simpa using k⟩
 ·rw [e] at n
  have:=bh.1 n i (dx.2 c)
  simpa [y] using this
theorem Dw {ops:Array Oper} {j:Nat} {o:Oper} (a:ops[j]? = some o):kU ops j=o.dst:=by
 unfold kU;rw [a];rfl
theorem sR {ops:Array Oper} {sp:List ROp} {n:Nat} (h:iC ops sp n=true):MY ops:=fun i j d f c a=>by
 have b:∀{k d},kU ops k=some d->∃o,ops[k]? = some o/\o.dst=some d:=fun {k d} h=>by
  unfold kU at h
  cases hk:ops[k]? with
  | none=>rw [hk] at h;cases h
  | some o=>rw [hk] at h;exact ⟨o,rfl,h⟩
 obtain ⟨o,g,m⟩:=b c
 obtain ⟨p,l,_⟩:=b a
 exact (fY h g).dst d m j (aM.1 l).1 (fun e=>f e.symm) a
def Down (ops:Array Oper) (S:Nat->Bool):Prop:=∀k o,ops[k]? = some o->S k=true->∀d∈jx o,S d=true
theorem Down.anc {ops:Array Oper} {sp:List ROp} {m:Nat} {S:Nat->Bool} (h:iC ops sp m=true) (b:Down ops S):∀k,k<ops.size->S k=true->∀i∈(opAt sp k).A,S i=true:=by
 intro k
 induction k using Nat.strongRecOn with
 | ind k ih=>
  intro j e i f
  have a:=bf j
  have c:=fY h a
  rcases (c.anc i f).2 with hd | ⟨d,hd,g⟩
  ·exact b k _ a e i hd
  ·have l:=(c.dep d hd).1
   exact ih d l (by omega) (b k _ a e d hd) i g
theorem vF {ops:Array Oper} {sp:List ROp} {k:Nat} {S:Nat->Bool} (h:iC ops sp k=true) (e:Down ops S) {j:Nat} {o:Oper} (b:ops[j]? = some o) (c:∀d∈jx o,S d=true):∀i∈(opAt sp j).A,S i=true:=fun i f=>by
 have a:=fY h b
 have l:=(aM.1 b).1
 rcases (a.anc i f).2 with hd | ⟨d,hd,g⟩
 ·exact c i hd
 ·exact e.anc h d (by have:=(a.dep d hd).1;omega) (c d hd) i g
theorem Af {ops:Array Oper} {S:Nat->Bool} (c:Down ops S) {j:Nat} {o:Oper} (g:ops[j]? = some o) (h:∀d∈jx o,S d=true):Down ops (ik S j):=fun k i a b d hd=>by
 have f:S d=true:=by
  by_cases e:k=j
  ·subst e;rw [g] at a;injection a with a;subst a;exact h d hd
  ·rw [ce S e] at b;exact c k i a b d hd
 unfold ik
 split
 ·rfl
 ·exact f
theorem KO {ops:Array Oper} {sp:List ROp} {a0:Act} {S:Nat->Bool} {val:Nat->az} (h:iC ops sp a0.tmps.size=true) (n:Down ops S) {j:Nat} {o:Oper} (q:ops[j]? = some o) (m:S j=false) (r:∀d∈jx o,S d=true):∀x∈o.op.operands,(fz ops S val a0 ops.size).eval x=eOf ops val a0 o x:=fun x s=>by
 cases x with
 | tmp t=>
  have a:=(fY h q).opr t s
  unfold Ge at a
  show _=(match (jx o).find? (fun i=>kU ops i==some t) with | some i=>val i | none=>a0.eval (.tmp t))
  cases hf:(jx o).find? (fun i=>kU ops i==some t) with
  | some i=>
   rw [hf] at a
   simp only [aF,decide_eq_true_eq] at a
   have p:=List.mem_of_find?_eq_some hf
   have c:=List.find?_some hf
   exact pk (sR h) (r i p) (by simpa using c) a.2 _ a.1
  | none=>
   rw [hf] at a
   refine uo _ fun k l e c=>?_
   have:=bh.1 a k (dx.2 l)
   simp only [Bool.or_eq_true,bne_iff_ne,ne_eq,List.contains_iff_mem,beq_iff_eq] at this
   rcases this with (b | b) | b
   ·exact b c
   ·have:=n.anc h k l e j b
    rw [m] at this;cases this
   ·subst b;rw [m] at e;cases e
 | const v=>rfl
 | global g=>rfl
 | func f=>rfl
theorem Dt {ops:Array Oper} {sp:List ROp} {a0:Act} {S:Nat->Bool} {val:Nat->az} (h:iC ops sp a0.tmps.size=true) (b:Down ops S) {j:Nat} {o:Oper} (a:ops[j]? = some o) (e:S j=false) (c:∀d∈jx o,S d=true):aP (fz ops S val a0 ops.size).eval o=aP (eOf ops val a0 o) o :=
 execOp_congr o (fY h a).sel (KO h b a e c)
theorem Cz {ops:Array Oper} {sp:List ROp} {a0:Act} {S:Nat->Bool} {val:Nat->az} (h:iC ops sp a0.tmps.size=true) {j:Nat} {o:Oper} (e:ops[j]? = some o) (m:∀d∈jx o,S d=true):eQ o (yielded ops (fz ops S val a0 ops.size).tmps)=wantB val o:=by
 unfold eQ wantB
 cases hg:o.guard with
 | none=>rfl
 | some gb=>
  obtain ⟨g,b⟩:=gb
  obtain ⟨hd,t,f,k⟩:=(fY h e).grd g b hg
  have l:g<ops.size:=by
   have:=((fY h e).dep g hd).1
   have:=(aM.1 e).1
   omega
  have a:=pk (a0:=a0) (val:=val) (sR h) (m g hd) f k _ l
  have i:t<(fz ops S val a0 ops.size).tmps.size:=by rw [vU];exact k
  have n:yielded ops (fz ops S val a0 ops.size).tmps g=match val g with | am c=>some c | _=>none:=by
   unfold yielded
   unfold kU at f
   rw [f]
   simp only [Option.bind_some]
   simp only [Act.eval,Array.getD,i,dif_pos] at a
   rw [bf i]
   simp only [Array.getInternal_eq_getElem] at a
   rw [a]
   cases val g <;> rfl
  dsimp only
  rw [n]
  cases val g <;> simp
theorem iU {ops:Array Oper} {sp:List ROp} {l:Nat} {S:Nat->Bool} {val:Nat->az} (h:iC ops sp l=true) (d:Down ops S) {j:Nat} (v:az) (c:S j=false) {k:Nat} (b:k<ops.size) (a:S k=true):vals sp k (updV val j v)=vals sp k val:=by
 refine zL fun i g e=>?_
 subst e
 rcases (fY h (bf b)).dd i g with rfl | f
 ·rw [c] at a;cases a
 ·have:=d.anc h k b a i f
  rw [c] at this;cases this
theorem Nb.of {n:Nat} {sp:List ROp} {S:Nat->Bool} {val:Nat->az} {X c:ai} {j:Nat} (v:az) (m:S j=false) (k:(opAt sp j).cl.isBox=false) (g:X.heap.size<=c.heap.size) {b:Nat} (h:Nb n sp S val X b):Nb n sp (ik S j) (updV val j v) c b:=⟨aC h.1 g,fun i l f a=>by
 have d:i≠j:=fun e=>by subst e;rw [k] at a;cases a
 rw [ep _ _ d]
 rw [ce _ d] at f
 exact h.2 i l f a⟩
theorem ow {c:Cls} (h:c.isBox=true):∃zs st,c=.box zs st:=by cases c <;> first | exact ⟨_,_,rfl⟩ | cases h
theorem Full.grow {ops:Array Oper} {sp:List ROp} {BP:List az->Prop} {L B:Nat} {w0:ai} {S:Nat->Bool} {val:Nat->az} {X m:ai} {j:Nat} (h:iC ops sp L=true) (y:Down ops S) (d:Full ops.size sp BP B w0 S val X) (v:az) (u:S j=false) (a:(opAt sp j).cl.isBox=false) (I:∀i,(opAt sp j).cl≠.store i)
  (c:ax X.heap.size X m) (K:(opAt sp j).cl=.call->(opAt sp j).vc (vals sp j (updV val j v)) (Nb ops.size sp (ik S j) (updV val j v) m) m):Full ops.size sp BP B w0 (ik S j) (updV val j v) m where
 bel:=d.bel.trans (c.mono d.low)
 low:=aI d.low c.size
 vcs:=fun k q f z=>by
  by_cases e:k=j
  ·subst e;exact K z
  ·rw [ce S e] at f
   rw [iU h y v u q f]
   exact (opAt sp k).stab _ _ _ _ _ (d.vcs k q f z) (fun b a=>c.block b a.1) (fun b G=>G.of v u a c.size) c.size
 bxs:=fun i g l zs A p=>by
  have e:i≠j:=fun e=>by subst e;rw [p] at a;cases a
  rw [ce S e] at l
  obtain ⟨b,D,E,F,n⟩:=d.bxs i g l zs A p
  have J:A≠j:=fun C=>by
   subst C
   exact I i (gJ (fY h (bf g)).cls p).2.2
  refine ⟨b,by rw [ep _ _ e];exact D,E,?_⟩
  rw [ce S J]
  have o:=F.call c
  split
  ·rename_i r
   rw [if_pos r] at o n
   rw [iU h y v u (gJ (fY h (bf g)).cls p).2.1 r]
   exact ⟨o,n⟩
  ·rename_i r
   rw [if_neg r] at o n
   exact ⟨o,n⟩
 dis:=fun i k g q l f s t H=>by
  have w:i≠j:=fun e=>by subst e;rw [a] at s;cases s
  have x:k≠j:=fun e=>by subst e;rw [a] at t;cases t
  rw [ce S w] at l
  rw [ce S x] at f
  rw [ep _ _ w,ep _ _ x]
  exact d.dis i k g q l f s t H
theorem Full.box {ops:Array Oper} {sp:List ROp} {BP:List az->Prop} {L B:Nat} {w0:ai} {S:Nat->Bool} {val:Nat->az} {X:ai} {j D:Nat} {zs:List az} (h:iC ops sp L=true) (F:Down ops S) (M:j<ops.size) (m:Full ops.size sp BP B w0 S val X) (H:S j=false) (s:(opAt sp j).cl=.box zs D) (q:S D=false) (J:BP zs) (e:TypeId) :
  Full ops.size sp BP B w0 (ik S j) (updV val j (au (some ⟨X.heap.size,0,none⟩))) (X.alloc (.cells zs.toArray e)) where
 bel:=m.bel.trans (((aj _ X).alloc (ag _) _).mono m.low)
 low:=aI m.low (by simp)
 vcs:=fun k t n C=>by
  by_cases f:k=j
  ·subst f
   rw [s] at C;cases C
  ·rw [ce S f] at n
   rw [iU h F _ H t n]
   refine (opAt sp k).stab _ _ _ _ _ (m.vcs k t n C) (fun b r=>Below.heap_alloc _ _ _ r.1) (fun b r=>⟨by have:=r.1;rw [World.size_alloc];omega,fun i c d p=>?_⟩) (by simp)
   by_cases g:i=j
   ·subst g
    rw [mu]
    intro l
    injection l with l;injection l with l;injection l with l
    have:=r.1
    omega
   ·rw [ep _ _ g]
    rw [ce S g] at d
    exact r.2 i c d p
 bxs:=fun i c d E y o=>by
  by_cases f:i=j
  ·subst f
   rw [s] at o
   injection o with a u
   subst a;subst u
   refine ⟨X.heap.size,mu _ _ _,m.low,?_⟩
   have x:D≠i:=fun f=>by
    subst f
    have:=(gJ (fY h (bf c)).cls s).2.2
    rw [s] at this;cases this
   rw [ce S x,q,if_neg (by simp)]
   exact ⟨Bk.new X zs e,J⟩
  ·rw [ce S f] at d
   obtain ⟨b,a,u,A,v⟩:=m.bxs i c d E y o
   have K:y≠j:=fun f=>by
    subst f
    have:=(gJ (fY h (bf c)).cls o).2.2
    rw [s] at this;cases this
   refine ⟨b,by rw [ep _ _ f];exact a,u,?_⟩
   rw [ce S K]
   have w:=A.al (.cells zs.toArray e)
   split
   ·rename_i q
    rw [if_pos q] at w v
    rw [iU h F _ H (gJ (fY h (bf c)).cls o).2.1 q]
    exact ⟨w,v⟩
   ·rename_i q
    rw [if_neg q] at w v
    exact ⟨w,v⟩
 dis:=fun i k c t d n p G x=>by
  have I:∀i,i<ops.size->S i=true->(opAt sp i).cl.isBox=true->val i≠au (some ⟨X.heap.size,0,none⟩):=fun i c d p l=>by
   obtain ⟨E,y,o⟩:=ow p
   obtain ⟨b,a,u,A,_⟩:=m.bxs i c d E y o
   rw [l] at a
   injection a with a;injection a with a;injection a with a
   have:=A.lt
   omega
  by_cases z:i=j
  ·subst z
   have g:k≠i:=fun e=>x e.symm
   rw [ce S g] at n
   rw [mu,ep _ _ g]
   exact (I k t n G).symm
  ·rw [ce S z] at d
   rw [ep _ _ z]
   by_cases g:k=j
   ·subst g
    rw [mu]
    exact I i c d p
   ·rw [ce S g] at n
    rw [ep _ _ g]
    exact m.dis i k c t d n p G x
theorem Full.put {ops:Array Oper} {sp:List ROp} {BP:List az->Prop} {sz B:Nat} {w0:ai} {S:Nat->Bool} {val:Nat->az} {X p:ai} {j i b:Nat} {zs:List az} (h:iC ops sp sz=true) (G:Down ops S) (hj:j<ops.size) (o:Full ops.size sp BP B w0 S val X) (C:S j=false) (n:(opAt sp j).cl=.store i) (y:(opAt sp i).cl=.box zs j) (H:i<ops.size) (J:S i=true) (E:val i=au (some ⟨b,0,none⟩)) (O:B<=b)
  (Q:ax b X p) (W:p.heap.size=X.heap.size) (I:∀k,k≠b->p.heap[k]? = X.heap[k]?) (R:Bk p b ((opAt sp j).cs (vals sp j val))) (T:BP ((opAt sp j).cs (vals sp j val))) (P:∀k∈(opAt sp j).D,k≠j) :
  Full ops.size sp BP B w0 (ik S j) (updV val j undef) p where
 bel:=o.bel.trans (Q.mono O)
 low:=by rw [W];exact o.low
 vcs:=fun k f d z=>by
  by_cases q:k=j
  ·subst q
   rw [n] at z;cases z
  ·rw [ce S q] at d
   rw [iU h G _ C f d]
   have Z:∀c,Nb ops.size sp S val X c->c≠b:=fun c r e=>by
    subst e
    exact r.2 i H J (by rw [y];rfl) E
   exact (opAt sp k).stab _ _ _ _ _ (o.vcs k f d z) (fun c r=>I c (Z c r)) (fun c r=>r.of undef C (by rw [n];rfl) (by omega)) (by omega)
 bxs:=fun k f d a0 L g=>by
  have q:k≠j:=fun e=>by subst e;rw [n] at g;cases g
  rw [ce S q] at d
  obtain ⟨v,a,M,N,s⟩:=o.bxs k f d a0 L g
  refine ⟨v,by rw [ep _ _ q];exact a,M,?_⟩
  by_cases m:k=i
  ·subst m
   rw [y] at g
   injection g with x1 x2
   subst x1;subst x2
   rw [lm,if_pos rfl]
   rw [E] at a
   injection a with a;injection a with a;injection a with a
   subst a
   have Y:vals sp j (updV val j undef)=vals sp j val:=zL P
   rw [Y]
   exact ⟨R,T⟩
  ·have A:v≠b:=fun e=>by
    subst e
    exact o.dis k i f H d J (by rw [g];rfl) (by rw [y];rfl) m (by rw [a,E])
   have t:=N.keeps (I v A)
   have V:L≠j:=fun e=>by
    subst e
    have:=(gJ (fY h (bf f)).cls g).2.2
    rw [n] at this
    injection this with this
    exact m this.symm
   rw [ce S V]
   split
   ·rename_i u
    rw [if_pos u] at t s
    rw [iU h G _ C (gJ (fY h (bf f)).cls g).2.1 u]
    exact ⟨t,s⟩
   ·rename_i u
    rw [if_neg u] at t s
    exact ⟨t,s⟩
 dis:=fun k l f U d K w x A=>by
  have F:k≠j:=fun e=>by subst e;rw [n] at w;cases w
  have m:l≠j:=fun e=>by subst e;rw [n] at x;cases x
  rw [ce S F] at d
  rw [ce S m] at K
  rw [ep _ _ F,ep _ _ m]
  exact o.dis k l f U d K w x A
structure Serves (P:dz) (ops:Array Oper) (sp:List ROp) (BP:List az->Prop) (B:Nat) (w0:ai) (a0:Act) (T:List az->ai->Prop):Prop where
 pure:∀j o val,ops[j]? = some o->(opAt sp j).cl=.pure->(∀i∈(opAt sp j).A,(opAt sp i).vp (vals sp i val)) ->
  (wantB val o=true->∃v,(∀X,(aP (eOf ops val a0 o) o).run P X=.ok (.value v) X)/\(opAt sp j).vp (vals sp j (updV val j v)))/\(wantB val o=false->(opAt sp j).vp (vals sp j (updV val j undef)))
 call:∀j o val X (N:Nat->Prop),ops[j]? = some o->(opAt sp j).cl=.call->ax B w0 X->(∀b,b<B->N b)->(∀b,N b->b<X.heap.size)->(∀b,b<X.heap.size->¬N b->∃vs,Bk X b vs/\BP vs)->(∀i∈(opAt sp j).A,(opAt sp i).vp (vals sp i val))->(∀i∈(opAt sp j).A,(opAt sp i).cl=.call->(opAt sp i).vc (vals sp i val) N X) ->
  (wantB val o=true->RunsTo P (aP (eOf ops val a0 o) o) X fun v X'=>ax X.heap.size X X'/\(opAt sp j).vp (vals sp j (updV val j v))/\∀N':Nat->Prop,(∀b,N b->N' b)->(∀b,X.heap.size<=b->b<X'.heap.size->N' b)->(opAt sp j).vc (vals sp j (updV val j v)) N' X') /\
  (wantB val o=false->(opAt sp j).vp (vals sp j (updV val j undef))/\∀N':Nat->Prop,(opAt sp j).vc (vals sp j (updV val j undef)) N' X)
 box:∀j o zs st val,ops[j]? = some o->(opAt sp j).cl=.box zs st->(opAt sp j).vp (vals sp j val)/\BP zs/\∃e,∀X,(aP (eOf ops val a0 o) o).run P X=.ok (.value (au (some ⟨X.heap.size,0,none⟩))) (X.alloc (.cells zs.toArray e))
 store:∀j o i zs val X b,ops[j]? = some o->(opAt sp j).cl=.store i->(opAt sp i).cl=.box zs j->(∀i∈(opAt sp j).A,(opAt sp i).vp (vals sp i val))->val i=au (some ⟨b,0,none⟩)->Bk X b zs ->
  (∀val,(opAt sp j).vp (vals sp j val))/\∃X',(aP (eOf ops val a0 o) o).run P X=.ok .skip X'/\ax b X X'/\X'.heap.size=X.heap.size/\(∀k,k≠b->X'.heap[k]? = X.heap[k]?)/\Bk X' b ((opAt sp j).cs (vals sp j val))/\BP ((opAt sp j).cs (vals sp j val))
 last:∀j o val X (N:Nat->Prop),ops[j]? = some o->(opAt sp j).cl=.last->ax B w0 X->(∀b,b<B->N b)->(∀b,N b->b<X.heap.size)->(∀b,b<X.heap.size->¬N b->∃vs,Bk X b vs/\BP vs)->(∀i∈(opAt sp j).A,(opAt sp i).vp (vals sp i val))->(∀i∈(opAt sp j).A,(opAt sp i).cl=.call->(opAt sp i).vc (vals sp i val) N X) ->
  (∀i∈(opAt sp j).A,∀zs st,(opAt sp i).cl=.box zs st->∃b,val i=au (some ⟨b,0,none⟩)/\B<=b/\¬N b/\Bk X b (if (opAt sp j).A.contains st then (opAt sp st).cs (vals sp st val) else zs)) ->
  (wantB val o=true->RunsTo P (aP (eOf ops val a0 o) o) X fun v X'=>(opAt sp j).vp (vals sp j (updV val j v))/\T (vals sp j (updV val j v)) X')/\(wantB val o=false->(opAt sp j).vp (vals sp j (updV val j undef))/\T (vals sp j (updV val j undef)) X)
theorem Nb.old {n:Nat} {sp:List ROp} {BP:List az->Prop} {B:Nat} {w0:ai} {S:Nat->Bool} {val:Nat->az} {X:ai} (c:Full n sp BP B w0 S val X):∀b,b<B->Nb n sp S val X b:=fun b d=>⟨aC d c.low,fun i h j e g=>by
 obtain ⟨zs,k,f⟩:=ow e
 obtain ⟨l,a,m,_⟩:=c.bxs i h j zs k f
 rw [g] at a
 injection a with a;injection a with a;injection a with a
 omega⟩
theorem Nb.not {n:Nat} {sp:List ROp} {BP:List az->Prop} {B:Nat} {w0:ai} {S:Nat->Bool} {val:Nat->az} {X:ai} (l:Full n sp BP B w0 S val X):∀b,b<X.heap.size->¬Nb n sp S val X b->∃vs,Bk X b vs/\BP vs:=fun b j m=>by
 have:∃i,i<n/\S i=true/\(opAt sp i).cl.isBox=true/\val i=au (some ⟨b,0,none⟩):=by
  refine Classical.byContradiction fun o=>m ⟨j,fun i e f c d=>o ⟨i,e,f,c,d⟩⟩
 obtain ⟨i,e,f,c,d⟩:=this
 obtain ⟨zs,p,k⟩:=ow c
 obtain ⟨q,a,_,g,h⟩:=l.bxs i e f zs p k
 rw [d] at a
 injection a with a;injection a with a;injection a with a
 subst a
 exact ⟨_,g,h⟩
structure RInv (ops:Array Oper) (sp:List ROp) (BP:List az->Prop) (B:Nat) (w0:ai) (a0:Act) (T:List az->ai->Prop) (S:Nat->Bool) (a:Act) (X:ai) (val:Nat->az):Prop where
 act:a=fz ops S val a0 ops.size
 down:Down ops S
 vps:∀j,j<ops.size->S j=true->(opAt sp j).vp (vals sp j val)
 full:(∀j,j<ops.size->(opAt sp j).cl=.last->S j=false)->Full ops.size sp BP B w0 S val X
 done:∀j,j<ops.size->(opAt sp j).cl=.last->S j=true->T (vals sp j val) X
theorem Full.all {ops:Array Oper} {sp:List ROp} {BP:List az->Prop} {u B:Nat} {w0:ai} {S:Nat->Bool} {val:Nat->az} {X:ai} (h:iC ops sp u=true) (d:Full ops.size sp BP B w0 S val X) (c:∀j,j<ops.size->S j=true):Full ops.size sp BP B w0 (fun _=>true) val X where
 bel:=d.bel
 low:=d.low
 vcs:=fun j n _ e=>(opAt sp j).stab _ _ _ _ _ (d.vcs j n (c j n) e) (fun _ _=>rfl) (fun b m=>⟨m.1,fun i a _ f=>m.2 i a (c i a) f⟩) (ag _)
 bxs:=fun i a _ zs p e=>by
  obtain ⟨b,q,r,g,l⟩:=d.bxs i a (c i a) zs p e
  rw [if_pos (c p (gJ (fY h (bf a)).cls e).2.1)] at g l
  exact ⟨b,q,r,by rw [if_pos rfl];exact ⟨g,l⟩⟩
 dis:=fun i k a o _ _ f s t=>d.dis i k a o (c i a) (c k o) f s t
theorem pe {P:dz} {id:Nat} {ops:Array Oper} {Q:Exit->Act->ai->Prop} (sp:List ROp) (BP:List az->Prop) (T:List az->ai->Prop) {w0:ai} {a0:Act} {B:Nat} (hm:P.follows .mixedOrders=true) (hB:B<=w0.heap.size) (h:iC ops sp a0.tmps.size=true) (p:Serves P ops sp BP B w0 a0 T)
  (c5:∀val X,(∀j,j<ops.size->(opAt sp j).vp (vals sp j val))->((∀j,j<ops.size->(opAt sp j).cl≠.last)->Full ops.size sp BP B w0 (fun _=>true) val X)->(∀j,j<ops.size->(opAt sp j).cl=.last->T (vals sp j val) X)->Q .normal (fz ops (fun _=>true) val a0 ops.size) X) :
  (Code.region id ops true).wp P Q a0 w0:=by
 refine wp_region_any hm ?_
 have c6:tI .any ops=true:=by
  unfold iC at h
  rw [aF] at h
  exact h.1
 have b5:=DL (P:=P) (Q:=Q) (fun S a X=>∃val,RInv ops sp BP B w0 a0 T S a X val) c6 ?step ?fin ops.size (fun _=>false) a0 ({ w0 with drawn:=w0.drawn+1 }) ?cnt ?start
 ·rw [uw] at b5
  exact b5
 case cnt=>
  have:∀n (S:Nat->Bool),nM n S<=n:=by
   intro n S
   induction n with
   | zero=>exact ag _
   | succ n ih=>unfold nM;split <;> omega
  exact this _ _
 case start=>
  refine ⟨fun _=>undef,?_,?_,?_,?_,?_⟩
  ·have:∀m,fz ops (fun _=>false) (fun _=>undef) a0 m=a0:=by
    intro m
    induction m with
    | zero=>rfl
    | succ m ih=>unfold fz;rw [if_neg (by simp)];exact ih
   exact (this _).symm
  ·intro k o _ p;cases p
  ·intro j _ p;cases p
  ·intro _
   exact ⟨(aj _ w0).drew,hB,fun j _ p=>(by cases p),fun i _ p=>(by cases p),fun i k _ _ p=>(by cases p)⟩
  ·intro j _ _ p;cases p
 case fin=>
  rintro S a X a5 ⟨val,c⟩
  have ha:a=fz ops (fun _=>true) val a0 ops.size:=c.act.trans (pS _ (fun i c=>a5 i c) (fun _ _ _=>rfl))
  rw [ha]
  exact c5 val X (fun j t=>c.vps j t (a5 j t)) (fun E=>(c.full fun j t D=>absurd D (E j t)).all h a5) (fun j t D=>c.done j t D (a5 j t))
 case step=>
  rintro S j o a X w x hp ⟨val,c⟩
  have t:=(aM.1 w).1
  have U:=fY h w
  have hr:∀d∈jx o,S d=true:=fun d hd=>by
   unfold jx at hd
   obtain ⟨e,G,rfl⟩:=List.mem_map.1 hd
   rw [List.mem_filter] at G
   exact hp e (by simpa using G.1) G.2
  have F:=vF h c.down w hr
  have a9:∀i∈(opAt sp j).A,(opAt sp i).vp (vals sp i val):=fun i g=>c.vps i (by have:=(U.anc i g).1;omega) (F i g)
  have Z:∀i∈(opAt sp j).A,i<ops.size:=fun i g=>by have:=(U.anc i g).1;omega
  have V:=Af c.down w hr
  have c4:kU ops j=o.dst:=Dw w
  have N:∀v,a.put o.dst v=fz ops (ik S j) (updV val j v) a0 ops.size:=fun v=>by
   rw [zX (sR h) v x _ t,<-c.act,c4]
  have a2:∀v,(opAt sp j).vp (vals sp j (updV val j v))->∀k,k<ops.size->ik S j k=true->(opAt sp k).vp (vals sp k (updV val j v)):=fun v r k l f=>by
   by_cases e:k=j
   ·subst e;exact r
   ·rw [ce S e] at f
    rw [iU h c.down v x l f]
    exact c.vps k l f
  have a6:∀v Y,(opAt sp j).cl≠.last->(∀k,k<ops.size->(opAt sp k).cl=.last->S k=true->T (vals sp k val) Y)->∀k,k<ops.size->(opAt sp k).cl=.last->ik S j k=true->T (vals sp k (updV val j v)) Y:=fun v Y D hd k l y f=>by
   have e:k≠j:=fun e=>D (e ▸ y)
   rw [ce S e] at f
   rw [iU h c.down v x l f]
   exact hd k l y f
  -- nothing that acts comes behind the last one
  have J:(opAt sp j).cl.isPure=false->∀k,k<ops.size->(opAt sp k).cl=.last->S k=false:=fun c7 k l y=>by
   by_cases e:k=j
   ·subst e;exact x
   ·cases f:S k with
    | false=>rfl
    | true=>
     have:=c.down.anc h k l f j (nr (fY h (bf l)).cls y j t (fun e'=>e e'.symm) c7)
     rw [x] at this;cases this
  have d2:(∀k,k<ops.size->(opAt sp k).cl=.last->ik S j k=false)->∀k,k<ops.size->(opAt sp k).cl=.last->S k=false:=fun E k l D=>by
   have:=E k l D
   unfold ik at this
   split at this
   ·cases this
   ·exact this
  have hw:eQ o (yielded ops a.tmps)=wantB val o:=by rw [c.act];exact Cz h w hr
  have W:aP a.eval o=aP (eOf ops val a0 o) o:=by rw [c.act];exact Dt h c.down w x hr
  rw [hw]
  cases hcl:(opAt sp j).cl with
  | pure=>
   have H:=p.pure j o val w hcl a9
   have I:∀v,(opAt sp j).vp (vals sp j (updV val j v))->RInv ops sp BP B w0 a0 T (ik S j) (a.put o.dst v) X (updV val j v):=fun v r=>
    ⟨N v,V,a2 v r,fun E=>(c.full (d2 E)).grow h c.down v x (by rw [hcl];rfl) (fun i=>by rw [hcl];intro e;cases e) (aj _ _) (fun e=>by rw [hcl] at e;cases e),a6 v X (by rw [hcl];intro e;cases e) c.done⟩
   split
   ·rename_i a4
    obtain ⟨v,c9,d0⟩:=H.1 a4
    refine RunsTo.wp (R:=fun u X'=>u=v/\X'=X) (.inl ⟨v,X,by rw [W];exact c9 X,rfl,rfl⟩) ?_
    rintro _ _ ⟨rfl,rfl⟩
    exact ⟨_,I _ d0⟩
   ·rename_i a3
    exact ⟨_,I _ (H.2 (by simpa using a3))⟩
  | call=>
   have q:=c.full (J (by rw [hcl];rfl))
   have H:=p.call j o val X (Nb ops.size sp S val X) w hcl q.bel (Nb.old q) (fun b O=>O.1) (Nb.not q) a9 (fun i g C=>q.vcs i (Z i g) (F i g) C)
   have I:∀v Y,ax X.heap.size X Y->(opAt sp j).vp (vals sp j (updV val j v))->(∀L:Nat->Prop,(∀b,Nb ops.size sp S val X b->L b)->(∀b,X.heap.size<=b->b<Y.heap.size->L b)->(opAt sp j).vc (vals sp j (updV val j v)) L Y)->RInv ops sp BP B w0 a0 T (ik S j) (a.put o.dst v) Y (updV val j v):=fun v Y hY r a1=>
    ⟨N v,V,a2 v r,fun _=>q.grow h c.down v x (by rw [hcl];rfl) (fun i=>by rw [hcl];intro e;cases e) hY (fun _=>a1 _ (fun b O=>O.of v x (by rw [hcl];rfl) hY.size) (fun b d3 c2=>⟨c2,fun i a7 b3 b0 G=>by
      have e:i≠j:=fun e=>by subst e;rw [hcl] at b0;cases b0
      rw [ce S e] at b3
      rw [ep _ _ e] at G
      obtain ⟨zs,z,D⟩:=ow b0
      obtain ⟨b',s,_,K,_⟩:=q.bxs i a7 b3 zs z D
      rw [G] at s
      injection s with s;injection s with s;injection s with s
      have:=K.lt
      omega⟩)),a6 v Y (by rw [hcl];intro e;cases e) (fun k l y f=>by rw [J (by rw [hcl];rfl) k l y] at f;cases f)⟩
   split
   ·rename_i a4
    refine RunsTo.wp (by rw [W];exact H.1 a4) ?_
    rintro v Y ⟨hY,r,a1⟩
    exact ⟨_,I v Y hY r a1⟩
   ·rename_i a3
    obtain ⟨r,a1⟩:=H.2 (by simpa using a3)
    exact ⟨_,I undef X (aj _ _) r (fun L _ _=>a1 L)⟩
  | last=>
   have q:=c.full (J (by rw [hcl];rfl))
   have H:=p.last j o val X (Nb ops.size sp S val X) w hcl q.bel (Nb.old q) (fun b O=>O.1) (Nb.not q) a9 (fun i g C=>q.vcs i (Z i g) (F i g) C) (fun i g zs z C=>by
    obtain ⟨b,s,h2,K,_⟩:=q.bxs i (Z i g) (F i g) zs z C
    refine ⟨b,s,h2,fun E=>E.2 i (Z i g) (F i g) (by rw [C];rfl) s,?_⟩
    have a8:=(gJ (fY h (bf (Z i g))).cls C)
    have b2:z∈(opAt sp j).A:=nr U.cls hcl z a8.2.1 (fun e=>by subst e;rw [hcl] at a8;cases a8.2.2) (by rw [a8.2.2];rfl)
    rw [if_pos (by simpa using b2)]
    rw [if_pos (F z b2)] at K
    exact K)
   have I:∀v Y,(opAt sp j).vp (vals sp j (updV val j v))->T (vals sp j (updV val j v)) Y->RInv ops sp BP B w0 a0 T (ik S j) (a.put o.dst v) Y (updV val j v):=fun v Y r M=>
    ⟨N v,V,a2 v r,fun E=>absurd (E j t hcl) (by rw [lm];simp),fun k l y f=>by
     by_cases e:k=j
     ·subst e;exact M
     ·rw [ce S e,J (by rw [hcl];rfl) k l y] at f;cases f⟩
   split
   ·rename_i a4
    refine RunsTo.wp (by rw [W];exact H.1 a4) ?_
    rintro v Y ⟨r,M⟩
    exact ⟨_,I v Y r M⟩
   ·rename_i a3
    obtain ⟨r,M⟩:=H.2 (by simpa using a3)
    exact ⟨_,I undef X r M⟩
  | box zs z=>
   have q:=c.full (J (by rw [hcl];rfl))
   obtain ⟨hg,b4,c8⟩:=gJ U.cls hcl
   have b1:S z=false:=by
    cases b1:S z with
    | false=>rfl
    | true=>
     have:=c.down.anc h z b4 b1 j (mf (fY h (bf b4)).cls c8).2.2.1
     rw [x] at this;cases this
   rw [if_pos (show wantB val o=true by unfold wantB;rw [hg])]
   obtain ⟨c3,e,G⟩:=(p.box j o zs z val w hcl).2
   refine RunsTo.wp (R:=fun v Y=>v=au (some ⟨X.heap.size,0,none⟩)/\Y=X.alloc (.cells zs.toArray e)) (.inl ⟨_,_,by rw [W];exact G X,rfl,rfl⟩) ?_
   rintro _ _ ⟨rfl,rfl⟩
   exact ⟨_,N _,V,a2 _ (p.box j o zs z _ w hcl).1,fun _=>q.box h c.down t x hcl b1 c3 e,a6 _ _ (by rw [hcl];intro e;cases e) (fun k l y f=>by rw [J (by rw [hcl];rfl) k l y] at f;cases f)⟩
  | store i=>
   have q:=c.full (J (by rw [hcl];rfl))
   obtain ⟨hg,a7,g,⟨zs,C⟩,b6⟩:=mf U.cls hcl
   rw [if_pos (show wantB val o=true by unfold wantB;rw [hg])]
   obtain ⟨b,s,h2,K,_⟩:=q.bxs i a7 (F i g) zs j C
   rw [if_neg (by rw [x];simp)] at K
   obtain ⟨d1,X',hx,b7,b8,b9,c0,c1⟩:=p.store j o i zs val X b w hcl C a9 s K
   refine RunsTo.wp (R:=fun v Y=>v=undef/\Y=X') (.inr (.inl ⟨X',by rw [W];exact hx,rfl,rfl⟩)) ?_
   rintro _ _ ⟨rfl,rfl⟩
   exact ⟨_,N _,V,a2 _ (d1 _),fun _=>q.put h c.down t x hcl C a7 (F i g) s h2 b7 b8 b9 c0 c1 b6,a6 _ _ (by rw [hcl];intro e;cases e) (fun k l y f=>by rw [J (by rw [hcl];rfl) k l y] at f;cases f)⟩
variable {P:dz} {ops:Array Oper} {sp:List ROp} {BP:List az->Prop} {B:Nat} {w0:ai} {a0:Act} {T:List az->ai->Prop}
def iq (P:dz) (ops:Array Oper) (sp:List ROp) (BP:List az->Prop) (B:Nat) (w0:ai) (a0:Act) (T:List az->ai->Prop) (j:Nat) (o:Oper):Prop :=
 match (opAt sp j).cl with
 | .pure=>∀val,(∀i∈(opAt sp j).A,(opAt sp i).vp (vals sp i val)) ->
  (wantB val o=true->∃v,(∀X,(aP (eOf ops val a0 o) o).run P X=.ok (.value v) X)/\(opAt sp j).vp (vals sp j (updV val j v)))/\(wantB val o=false->(opAt sp j).vp (vals sp j (updV val j undef)))
 | .call=>∀val X (N:Nat->Prop),ax B w0 X->(∀b,b<B->N b)->(∀b,N b->b<X.heap.size)->(∀b,b<X.heap.size->¬N b->∃vs,Bk X b vs/\BP vs)->(∀i∈(opAt sp j).A,(opAt sp i).vp (vals sp i val))->(∀i∈(opAt sp j).A,(opAt sp i).cl=.call->(opAt sp i).vc (vals sp i val) N X) ->
  (wantB val o=true->RunsTo P (aP (eOf ops val a0 o) o) X fun v a=>ax X.heap.size X a/\(opAt sp j).vp (vals sp j (updV val j v))/\∀N':Nat->Prop,(∀b,N b->N' b)->(∀b,X.heap.size<=b->b<a.heap.size->N' b)->(opAt sp j).vc (vals sp j (updV val j v)) N' a) /\
  (wantB val o=false->(opAt sp j).vp (vals sp j (updV val j undef))/\∀N':Nat->Prop,(opAt sp j).vc (vals sp j (updV val j undef)) N' X)
 | .box zs _=>∀val,(opAt sp j).vp (vals sp j val)/\BP zs/\∃e,∀X,(aP (eOf ops val a0 o) o).run P X=.ok (.value (au (some ⟨X.heap.size,0,none⟩))) (X.alloc (.cells zs.toArray e))
 | .store i=>∀zs val X b,(opAt sp i).cl=.box zs j->(∀i∈(opAt sp j).A,(opAt sp i).vp (vals sp i val))->val i=au (some ⟨b,0,none⟩)->Bk X b zs ->
  (∀val,(opAt sp j).vp (vals sp j val))/\∃a,(aP (eOf ops val a0 o) o).run P X=.ok .skip a/\ax b X a/\a.heap.size=X.heap.size/\(∀k,k≠b->a.heap[k]? = X.heap[k]?)/\Bk a b ((opAt sp j).cs (vals sp j val))/\BP ((opAt sp j).cs (vals sp j val))
 | .last=>∀val X (N:Nat->Prop),ax B w0 X->(∀b,b<B->N b)->(∀b,N b->b<X.heap.size)->(∀b,b<X.heap.size->¬N b->∃vs,Bk X b vs/\BP vs)->(∀i∈(opAt sp j).A,(opAt sp i).vp (vals sp i val))->(∀i∈(opAt sp j).A,(opAt sp i).cl=.call->(opAt sp i).vc (vals sp i val) N X) ->
  (∀i∈(opAt sp j).A,∀zs st,(opAt sp i).cl=.box zs st->∃b,val i=au (some ⟨b,0,none⟩)/\B<=b/\¬N b/\Bk X b (if (opAt sp j).A.contains st then (opAt sp st).cs (vals sp st val) else zs)) ->
  (wantB val o=true->RunsTo P (aP (eOf ops val a0 o) o) X fun v a=>(opAt sp j).vp (vals sp j (updV val j v))/\T (vals sp j (updV val j v)) a)/\(wantB val o=false->(opAt sp j).vp (vals sp j (updV val j undef))/\T (vals sp j (updV val j undef)) X)
theorem Serves.of (h:∀j o,ops[j]? = some o->iq P ops sp BP B w0 a0 T j o):Serves P ops sp BP B w0 a0 T where
 pure:=fun j o val c a=>by have:=h j o c;unfold iq at this;rw [a] at this;exact this val
 call:=fun j o val X N c a=>by have:=h j o c;unfold iq at this;rw [a] at this;exact this val X N
 box:=fun j o zs e val c a=>by have:=h j o c;unfold iq at this;rw [a] at this;exact this val
 store:=fun j o i zs val X b c a d=>by have:=h j o c;unfold iq at this;rw [a] at this;exact this zs val X b d
 last:=fun j o val X N c a=>by have:=h j o c;unfold iq at this;rw [a] at this;exact this val X N
variable {j:Nat} {o:Oper}
structure EOf (ops:Array Oper) (val:Nat->az) (a0:Act) (o:Oper) (E:Operand->az):Prop where
 eq:E=eOf ops val a0 o
 c:∀v,E (.const v)=v
 f:∀f,E (.func f)=.func (.func f) #[] #[]
theorem EOf.at (ops:Array Oper) (val:Nat->az) (a0:Act) (o:Oper):EOf ops val a0 o (eOf ops val a0 o):=⟨rfl,fun _=>rfl,fun _=>rfl⟩
abbrev FA (sp:List ROp) (j:Nat) (val:Nat->az):Prop:=∀i∈(opAt sp j).A,(opAt sp i).vp (vals sp i val)
abbrev OT (sp:List ROp) (j:Nat) (val:Nat->az) (N:Nat->Prop) (X:ai):Prop:=∀i∈(opAt sp j).A,(opAt sp i).cl=.call->(opAt sp i).vc (vals sp i val) N X
structure AtC (BP:List az->Prop) (B:Nat) (w0 X:ai) (N:Nat->Prop):Prop where
 bel:ax B w0 X
 old:∀b,b<B->N b
 lt:∀b,N b->b<X.heap.size
 bx:∀b,b<X.heap.size->¬N b->∃vs,Bk X b vs/\BP vs
theorem oE {val:Nat->az} (a:o.guard=none):wantB val o=true:=by unfold wantB;rw [a]
theorem mr {val:Nat->az} {g:Nat} {b c:Bool} (a:o.guard=some (g,b)) (d:val g=am c):wantB val o=(c==b):=by unfold wantB;rw [a];dsimp only;rw [d]
theorem bq (c:(opAt sp j).cl=.pure) (d:o.guard=none) (h:∀val E,EOf ops val a0 o E->FA sp j val->∃v,(∀X,(aP E o).run P X=.ok (.value v) X)/\(opAt sp j).vp (vals sp j (updV val j v))):iq P ops sp BP B w0 a0 T j o:=by
 unfold iq;rw [c]
 exact fun val b=>⟨fun _=>h val _ (EOf.at _ _ _ _) b,fun a=>by rw [oE d] at a;cases a⟩
theorem fI (f:(opAt sp j).cl=.call) (g:o.guard=none) (i:∀vs N X,(opAt sp j).vc vs N X) (h:∀val E X,EOf ops val a0 o E->ax B w0 X->FA sp j val->∃v,(aP E o).run P X=.ok (.value v) X/\(opAt sp j).vp (vals sp j (updV val j v))):iq P ops sp BP B w0 a0 T j o:=by
 unfold iq;rw [f]
 refine fun val X N e _ _ _ d _=>⟨fun _=>?_,fun a=>by rw [oE g] at a;cases a⟩
 obtain ⟨v,b,c⟩:=h val _ X (EOf.at _ _ _ _) e d
 exact .inl ⟨v,X,b,aj _ _,c,fun _ _ _=>i _ _ _⟩
theorem nR {g:Nat} {b:Bool} (c:Bool) (p:(opAt sp j).cl=.call) (f:o.guard=some (g,b)) (l:∀vs N X,(opAt sp j).vc vs N X) (k:∀val,FA sp j val->val g=am c) (h:c=b->∀val E X,EOf ops val a0 o E->ax B w0 X->FA sp j val->∃v,(aP E o).run P X=.ok (.value v) X/\(opAt sp j).vp (vals sp j (updV val j v))) (d:c≠b->∀val,FA sp j val->(opAt sp j).vp (vals sp j (updV val j undef))):iq P ops sp BP B w0 a0 T j o:=by
 unfold iq;rw [p]
 refine fun val X N n _ _ _ a _=>⟨fun i=>?_,fun e=>?_⟩
 ·rw [mr f (k val a)] at i
  obtain ⟨v,m,d⟩:=h (by simpa using i) val _ X (EOf.at _ _ _ _) n a
  exact .inl ⟨v,X,m,aj _ _,d,fun _ _ _=>l _ _ _⟩
 ·rw [mr f (k val a)] at e
  exact ⟨d (by simpa using e) val a,fun _=>l _ _ _⟩
theorem ka (l:(opAt sp j).cl=.call) (m:o.guard=none) (n:∀vs N X,(opAt sp j).vc vs N X) (h:∀val E X,EOf ops val a0 o E->ax B w0 X->FA sp j val->∃f args v,(aP E o).run P X=.ok (.enter f args) X/\(Calls P f args X fun e w'=>e=aw v/\ax X.heap.size X w')/\(opAt sp j).vp (vals sp j (updV val j v))):iq P ops sp BP B w0 a0 T j o:=by
 unfold iq;rw [l]
 refine fun val X N k _ _ _ i _=>⟨fun _=>?_,fun a=>by rw [oE m] at a;cases a⟩
 obtain ⟨f,args,v,c,d,g⟩:=h val _ X (EOf.at _ _ _ _) k i
 exact .inr (.inr ⟨f,args,X,c,d.mono fun e w' b=>⟨v,b.1,b.2,g,fun _ _ _=>n _ _ _⟩⟩)
theorem Ed {g:Nat} {b:Bool} (c:Bool) (t:(opAt sp j).cl=.call) (k:o.guard=some (g,b)) (p:∀vs N X,(opAt sp j).vc vs N X) (n:∀val,FA sp j val->val g=am c) (h:c=b->∀val E X,EOf ops val a0 o E->ax B w0 X->FA sp j val->∃f args v,(aP E o).run P X=.ok (.enter f args) X/\(Calls P f args X fun e w'=>e=aw v/\ax X.heap.size X w')/\(opAt sp j).vp (vals sp j (updV val j v))) (d:c≠b->∀val,FA sp j val->(opAt sp j).vp (vals sp j (updV val j undef))):iq P ops sp BP B w0 a0 T j o:=by
 unfold iq;rw [t]
 refine fun val X N s _ _ _ a _=>⟨fun m=>?_,fun i=>?_⟩
 ·rw [mr k (n val a)] at m
  obtain ⟨f,args,v,q,d,r⟩:=h (by simpa using m) val _ X (EOf.at _ _ _ _) s a
  exact .inr (.inr ⟨f,args,X,q,d.mono fun e w' l=>⟨v,l.1,l.2,r,fun _ _ _=>p _ _ _⟩⟩)
 ·rw [mr k (n val a)] at i
  exact ⟨d (by simpa using i) val a,fun _=>p _ _ _⟩
theorem qe {zs:List az} {d:Nat} (b:(opAt sp j).cl=.box zs d) (c:∀vs,(opAt sp j).vp vs) (a:BP zs) (e:TypeId) (h:∀E X,(aP E o).run P X=.ok (.value (au (some ⟨X.heap.size,0,none⟩))) (X.alloc (.cells zs.toArray e))):iq P ops sp BP B w0 a0 T j o:=by
 unfold iq;rw [b]
 exact fun val=>⟨c _,a,e,fun X=>h _ X⟩
structure PutTo (b:Nat) (X X':ai) (cs:List az):Prop where
 bel:ax b X X'
 size:X'.heap.size=X.heap.size
 other:∀k,k≠b->X'.heap[k]? = X.heap[k]?
 bk:Bk X' b cs
theorem mx {i:Nat} {zs:List az} (m:(opAt sp j).cl=.store i) (r:(opAt sp i).cl=.box zs j) (q:∀vs,(opAt sp j).vp vs) (h:∀val E X b,EOf ops val a0 o E->FA sp j val->val i=au (some ⟨b,0,none⟩)->Bk X b zs->∃a c,(aP E o).run P X=.ok .skip a/\PutTo b X a c/\(opAt sp j).cs (vals sp j val)=c/\BP c):iq P ops sp BP B w0 a0 T j o:=by
 unfold iq;rw [m]
 intro s val X b e l p n
 rw [r] at e
 injection e with e1 e2
 subst e1
 obtain ⟨a,c,f,d,g,k⟩:=h val _ X b (EOf.at _ _ _ _) l p n
 rw [g]
 exact ⟨fun _=>q _,a,f,d.bel,d.size,d.other,d.bk,k⟩
theorem PutTo.more {b:Nat} {X a:ai} {c:List az} (h:PutTo b X a c) (i:Nat) (v:az):PutTo b X (a.setCell ⟨b,i,none⟩ v) (c.set i v) :=
 ⟨h.bel.setCell (p:=⟨b,_,none⟩) (ag _) _,by simp [h.size],fun k d=>(heap_setCell_other _ _ _ _ d).trans (h.other k d),h.bk.set i v⟩
theorem PutTo.start {b:Nat} {X:ai} {zs:List az} (h:Bk X b zs):PutTo b X X zs:=⟨aj _ _,rfl,fun _ _=>rfl,h⟩
theorem yG (n:(opAt sp j).cl=.last) (p:o.guard=none) (h:∀val E X N,EOf ops val a0 o E->AtC BP B w0 X N->FA sp j val->OT sp j val N X ->
  (∀i∈(opAt sp j).A,∀zs st,(opAt sp i).cl=.box zs st->∃b,val i=au (some ⟨b,0,none⟩)/\B<=b/\¬N b/\Bk X b (if (opAt sp j).A.contains st then (opAt sp st).cs (vals sp st val) else zs)) ->
  RunsTo P (aP E o) X fun v c=>(opAt sp j).vp (vals sp j (updV val j v))/\T (vals sp j (updV val j v)) c):iq P ops sp BP B w0 a0 T j o:=by
 unfold iq;rw [n]
 exact fun val X N d e f g k l m=>⟨fun _=>h val _ X N (EOf.at _ _ _ _) ⟨d,e,f,g⟩ k l m,fun a=>by rw [oE p] at a;cases a⟩
def jD:List (Option Tmp)->Nat->(Nat->az)->List az->List az
 | [],_,_,t=>t
 | none::ds,k,val,t=>jD ds (k+1) val t
 | some d::ds,k,val,t=>jD ds (k+1) val (t.set d (val k))
theorem Cj (ds:List (Option Tmp)):∀(d:Option Tmp) (k:Nat) (val:Nat->az) (t:List az),jD (ds++[d]) k val t=match d with | none=>jD ds k val t | some d=>(jD ds k val t).set d (val (k+ds.length)):=by
 induction ds with
 | nil=>intro d k val t;cases d <;> rfl
 | cons x ds ih=>
  intro d k val t
  cases x <;> (rw [List.cons_append];unfold jD;rw [ih];cases d <;> simp only [List.length_cons];congr 2;omega)
theorem pR {ds:List (Option Tmp)} {t:List az} {a:List Deferred} (hd:ops.toList.map (·.dst)=ds) (val:Nat->az):fz ops (fun _=>true) val ⟨t.toArray,a⟩ ops.size=⟨(jD ds 0 val t).toArray,a⟩:=by
 have e:∀m,m<=ops.size->fz ops (fun _=>true) val ⟨t.toArray,a⟩ m=⟨(jD (ds.take m) 0 val t).toArray,a⟩:=by
  intro m
  induction m with
  | zero=>intro _;rfl
  | succ m ih=>
   intro f
   have c:m<ds.length:=by rw [<-hd];simp;omega
   have b:kU ops m=ds[m]:=by
    unfold kU
    rw [bf (by omega)]
    simp only [<-hd,List.getElem_map,Option.bind_some]
    rfl
   rw [fz,if_pos rfl,ih (by omega),List.take_succ_eq_append_getElem c,Cj,b]
   cases ds[m] with
   | none=>rfl
   | some d=>
    simp only [gd,List.setIfInBounds_toArray,List.length_take,Nat.zero_add]
    rw [Nat.min_eq_left (by omega)]
 have:=e ops.size (ag _)
 rw [this,List.take_of_length_le (by rw [<-hd];simp)]
def Ii (sp:List ROp) (n:Nat):Bool:=(aY n).all fun j=>!(opAt sp j).cl.isLast
structure Abs (n:Nat) (sp:List ROp) (B:Nat) (w0:ai) (val:Nat->az) (X:ai) (N:Nat->Prop):Prop where
 bel:ax B w0 X
 low:B<=X.heap.size
 lt:∀b,N b->b<X.heap.size
 old:∀b,b<B->N b
 vcs:∀j,j<n->(opAt sp j).cl=.call->(opAt sp j).vc (vals sp j val) N X
 bxs:∀i,i<n->∀zs st,(opAt sp i).cl=.box zs st->∃b,val i=au (some ⟨b,0,none⟩)/\B<=b/\Bk X b ((opAt sp st).cs (vals sp st val))/\¬N b
 dis:∀i k,i<n->k<n->(opAt sp i).cl.isBox=true->(opAt sp k).cl.isBox=true->i≠k->val i≠val k
theorem Full.abs {n:Nat} {val:Nat->az} {X:ai} (a:Full n sp BP B w0 (fun _=>true) val X):Abs n sp B w0 val X (Nb n sp (fun _=>true) val X) where
 bel:=a.bel
 low:=a.low
 lt:=fun _ h=>h.1
 old:=Nb.old a
 vcs:=fun j l c=>a.vcs j l rfl c
 bxs:=fun i d zs o c=>by
  obtain ⟨b,e,g,f,_⟩:=a.bxs i d rfl zs o c
  rw [if_pos rfl] at f
  exact ⟨b,e,g,f,fun h=>h.2 i d rfl (by rw [c];rfl) e⟩
 dis:=fun i k d m=>a.dis i k d m rfl rfl
theorem jN {id:Nat} {Q:Exit->Act->ai->Prop} {t:List az} {a:List Deferred} (sp:List ROp) (ds:List (Option Tmp)) (BP:List az->Prop) (B:Nat) (i:P.follows .mixedOrders=true) (b:B<=w0.heap.size) (hd:ops.toList.map (·.dst)=ds) (h:iC ops sp t.length=true) (g:Ii sp ops.size=true)
  (k:∀j o,ops[j]? = some o->iq P ops sp BP B w0 ⟨t.toArray,a⟩ (fun _ _=>True) j o)
  (c:∀val X N,(∀j,j<ops.size->(opAt sp j).vp (vals sp j val))->Abs ops.size sp B w0 val X N->Q .normal ⟨(jD ds 0 val t).toArray,a⟩ X) :
  (Code.region id ops true).wp P Q ⟨t.toArray,a⟩ w0 :=
 pe sp BP (fun _ _=>True) i b (by simpa using h) (Serves.of k) fun val X l d _=>by
  rw [pR hd]
  refine c val X _ l (d fun j f e=>?_).abs
  have:=bh.1 g j (dx.2 f)
  rw [e] at this;cases this
theorem sb {id:Nat} {Q:Exit->Act->ai->Prop} {t:List az} {a:List Deferred} (sp:List ROp) (ds:List (Option Tmp)) (BP:List az->Prop) (B l:Nat) (T:List az->ai->Prop) (f:P.follows .mixedOrders=true) (c:B<=w0.heap.size) (hd:ops.toList.map (·.dst)=ds) (h:iC ops sp t.length=true) (b:l<ops.size/\(opAt sp l).cl=.last)
  (g:∀j o,ops[j]? = some o->iq P ops sp BP B w0 ⟨t.toArray,a⟩ T j o)
  (e:∀val X,(∀j,j<ops.size->(opAt sp j).vp (vals sp j val))->T (vals sp l val) X->Q .normal ⟨(jD ds 0 val t).toArray,a⟩ X) :
  (Code.region id ops true).wp P Q ⟨t.toArray,a⟩ w0 :=
 pe sp BP T f c (by simpa using h) (Serves.of g) fun val X i _ d=>by
  rw [pR hd]
  exact e val X i (d l b.1 b.2)
theorem Abs.at_box {n:Nat} {val:Nat->az} {X:ai} {N:Nat->Prop} (l:Abs n sp B w0 val X N) (i:Nat) {zs:List az} {a:Nat} (m:i<n) (j:(opAt sp i).cl=.box zs a):∃b,val i=au (some ⟨b,0,none⟩)/\B<=b/\Bk X b ((opAt sp a).cs (vals sp a val))/\∀c,N c->c≠b:=by
 obtain ⟨b,d,f,g,h⟩:=l.bxs i m zs a j
 exact ⟨b,d,f,g,fun c k e=>h (e ▸ k)⟩
def bd (X:ai) (g:Nat):Nat->List az->Prop
 | _,[]=>True
 | i,v::vs=>(X.cell? ⟨g,i,none⟩=some v/\X.frozen? ⟨g,i,none⟩=false)/\bd X g (i+1) vs
def aU (X:ai):List (Nat×List az)->Prop
 | []=>True
 | (g,vs)::l=>(g<X.heap.size/\bd X g 0 vs)/\aU X l
theorem Bk.all {X:ai} {g:Nat} {vs:List az} (h:Bk X g vs):∀(i:Nat) (us:List az),(∀k v,us[k]? = some v->vs[i+k]? = some v)->bd X g i us:=by
 intro i us
 induction us generalizing i with
 | nil=>intro _;exact True.intro
 | cons u us ih=>
  intro a
  exact ⟨⟨h.c i u (by simpa using a 0 u rfl),h.f i⟩,ih (i+1) fun k v b=>by
   have:=a (k+1) v (by simpa using b)
   rwa [show i+1+k=i+(k+1) by omega]⟩
theorem Bks.all {X:ai}:∀{l:List (Nat×List az)},Bks X l->aU X l
 | [],_=>True.intro
 | (_,_)::_,h=>⟨⟨h.lt 0 rfl,(h.at 0 _ _ rfl).all 0 _ fun k v a=>by simpa using a⟩,Bks.all h.tl⟩
theorem Bk.all0 {X:ai} {g:Nat} {vs:List az} (h:Bk X g vs):g<X.heap.size/\bd X g 0 vs:=⟨h.lt,h.all 0 _ fun k v a=>by simpa using a⟩
end Hb
namespace Hb
theorem EOf.t {ops:Array Go.Oper} {val:Nat->Go.Value} {a0:Go.Act} {o:Go.Oper} {E:Go.Operand->Go.Value} (h:EOf ops val a0 o E) (t:Go.Tmp) (v:Go.Value) (k:eOf ops val a0 o (.tmp t)=v):E (.tmp t)=v:=by rw [h.eq];exact k
end Hb
