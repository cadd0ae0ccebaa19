/- Parts of the proof. -/
import Derived.Test.YtbojljpldcijgaaGreatR01
import Derived.Test.YtbojljpldcijgaaGreatR08
open Array renaming getElem?_eq_getElem -> bp, getElem?_eq_some_iff -> aS
open Bool renaming and_eq_true -> bN
open Go renaming Program -> dO, Value -> aC, World -> au, execOp -> aL
open Go.Act renaming put -> bu
open Go.Ending renaming returned -> aD
open Go.Region renaming wanted -> ev
open Go.RowKit renaming Below -> aB
open Go.RowKit.Below renaming refl -> ap
open Go.Value renaming bool -> av, pointer -> ar
open List renaming all_eq_true -> cx, mem_range -> dG, range -> aM
open Nat renaming le_refl -> ae, le_trans -> aQ, lt_of_lt_of_le -> aA
namespace Hb
open Go Go.RowKit
def jF (ops:Array Oper) (j:Nat):Option Tmp:=(ops[j]?).bind (·.dst)
def iC (o:Oper):List Nat:=(o.after.toList.filter (Region.binds .any)).map (·.on)
def updV (val:Nat->aC) (j:Nat) (v:aC):Nat->aC:=fun i=>if i=j then v else val i
theorem kI (val:Nat->aC) (j:Nat) (v:aC):updV val j v j=v:=if_pos rfl
theorem ei (val:Nat->aC) {j i:Nat} (v:aC) (h:i≠j):updV val j v i=val i:=if_neg h
theorem tt {val:Nat->aC} {j:Nat} {v:aC} {l:List Nat} (h:∀i∈l,i≠j):l.map (updV val j v)=l.map val:=List.map_congr_left fun i a=>ei val v (h i a)
def fi (ops:Array Oper) (S:Nat->Bool) (val:Nat->aC) (a0:Act):Nat->Act
 | 0=>a0
 | m+1=>if S m=true then (fi ops S val a0 m).put (jF ops m) (val m) else fi ops S val a0 m
theorem yp (a:Act) (d:Option Tmp) (v:aC):(a.put d v).tmps.size=a.tmps.size:=by
 cases d <;> simp [bu]
theorem rn (ops:Array Oper) (S:Nat->Bool) (val:Nat->aC) (a0:Act):∀m,(fi ops S val a0 m).tmps.size=a0.tmps.size:=by
 intro m
 induction m with
 | zero=>rfl
 | succ m ih=>
  unfold fi
  split
  ·rw [yp,ih]
  ·exact ih
theorem mU {ops:Array Oper} {S S':Nat->Bool} {val val':Nat->aC} {a0:Act}:∀m,(∀i,i<m->S i=S' i)->(∀i,i<m->S i=true->val i=val' i)->fi ops S val a0 m=fi ops S' val' a0 m:=by
 intro m
 induction m with
 | zero=>intros;rfl
 | succ m ih=>
  intro a b
  unfold fi
  rw [ih (fun i c=>a i (by omega)) (fun i c=>b i (by omega)),<-a m (by omega)]
  split
  ·rename_i d
   rw [b m (by omega) d]
  ·rfl
def BO (ops:Array Oper):Prop:=∀i j d,i≠j->jF ops i=some d->jF ops j≠some d
theorem tH {ops:Array Oper} {S:Nat->Bool} {val:Nat->aC} {a0:Act} (hd:BO ops) {j:Nat} (v:aC) (f:S j=false):∀m,j<m->fi ops (gC S j) (updV val j v) a0 m=(fi ops S val a0 m).put (jF ops j) v:=by
 intro m
 induction m with
 | zero=>intro h;cases h
 | succ m ih=>
  intro g
  by_cases e:j=m
  ·subst e
   rw [fi,jN,if_pos rfl,kI,fi,f,if_neg (by simp)]
   rw [mU (S':=S) (val':=val) j (fun i b=>cB S (by omega)) (fun i b _=>ei val v (by omega))]
  ·have c:j<m:=by omega
   rw [fi,cB S (fun h=>e h.symm),ei val v (fun h=>e h.symm),ih c]
   conv=>rhs;rw [fi]
   split
   ·exact Act.put_comm _ _ _ fun d a=>hd j m d (by omega) a
   ·rfl
theorem qB {a:Act} {t:Tmp} {v:aC} (h:t<a.tmps.size):(a.put (some t) v).eval (.tmp t)=v:=by
 simp [Act.eval,bu,Array.getD,h]
theorem mC {ops:Array Oper} {S:Nat->Bool} {val:Nat->aC} {a0:Act} (hd:BO ops) {i:Nat} {t:Tmp} (f:S i=true) (b:jF ops i=some t) (g:t<a0.tmps.size):∀m,i<m->(fi ops S val a0 m).eval (.tmp t)=val i:=by
 intro m
 induction m with
 | zero=>intro h;cases h
 | succ m ih=>
  intro j
  rw [fi]
  by_cases e:i=m
  ·subst e
   rw [if_pos f,b]
   exact qB (by rw [rn];exact g)
  ·split
   ·rw [Act.eval_put fun d c a=>by injection a with a;subst a;exact hd i m t e b c]
    exact ih (by omega)
   ·exact ih (by omega)
theorem pT {ops:Array Oper} {S:Nat->Bool} {val:Nat->aC} {a0:Act} {t:Tmp}:∀m,(∀k,k<m->S k=true->jF ops k≠some t)->(fi ops S val a0 m).eval (.tmp t)=a0.eval (.tmp t):=by
 intro m
 induction m with
 | zero=>intros;rfl
 | succ m ih=>
  intro h
  rw [fi]
  split
  ·rename_i e
   rw [Act.eval_put fun d b a=>by injection a with a;subst a;exact h m (by omega) e b]
   exact ih fun k c=>h k (by omega)
  ·exact ih fun k c=>h k (by omega)
def eOf (ops:Array Oper) (val:Nat->aC) (a0:Act) (o:Oper):Operand->aC
 | .tmp t=>match (iC o).find? (fun i=>jF ops i==some t) with | some i=>val i | none=>a0.eval (.tmp t)
 | x=>a0.eval x
def wantB (val:Nat->aC) (o:Oper):Bool :=
 match o.guard with
 | none=>true
 | some (g,b)=>match val g with | av c=>c==b | _=>false
inductive Cls where
 | pure | call | last
 | box (zs:List aC) (st:Nat)
 | store (i:Nat)
def Cls.isBox:Cls->Bool | .box _ _=>true | _=>false
def Cls.isPure:Cls->Bool | .pure=>true | _=>false
def Cls.isLast:Cls->Bool | .last=>true | _=>false
structure ROp where
 cl:Cls
 A:List Nat
 D:List Nat
 vp:List aC->Prop
 vc:List aC->(Nat->Prop)->au->Prop
 cs:List aC->List aC
 stab:∀vs N N' X X',vc vs N X->(∀b,N b->X'.heap[b]? = X.heap[b]?)->(∀b,N b->N' b)->X.heap.size<=X'.heap.size->vc vs N' X'
def bB (A D:List Nat) (a:List aC->Prop):ROp:=⟨.pure,A,D,a,fun _ _ _=>True,fun _=>[],fun _ _ _ _ _ _ _ _ _=>trivial⟩
def eT (A D:List Nat) (a:List aC->Prop):ROp:=⟨.call,A,D,a,fun _ _ _=>True,fun _=>[],fun _ _ _ _ _ _ _ _ _=>trivial⟩
def yl (A D:List Nat) (d:List aC->Prop) (a:List aC->(Nat->Prop)->au->Prop) (c:∀vs N N' X X',a vs N X->(∀b,N b->X'.heap[b]? = X.heap[b]?)->(∀b,N b->N' b)->X.heap.size<=X'.heap.size->a vs N' X'):ROp:=⟨.call,A,D,d,a,fun _=>[],c⟩
def yk (A D:List Nat) (a:List aC->Prop):ROp:=⟨.last,A,D,a,fun _ _ _=>True,fun _=>[],fun _ _ _ _ _ _ _ _ _=>trivial⟩
def qr (A:List Nat) (b:List aC) (a:Nat):ROp:=⟨.box b a,A,[],fun _=>True,fun _ _ _=>True,fun _=>[],fun _ _ _ _ _ _ _ _ _=>trivial⟩
def kD (A D:List Nat) (i:Nat) (a:List aC->List aC):ROp:=⟨.store i,A,D,fun _=>True,fun _ _ _=>True,a,fun _ _ _ _ _ _ _ _ _=>trivial⟩
def BZ:ROp:=bB [] [] fun _=>True
def opAt (sp:List ROp) (j:Nat):ROp:=sp.getD j BZ
def xT (ops:Array Oper) (sp:List ROp) (a j:Nat) (o:Oper) (t:Tmp):Bool :=
 match (iC o).find? (fun i=>jF ops i==some t) with
 | some i=>decide (i<ops.size)&&decide (t<a)
 | none=>(aM ops.size).all fun k=>jF ops k != some t||(opAt sp k).A.contains j||k==j
def oE (ops:Array Oper) (sp:List ROp) (j:Nat) (o:Oper):Bool :=
 match (opAt sp j).cl with
 | .pure | .call=>true
 | .last=>(aM ops.size).all fun k=>k==j||(opAt sp k).cl.isPure||(opAt sp j).A.contains k
 | .box _ st=>o.guard.isNone&&decide (st<ops.size)&&(match (opAt sp st).cl with | .store i=>i==j | _=>false)
 | .store i=>o.guard.isNone&&decide (i<ops.size)&&(opAt sp j).A.contains i&&(match (opAt sp i).cl with | .box _ st=>st==j | _=>false)&&((opAt sp j).D.all fun k=>k != j)
def AK (ops:Array Oper) (sp:List ROp) (a j:Nat) (o:Oper):Bool :=
 ((iC o).all fun d=>decide (d<j)&&(opAt sp j).A.contains d) &&
 ((opAt sp j).A.all fun i=>decide (i<j)&&((iC o).contains i||(iC o).any fun d=>(opAt sp d).A.contains i)) &&
 ((opAt sp j).D.all fun i=>i==j||(opAt sp j).A.contains i) &&
 (match o.op with | .select _ _=>false | _=>true) &&
 (o.op.operands.toList.all fun | .tmp t=>xT ops sp a j o t | _=>true) &&
 (match o.guard with | none=>true | some (g,_)=>(iC o).contains g&&(match jF ops g with | some t=>decide (t<a) | none=>false)) &&
 (match o.dst with | none=>true | some d=>(aM ops.size).all fun i=>i==j||jF ops i != some d) &&
 oE ops sp j o
def gP (ops:Array Oper) (sp:List ROp) (a:Nat):Bool :=
 pD .any ops&&(aM ops.size).all fun j=>match ops[j]? with | some o=>AK ops sp a j o | none=>false
def RunsTo (P:dO) (m:Sem Next) (X:au) (R:aC->au->Prop):Prop :=
 (∃v X',m.run P X=.ok (.value v) X'/\R v X')\/(∃X',m.run P X=.ok .skip X'/\R undef X') \/
 (∃f args X1,m.run P X=.ok (.enter f args) X1/\Calls P f args X1 fun e w'=>∃v,e=aD v/\R v w')
theorem RunsTo.wp {P:dO} {o:Oper} {a:Act} {X:au} {R:aC->au->Prop} {K:Act->au->Prop} {Q:Exit->Act->au->Prop} (h:RunsTo P (aL a.eval o) X R) (b:∀v w',R v w'->K (a.put o.dst v) w'):o.wp P a X K Q:=by
 unfold Oper.wp
 rcases h with ⟨v,c,e,h⟩ | ⟨c,e,h⟩ | ⟨f,args,d,e,h⟩
 ·rw [e];exact b _ _ h
 ·rw [e];exact b _ _ h
 ·rw [e,Oper.upon_enter]
  exact h.mono fun e w' ⟨v,he,hR⟩=>by subst he;exact b v w' hR
def Nb (n:Nat) (sp:List ROp) (S:Nat->Bool) (val:Nat->aC) (X:au) (b:Nat):Prop:=b<X.heap.size/\∀i,i<n->S i=true->(opAt sp i).cl.isBox=true->val i≠ar (some ⟨b,0,none⟩)
def vals (sp:List ROp) (j:Nat) (val:Nat->aC):List aC:=(opAt sp j).D.map val
structure Full (n:Nat) (sp:List ROp) (BP:List aC->Prop) (B:Nat) (w0:au) (S:Nat->Bool) (val:Nat->aC) (X:au):Prop where
 bel:aB B w0 X
 low:B<=X.heap.size
 vcs:∀j,j<n->S j=true->(opAt sp j).cl=.call->(opAt sp j).vc (vals sp j val) (Nb n sp S val X) X
 bxs:∀i,i<n->S i=true->∀zs st,(opAt sp i).cl=.box zs st->∃b,val i=ar (some ⟨b,0,none⟩)/\B<=b/\Bk X b (if S st=true then (opAt sp st).cs (vals sp st val) else zs)/\BP (if S st=true then (opAt sp st).cs (vals sp st val) else zs)
 dis:∀i k,i<n->k<n->S i=true->S k=true->(opAt sp i).cl.isBox=true->(opAt sp k).cl.isBox=true->i≠k->val i≠val k
theorem lx {ops:Array Oper} {sp:List ROp} {j:Nat} {o:Oper} (h:oE ops sp j o=true) (a:(opAt sp j).cl=.last):∀k,k<ops.size->k≠j->(opAt sp k).cl.isPure=false->k∈(opAt sp j).A:=by
 unfold oE at h
 rw [a] at h
 intro k b c d
 have:=cx.1 h k (dG.2 b)
 simpa [c,d] using this
theorem gd {ops:Array Oper} {sp:List ROp} {j a:Nat} {d:List aC} {o:Oper} (h:oE ops sp j o=true) (c:(opAt sp j).cl=.box d a):o.guard=none/\a<ops.size/\(opAt sp a).cl=.store j:=by
 unfold oE at h
 rw [c] at h
 simp only [bN,Option.isNone_iff_eq_none,decide_eq_true_eq] at h
 refine ⟨h.1.1,h.1.2,?_⟩
 have b:=h.2
 cases hs:(opAt sp a).cl <;> rw [hs] at b <;> simp at b |-
 exact b
theorem kz {ops:Array Oper} {sp:List ROp} {j i:Nat} {o:Oper} (h:oE ops sp j o=true) (b:(opAt sp j).cl=.store i):o.guard=none/\i<ops.size/\i∈(opAt sp j).A/\(∃zs,(opAt sp i).cl=.box zs j)/\∀k∈(opAt sp j).D,k≠j:=by
 unfold oE at h
 rw [b] at h
 simp only [bN,Option.isNone_iff_eq_none,decide_eq_true_eq,List.contains_iff_mem] at h
 refine ⟨h.1.1.1.1,h.1.1.1.2,h.1.1.2,?_,fun k c=>by simpa using cx.1 h.2 k c⟩
 have a:=h.1.2
 cases hs:(opAt sp i).cl <;> rw [hs] at a <;> simp at a |-
 exact a
structure Chk (ops:Array Oper) (sp:List ROp) (sz j:Nat) (o:Oper):Prop where
 dep:∀d∈iC o,d<j/\d∈(opAt sp j).A
 anc:∀i∈(opAt sp j).A,i<j/\(i∈iC o\/∃d∈iC o,i∈(opAt sp d).A)
 dd:∀i∈(opAt sp j).D,i=j\/i∈(opAt sp j).A
 sel:∀cs b,o.op≠.select cs b
 opr:∀t,Operand.tmp t∈o.op.operands->xT ops sp sz j o t=true
 grd:∀g b,o.guard=some (g,b)->g∈iC o/\∃t,jF ops g=some t/\t<sz
 dst:∀d,o.dst=some d->∀i,i<ops.size->i≠j->jF ops i≠some d
 cls:oE ops sp j o=true
theorem fB {ops:Array Oper} {sp:List ROp} {q:Nat} (h:gP ops sp q=true) {j:Nat} {o:Oper} (p:ops[j]? = some o):Chk ops sp q j o:=by
 unfold gP at h
 rw [bN] at h
 have x:=(aS.1 p).1
 have a:=cx.1 h.2 j (dG.2 x)
 rw [p] at a
 dsimp only at a
 unfold AK at a
 simp only [bN] at a
 obtain ⟨⟨⟨⟨⟨⟨⟨r,s⟩,u⟩,m⟩,v⟩,f⟩,n⟩,w⟩:=a
 refine ⟨fun d hd=>?_,fun i c=>?_,fun i c=>?_,fun z b e=>?_,fun t l=>?_,fun g b e=>?_,fun d e i c y=>?_,w⟩
 ·have:=cx.1 r d hd
  simpa using this
 ·have:=cx.1 s i c
  simpa using this
 ·have:=cx.1 u i c
  simpa using this
 ·rw [e] at m;cases m
 ·exact cx.1 v (.tmp t) (by simpa using l)
 ·rw [e] at f
  simp only [bN,List.contains_iff_mem] at f
  refine ⟨f.1,?_⟩
  have k:=f.2
  cases l:jF ops g with
  | none=>rw [l] at k;cases k
  | some t=>rw [l] at k;exact ⟨t,rfl,by simpa using k⟩
 ·rw [e] at n
  have:=cx.1 n i (dG.2 c)
  simpa [y] using this
theorem vY {ops:Array Oper} {j:Nat} {o:Oper} (a:ops[j]? = some o):jF ops j=o.dst:=by
 unfold jF;rw [a];rfl
theorem pb {ops:Array Oper} {sp:List ROp} {n:Nat} (h:gP ops sp n=true):BO ops:=fun i j d f c a=>by
 have b:∀{k d},jF ops k=some d->∃o,ops[k]? = some o/\o.dst=some d:=fun {k d} h=>by
  unfold jF at h
  cases hk:ops[k]? with
  | none=>rw [hk] at h;cases h
  | some o=>rw [hk] at h;exact ⟨o,rfl,h⟩
 obtain ⟨o,g,m⟩:=b c
 obtain ⟨p,l,_⟩:=b a
 exact (fB h g).dst d m j (aS.1 l).1 (fun e=>f e.symm) a
def Down (ops:Array Oper) (S:Nat->Bool):Prop:=∀k o,ops[k]? = some o->S k=true->∀d∈iC o,S d=true
theorem Down.anc {ops:Array Oper} {sp:List ROp} {m:Nat} {S:Nat->Bool} (h:gP ops sp m=true) (b:Down ops S):∀k,k<ops.size->S k=true->∀i∈(opAt sp k).A,S i=true:=by
 intro k
 induction k using Nat.strongRecOn with
 | ind k ih=>
  intro j e i f
  have a:=bp j
  have c:=fB h a
  rcases (c.anc i f).2 with hd | ⟨d,hd,g⟩
  ·exact b k _ a e i hd
  ·have l:=(c.dep d hd).1
   exact ih d l (by omega) (b k _ a e d hd) i g
theorem qP {ops:Array Oper} {sp:List ROp} {k:Nat} {S:Nat->Bool} (h:gP ops sp k=true) (e:Down ops S) {j:Nat} {o:Oper} (b:ops[j]? = some o) (c:∀d∈iC o,S d=true):∀i∈(opAt sp j).A,S i=true:=fun i f=>by
 have a:=fB h b
 have l:=(aS.1 b).1
 rcases (a.anc i f).2 with hd | ⟨d,hd,g⟩
 ·exact c i hd
 ·exact e.anc h d (by have:=(a.dep d hd).1;omega) (c d hd) i g
theorem tI {ops:Array Oper} {S:Nat->Bool} (c:Down ops S) {j:Nat} {o:Oper} (g:ops[j]? = some o) (h:∀d∈iC o,S d=true):Down ops (gC S j):=fun k i a b d hd=>by
 have f:S d=true:=by
  by_cases e:k=j
  ·subst e;rw [g] at a;injection a with a;subst a;exact h d hd
  ·rw [cB S e] at b;exact c k i a b d hd
 unfold gC
 split
 ·rfl
 ·exact f
theorem Ap {ops:Array Oper} {sp:List ROp} {a0:Act} {S:Nat->Bool} {val:Nat->aC} (h:gP ops sp a0.tmps.size=true) (n:Down ops S) {j:Nat} {o:Oper} (q:ops[j]? = some o) (m:S j=false) (r:∀d∈iC o,S d=true):∀x∈o.op.operands,(fi ops S val a0 ops.size).eval x=eOf ops val a0 o x:=fun x s=>by
 cases x with
 | tmp t=>
  have a:=(fB h q).opr t s
  unfold xT at a
  show _=(match (iC o).find? (fun i=>jF ops i==some t) with | some i=>val i | none=>a0.eval (.tmp t))
  cases hf:(iC o).find? (fun i=>jF ops i==some t) with
  | some i=>
   rw [hf] at a
   simp only [bN,decide_eq_true_eq] at a
   have p:=List.mem_of_find?_eq_some hf
   have c:=List.find?_some hf
   exact mC (pb h) (r i p) (by simpa using c) a.2 _ a.1
  | none=>
   rw [hf] at a
   refine pT _ fun k l e c=>?_
   have:=cx.1 a k (dG.2 l)
   simp only [Bool.or_eq_true,bne_iff_ne,ne_eq,List.contains_iff_mem,beq_iff_eq] at this
   rcases this with (b | b) | b
   ·exact b c
   ·have:=n.anc h k l e j b
    rw [m] at this;cases this
   ·subst b;rw [m] at e;cases e
 | const v=>rfl
 | global g=>rfl
 | func f=>rfl
theorem vV {ops:Array Oper} {sp:List ROp} {a0:Act} {S:Nat->Bool} {val:Nat->aC} (h:gP ops sp a0.tmps.size=true) (b:Down ops S) {j:Nat} {o:Oper} (a:ops[j]? = some o) (e:S j=false) (c:∀d∈iC o,S d=true):aL (fi ops S val a0 ops.size).eval o=aL (eOf ops val a0 o) o :=
 execOp_congr o (fB h a).sel (Ap h b a e c)
theorem vt {ops:Array Oper} {sp:List ROp} {a0:Act} {S:Nat->Bool} {val:Nat->aC} (h:gP ops sp a0.tmps.size=true) {j:Nat} {o:Oper} (e:ops[j]? = some o) (m:∀d∈iC o,S d=true):ev o (yielded ops (fi ops S val a0 ops.size).tmps)=wantB val o:=by
 unfold ev wantB
 cases hg:o.guard with
 | none=>rfl
 | some gb=>
  obtain ⟨g,b⟩:=gb
  obtain ⟨hd,t,f,k⟩:=(fB h e).grd g b hg
  have l:g<ops.size:=by
   have:=((fB h e).dep g hd).1
   have:=(aS.1 e).1
   omega
  have a:=mC (a0:=a0) (val:=val) (pb h) (m g hd) f k _ l
  have i:t<(fi ops S val a0 ops.size).tmps.size:=by rw [rn];exact k
  have n:yielded ops (fi ops S val a0 ops.size).tmps g=match val g with | av c=>some c | _=>none:=by
   unfold yielded
   unfold jF at f
   rw [f]
   simp only [Option.bind_some]
   simp only [Act.eval,Array.getD,i,dif_pos] at a
   rw [bp i]
   simp only [Array.getInternal_eq_getElem] at a
   rw [a]
   cases val g <;> rfl
  dsimp only
  rw [n]
  cases val g <;> simp
theorem il {ops:Array Oper} {sp:List ROp} {l:Nat} {S:Nat->Bool} {val:Nat->aC} (h:gP ops sp l=true) (d:Down ops S) {j:Nat} (v:aC) (c:S j=false) {k:Nat} (b:k<ops.size) (a:S k=true):vals sp k (updV val j v)=vals sp k val:=by
 refine tt fun i g e=>?_
 subst e
 rcases (fB h (bp b)).dd i g with rfl | f
 ·rw [c] at a;cases a
 ·have:=d.anc h k b a i f
  rw [c] at this;cases this
theorem Nb.of {n:Nat} {sp:List ROp} {S:Nat->Bool} {val:Nat->aC} {X c:au} {j:Nat} (v:aC) (m:S j=false) (k:(opAt sp j).cl.isBox=false) (g:X.heap.size<=c.heap.size) {b:Nat} (h:Nb n sp S val X b):Nb n sp (gC S j) (updV val j v) c b:=⟨aA h.1 g,fun i l f a=>by
 have d:i≠j:=fun e=>by subst e;rw [k] at a;cases a
 rw [ei _ _ d]
 rw [cB _ d] at f
 exact h.2 i l f a⟩
theorem lY {c:Cls} (h:c.isBox=true):∃zs st,c=.box zs st:=by cases c <;> first | exact ⟨_,_,rfl⟩ | cases h
theorem Full.grow {ops:Array Oper} {sp:List ROp} {BP:List aC->Prop} {L B:Nat} {w0:au} {S:Nat->Bool} {val:Nat->aC} {X m:au} {j:Nat} (h:gP ops sp L=true) (y:Down ops S) (d:Full ops.size sp BP B w0 S val X) (v:aC) (u:S j=false) (a:(opAt sp j).cl.isBox=false) (I:∀i,(opAt sp j).cl≠.store i)
  (c:aB X.heap.size X m) (K:(opAt sp j).cl=.call->(opAt sp j).vc (vals sp j (updV val j v)) (Nb ops.size sp (gC S j) (updV val j v) m) m):Full ops.size sp BP B w0 (gC S j) (updV val j v) m where
 bel:=d.bel.trans (c.mono d.low)
 low:=aQ d.low c.size
 vcs:=fun k q f z=>by
  by_cases e:k=j
  ·subst e;exact K z
  ·rw [cB S e] at f
   rw [il h y v u q f]
   exact (opAt sp k).stab _ _ _ _ _ (d.vcs k q f z) (fun b a=>c.block b a.1) (fun b G=>G.of v u a c.size) c.size
 bxs:=fun i g l M A p=>by
  have e:i≠j:=fun e=>by subst e;rw [p] at a;cases a
  rw [cB S e] at l
  obtain ⟨b,D,E,F,n⟩:=d.bxs i g l M A p
  have J:A≠j:=fun C=>by
   subst C
   exact I i (gd (fB h (bp g)).cls p).2.2
  refine ⟨b,by rw [ei _ _ e];exact D,E,?_⟩
  rw [cB S J]
  have o:=F.call c
  split
  ·rename_i r
   rw [if_pos r] at o n
   rw [il h y v u (gd (fB h (bp g)).cls p).2.1 r]
   exact ⟨o,n⟩
  ·rename_i r
   rw [if_neg r] at o n
   exact ⟨o,n⟩
 dis:=fun i k g q l f s t H=>by
  have w:i≠j:=fun e=>by subst e;rw [a] at s;cases s
  have x:k≠j:=fun e=>by subst e;rw [a] at t;cases t
  rw [cB S w] at l
  rw [cB S x] at f
  rw [ei _ _ w,ei _ _ x]
  exact d.dis i k g q l f s t H
theorem Full.box {ops:Array Oper} {sp:List ROp} {BP:List aC->Prop} {M B:Nat} {w0:au} {S:Nat->Bool} {val:Nat->aC} {X:au} {j E:Nat} {u:List aC} (h:gP ops sp M=true) (G:Down ops S) (N:j<ops.size) (m:Full ops.size sp BP B w0 S val X) (I:S j=false) (s:(opAt sp j).cl=.box u E) (q:S E=false) (K:BP u) (e:TypeId) :
  Full ops.size sp BP B w0 (gC S j) (updV val j (ar (some ⟨X.heap.size,0,none⟩))) (X.alloc (.cells u.toArray e)) where
 bel:=m.bel.trans (((ap _ X).alloc (ae _) _).mono m.low)
 low:=aQ m.low (by simp)
 vcs:=fun k t n D=>by
  by_cases f:k=j
  ·subst f
   rw [s] at D;cases D
  ·rw [cB S f] at n
   rw [il h G _ I t n]
   refine (opAt sp k).stab _ _ _ _ _ (m.vcs k t n D) (fun b r=>Below.heap_alloc _ _ _ r.1) (fun b r=>⟨by have:=r.1;rw [World.size_alloc];omega,fun i c d p=>?_⟩) (by simp)
   by_cases g:i=j
   ·subst g
    rw [kI]
    intro l
    injection l with l;injection l with l;injection l with l
    have:=r.1
    omega
   ·rw [ei _ _ g]
    rw [cB S g] at d
    exact r.2 i c d p
 bxs:=fun i c d F z o=>by
  by_cases f:i=j
  ·subst f
   rw [s] at o
   injection o with a v
   subst a;subst v
   refine ⟨X.heap.size,kI _ _ _,m.low,?_⟩
   have y:E≠i:=fun f=>by
    subst f
    have:=(gd (fB h (bp c)).cls s).2.2
    rw [s] at this;cases this
   rw [cB S y,q,if_neg (by simp)]
   exact ⟨Bk.new X u e,K⟩
  ·rw [cB S f] at d
   obtain ⟨b,a,v,C,w⟩:=m.bxs i c d F z o
   have L:z≠j:=fun f=>by
    subst f
    have:=(gd (fB h (bp c)).cls o).2.2
    rw [s] at this;cases this
   refine ⟨b,by rw [ei _ _ f];exact a,v,?_⟩
   rw [cB S L]
   have x:=C.al (.cells u.toArray e)
   split
   ·rename_i q
    rw [if_pos q] at x w
    rw [il h G _ I (gd (fB h (bp c)).cls o).2.1 q]
    exact ⟨x,w⟩
   ·rename_i q
    rw [if_neg q] at x w
    exact ⟨x,w⟩
 dis:=fun i k c t d n p H y=>by
  have J:∀i,i<ops.size->S i=true->(opAt sp i).cl.isBox=true->val i≠ar (some ⟨X.heap.size,0,none⟩):=fun i c d p l=>by
   obtain ⟨F,z,o⟩:=lY p
   obtain ⟨b,a,v,C,_⟩:=m.bxs i c d F z o
   rw [l] at a
   injection a with a;injection a with a;injection a with a
   have:=C.lt
   omega
  by_cases A:i=j
  ·subst A
   have g:k≠i:=fun e=>y e.symm
   rw [cB S g] at n
   rw [kI,ei _ _ g]
   exact (J k t n H).symm
  ·rw [cB S A] at d
   rw [ei _ _ A]
   by_cases g:k=j
   ·subst g
    rw [kI]
    exact J i c d p
   ·rw [cB S g] at n
    rw [ei _ _ g]
    exact m.dis i k c t d n p H y
theorem Full.put {ops:Array Oper} {sp:List ROp} {BP:List aC->Prop} {sz B:Nat} {w0:au} {S:Nat->Bool} {val:Nat->aC} {X p:au} {j i b:Nat} {zs:List aC} (h:gP ops sp sz=true) (G:Down ops S) (hj:j<ops.size) (o:Full ops.size sp BP B w0 S val X) (C:S j=false) (n:(opAt sp j).cl=.store i) (y:(opAt sp i).cl=.box zs j) (H:i<ops.size) (J:S i=true) (E:val i=ar (some ⟨b,0,none⟩)) (O:B<=b)
  (Q:aB b X p) (W:p.heap.size=X.heap.size) (I:∀k,k≠b->p.heap[k]? = X.heap[k]?) (R:Bk p b ((opAt sp j).cs (vals sp j val))) (T:BP ((opAt sp j).cs (vals sp j val))) (P:∀k∈(opAt sp j).D,k≠j) :
  Full ops.size sp BP B w0 (gC S j) (updV val j undef) p where
 bel:=o.bel.trans (Q.mono O)
 low:=by rw [W];exact o.low
 vcs:=fun k f d z=>by
  by_cases q:k=j
  ·subst q
   rw [n] at z;cases z
  ·rw [cB S q] at d
   rw [il h G _ C f d]
   have Z:∀c,Nb ops.size sp S val X c->c≠b:=fun c r e=>by
    subst e
    exact r.2 i H J (by rw [y];rfl) E
   exact (opAt sp k).stab _ _ _ _ _ (o.vcs k f d z) (fun c r=>I c (Z c r)) (fun c r=>r.of undef C (by rw [n];rfl) (by omega)) (by omega)
 bxs:=fun k f d a0 L g=>by
  have q:k≠j:=fun e=>by subst e;rw [n] at g;cases g
  rw [cB S q] at d
  obtain ⟨v,a,M,N,s⟩:=o.bxs k f d a0 L g
  refine ⟨v,by rw [ei _ _ q];exact a,M,?_⟩
  by_cases m:k=i
  ·subst m
   rw [y] at g
   injection g with x1 x2
   subst x1;subst x2
   rw [jN,if_pos rfl]
   rw [E] at a
   injection a with a;injection a with a;injection a with a
   subst a
   have Y:vals sp j (updV val j undef)=vals sp j val:=tt P
   rw [Y]
   exact ⟨R,T⟩
  ·have A:v≠b:=fun e=>by
    subst e
    exact o.dis k i f H d J (by rw [g];rfl) (by rw [y];rfl) m (by rw [a,E])
   have t:=N.keeps (I v A)
   have V:L≠j:=fun e=>by
    subst e
    have:=(gd (fB h (bp f)).cls g).2.2
    rw [n] at this
    injection this with this
    exact m this.symm
   rw [cB S V]
   split
   ·rename_i u
    rw [if_pos u] at t s
    rw [il h G _ C (gd (fB h (bp f)).cls g).2.1 u]
    exact ⟨t,s⟩
   ·rename_i u
    rw [if_neg u] at t s
    exact ⟨t,s⟩
 dis:=fun k l f U d K w x A=>by
  have F:k≠j:=fun e=>by subst e;rw [n] at w;cases w
  have m:l≠j:=fun e=>by subst e;rw [n] at x;cases x
  rw [cB S F] at d
  rw [cB S m] at K
  rw [ei _ _ F,ei _ _ m]
  exact o.dis k l f U d K w x A
structure Serves (P:dO) (ops:Array Oper) (sp:List ROp) (BP:List aC->Prop) (B:Nat) (w0:au) (a0:Act) (T:List aC->au->Prop):Prop where
 pure:∀j o val,ops[j]? = some o->(opAt sp j).cl=.pure->(∀i∈(opAt sp j).A,(opAt sp i).vp (vals sp i val)) ->
  (wantB val o=true->∃v,(∀X,(aL (eOf ops val a0 o) o).run P X=.ok (.value v) X)/\(opAt sp j).vp (vals sp j (updV val j v)))/\(wantB val o=false->(opAt sp j).vp (vals sp j (updV val j undef)))
 call:∀j o val X (N:Nat->Prop),ops[j]? = some o->(opAt sp j).cl=.call->aB B w0 X->(∀b,b<B->N b)->(∀b,N b->b<X.heap.size)->(∀b,b<X.heap.size->¬N b->∃vs,Bk X b vs/\BP vs)->(∀i∈(opAt sp j).A,(opAt sp i).vp (vals sp i val))->(∀i∈(opAt sp j).A,(opAt sp i).cl=.call->(opAt sp i).vc (vals sp i val) N X) ->
  (wantB val o=true->RunsTo P (aL (eOf ops val a0 o) o) X fun v X'=>aB X.heap.size X X'/\(opAt sp j).vp (vals sp j (updV val j v))/\∀N':Nat->Prop,(∀b,N b->N' b)->(∀b,X.heap.size<=b->b<X'.heap.size->N' b)->(opAt sp j).vc (vals sp j (updV val j v)) N' X') /\
  (wantB val o=false->(opAt sp j).vp (vals sp j (updV val j undef))/\∀N':Nat->Prop,(opAt sp j).vc (vals sp j (updV val j undef)) N' X)
 box:∀j o zs st val,ops[j]? = some o->(opAt sp j).cl=.box zs st->(opAt sp j).vp (vals sp j val)/\BP zs/\∃e,∀X,(aL (eOf ops val a0 o) o).run P X=.ok (.value (ar (some ⟨X.heap.size,0,none⟩))) (X.alloc (.cells zs.toArray e))
 store:∀j o i zs val X b,ops[j]? = some o->(opAt sp j).cl=.store i->(opAt sp i).cl=.box zs j->(∀i∈(opAt sp j).A,(opAt sp i).vp (vals sp i val))->val i=ar (some ⟨b,0,none⟩)->Bk X b zs ->
  (∀val,(opAt sp j).vp (vals sp j val))/\∃X',(aL (eOf ops val a0 o) o).run P X=.ok .skip X'/\aB b X X'/\X'.heap.size=X.heap.size/\(∀k,k≠b->X'.heap[k]? = X.heap[k]?)/\Bk X' b ((opAt sp j).cs (vals sp j val))/\BP ((opAt sp j).cs (vals sp j val))
 last:∀j o val X (N:Nat->Prop),ops[j]? = some o->(opAt sp j).cl=.last->aB B w0 X->(∀b,b<B->N b)->(∀b,N b->b<X.heap.size)->(∀b,b<X.heap.size->¬N b->∃vs,Bk X b vs/\BP vs)->(∀i∈(opAt sp j).A,(opAt sp i).vp (vals sp i val))->(∀i∈(opAt sp j).A,(opAt sp i).cl=.call->(opAt sp i).vc (vals sp i val) N X) ->
  (∀i∈(opAt sp j).A,∀zs st,(opAt sp i).cl=.box zs st->∃b,val i=ar (some ⟨b,0,none⟩)/\B<=b/\¬N b/\Bk X b (if (opAt sp j).A.contains st then (opAt sp st).cs (vals sp st val) else zs)) ->
  (wantB val o=true->RunsTo P (aL (eOf ops val a0 o) o) X fun v X'=>(opAt sp j).vp (vals sp j (updV val j v))/\T (vals sp j (updV val j v)) X')/\(wantB val o=false->(opAt sp j).vp (vals sp j (updV val j undef))/\T (vals sp j (updV val j undef)) X)
theorem Nb.old {n:Nat} {sp:List ROp} {BP:List aC->Prop} {B:Nat} {w0:au} {S:Nat->Bool} {val:Nat->aC} {X:au} (c:Full n sp BP B w0 S val X):∀b,b<B->Nb n sp S val X b:=fun b d=>⟨aA d c.low,fun i h j e g=>by
 obtain ⟨l,k,f⟩:=lY e
 obtain ⟨m,a,o,_⟩:=c.bxs i h j l k f
 rw [g] at a
 injection a with a;injection a with a;injection a with a
 omega⟩
theorem Nb.not {n:Nat} {sp:List ROp} {BP:List aC->Prop} {B:Nat} {w0:au} {S:Nat->Bool} {val:Nat->aC} {X:au} (l:Full n sp BP B w0 S val X):∀b,b<X.heap.size->¬Nb n sp S val X b->∃vs,Bk X b vs/\BP vs:=fun b j m=>by
 have:∃i,i<n/\S i=true/\(opAt sp i).cl.isBox=true/\val i=ar (some ⟨b,0,none⟩):=by
  refine Classical.byContradiction fun o=>m ⟨j,fun i e f c d=>o ⟨i,e,f,c,d⟩⟩
 obtain ⟨i,e,f,c,d⟩:=this
 obtain ⟨q,p,k⟩:=lY c
 obtain ⟨r,a,_,g,h⟩:=l.bxs i e f q p k
 rw [d] at a
 injection a with a;injection a with a;injection a with a
 subst a
 exact ⟨_,g,h⟩
structure RInv (ops:Array Oper) (sp:List ROp) (BP:List aC->Prop) (B:Nat) (w0:au) (a0:Act) (T:List aC->au->Prop) (S:Nat->Bool) (a:Act) (X:au) (val:Nat->aC):Prop where
 act:a=fi ops S val a0 ops.size
 down:Down ops S
 vps:∀j,j<ops.size->S j=true->(opAt sp j).vp (vals sp j val)
 full:(∀j,j<ops.size->(opAt sp j).cl=.last->S j=false)->Full ops.size sp BP B w0 S val X
 done:∀j,j<ops.size->(opAt sp j).cl=.last->S j=true->T (vals sp j val) X
theorem Full.all {ops:Array Oper} {sp:List ROp} {BP:List aC->Prop} {u B:Nat} {w0:au} {S:Nat->Bool} {val:Nat->aC} {X:au} (h:gP ops sp u=true) (d:Full ops.size sp BP B w0 S val X) (c:∀j,j<ops.size->S j=true):Full ops.size sp BP B w0 (fun _=>true) val X where
 bel:=d.bel
 low:=d.low
 vcs:=fun j n _ e=>(opAt sp j).stab _ _ _ _ _ (d.vcs j n (c j n) e) (fun _ _=>rfl) (fun b m=>⟨m.1,fun i a _ f=>m.2 i a (c i a) f⟩) (ae _)
 bxs:=fun i a _ v p e=>by
  obtain ⟨b,q,r,g,l⟩:=d.bxs i a (c i a) v p e
  rw [if_pos (c p (gd (fB h (bp a)).cls e).2.1)] at g l
  exact ⟨b,q,r,by rw [if_pos rfl];exact ⟨g,l⟩⟩
 dis:=fun i k a o _ _ f s t=>d.dis i k a o (c i a) (c k o) f s t
theorem mx {P:dO} {id:Nat} {ops:Array Oper} {Q:Exit->Act->au->Prop} (sp:List ROp) (BP:List aC->Prop) (T:List aC->au->Prop) {w0:au} {a0:Act} {B:Nat} (hm:P.follows .mixedOrders=true) (hB:B<=w0.heap.size) (h:gP ops sp a0.tmps.size=true) (p:Serves P ops sp BP B w0 a0 T)
  (c6:∀val X,(∀j,j<ops.size->(opAt sp j).vp (vals sp j val))->((∀j,j<ops.size->(opAt sp j).cl≠.last)->Full ops.size sp BP B w0 (fun _=>true) val X)->(∀j,j<ops.size->(opAt sp j).cl=.last->T (vals sp j val) X)->Q .normal (fi ops (fun _=>true) val a0 ops.size) X) :
  (Code.region id ops true).wp P Q a0 w0:=by
 refine wp_region_any hm ?_
 have c7:pD .any ops=true:=by
  unfold gP at h
  rw [bN] at h
  exact h.1
 have b6:=wm (P:=P) (Q:=Q) (fun S a X=>∃val,RInv ops sp BP B w0 a0 T S a X val) c7 ?step ?fin ops.size (fun _=>false) a0 ({ w0 with drawn:=w0.drawn+1 }) ?cnt ?start
 ·rw [pW] at b6
  exact b6
 case cnt=>
  have:∀n (S:Nat->Bool),lK n S<=n:=by
   intro n S
   induction n with
   | zero=>exact ae _
   | succ n ih=>unfold lK;split <;> omega
  exact this _ _
 case start=>
  refine ⟨fun _=>undef,?_,?_,?_,?_,?_⟩
  ·have:∀m,fi ops (fun _=>false) (fun _=>undef) a0 m=a0:=by
    intro m
    induction m with
    | zero=>rfl
    | succ m ih=>unfold fi;rw [if_neg (by simp)];exact ih
   exact (this _).symm
  ·intro k o _ p;cases p
  ·intro j _ p;cases p
  ·intro _
   exact ⟨(ap _ w0).drew,hB,fun j _ p=>(by cases p),fun i _ p=>(by cases p),fun i k _ _ p=>(by cases p)⟩
  ·intro j _ _ p;cases p
 case fin=>
  rintro S a X a6 ⟨val,c⟩
  have ha:a=fi ops (fun _=>true) val a0 ops.size:=c.act.trans (mU _ (fun i c=>a6 i c) (fun _ _ _=>rfl))
  rw [ha]
  exact c6 val X (fun j t=>c.vps j t (a6 j t)) (fun F=>(c.full fun j t E=>absurd E (F j t)).all h a6) (fun j t E=>c.done j t E (a6 j t))
 case step=>
  rintro S j o a X w x hp ⟨val,c⟩
  have t:=(aS.1 w).1
  have V:=fB h w
  have hr:∀d∈iC o,S d=true:=fun d hd=>by
   unfold iC at hd
   obtain ⟨e,H,rfl⟩:=List.mem_map.1 hd
   rw [List.mem_filter] at H
   exact hp e (by simpa using H.1) H.2
  have G:=qP h c.down w hr
  have b0:∀i∈(opAt sp j).A,(opAt sp i).vp (vals sp i val):=fun i g=>c.vps i (by have:=(V.anc i g).1;omega) (G i g)
  have a1:∀i∈(opAt sp j).A,i<ops.size:=fun i g=>by have:=(V.anc i g).1;omega
  have W:=tI c.down w hr
  have c5:jF ops j=o.dst:=vY w
  have O:∀v,a.put o.dst v=fi ops (gC S j) (updV val j v) a0 ops.size:=fun v=>by
   rw [tH (pb h) v x _ t,<-c.act,c5]
  have a3:∀v,(opAt sp j).vp (vals sp j (updV val j v))->∀k,k<ops.size->gC S j k=true->(opAt sp k).vp (vals sp k (updV val j v)):=fun v r k l f=>by
   by_cases e:k=j
   ·subst e;exact r
   ·rw [cB S e] at f
    rw [il h c.down v x l f]
    exact c.vps k l f
  have a7:∀v Y,(opAt sp j).cl≠.last->(∀k,k<ops.size->(opAt sp k).cl=.last->S k=true->T (vals sp k val) Y)->∀k,k<ops.size->(opAt sp k).cl=.last->gC S j k=true->T (vals sp k (updV val j v)) Y:=fun v Y E hd k l y f=>by
   have e:k≠j:=fun e=>E (e ▸ y)
   rw [cB S e] at f
   rw [il h c.down v x l f]
   exact hd k l y f
  -- nothing that acts comes behind the last one
  have K:(opAt sp j).cl.isPure=false->∀k,k<ops.size->(opAt sp k).cl=.last->S k=false:=fun c8 k l y=>by
   by_cases e:k=j
   ·subst e;exact x
   ·cases f:S k with
    | false=>rfl
    | true=>
     have:=c.down.anc h k l f j (lx (fB h (bp l)).cls y j t (fun e'=>e e'.symm) c8)
     rw [x] at this;cases this
  have d3:(∀k,k<ops.size->(opAt sp k).cl=.last->gC S j k=false)->∀k,k<ops.size->(opAt sp k).cl=.last->S k=false:=fun F k l E=>by
   have:=F k l E
   unfold gC at this
   split at this
   ·cases this
   ·exact this
  have hw:ev o (yielded ops a.tmps)=wantB val o:=by rw [c.act];exact vt h w hr
  have Z:aL a.eval o=aL (eOf ops val a0 o) o:=by rw [c.act];exact vV h c.down w x hr
  rw [hw]
  cases hcl:(opAt sp j).cl with
  | pure=>
   have I:=p.pure j o val w hcl b0
   have J:∀v,(opAt sp j).vp (vals sp j (updV val j v))->RInv ops sp BP B w0 a0 T (gC S j) (a.put o.dst v) X (updV val j v):=fun v r=>
    ⟨O v,W,a3 v r,fun F=>(c.full (d3 F)).grow h c.down v x (by rw [hcl];rfl) (fun i=>by rw [hcl];intro e;cases e) (ap _ _) (fun e=>by rw [hcl] at e;cases e),a7 v X (by rw [hcl];intro e;cases e) c.done⟩
   split
   ·rename_i a5
    obtain ⟨v,d0,d1⟩:=I.1 a5
    refine RunsTo.wp (R:=fun u X'=>u=v/\X'=X) (.inl ⟨v,X,by rw [Z];exact d0 X,rfl,rfl⟩) ?_
    rintro _ _ ⟨rfl,rfl⟩
    exact ⟨_,J _ d1⟩
   ·rename_i a4
    exact ⟨_,J _ (I.2 (by simpa using a4))⟩
  | call=>
   have q:=c.full (K (by rw [hcl];rfl))
   have I:=p.call j o val X (Nb ops.size sp S val X) w hcl q.bel (Nb.old q) (fun b U=>U.1) (Nb.not q) b0 (fun i g C=>q.vcs i (a1 i g) (G i g) C)
   have J:∀v Y,aB X.heap.size X Y->(opAt sp j).vp (vals sp j (updV val j v))->(∀M:Nat->Prop,(∀b,Nb ops.size sp S val X b->M b)->(∀b,X.heap.size<=b->b<Y.heap.size->M b)->(opAt sp j).vc (vals sp j (updV val j v)) M Y)->RInv ops sp BP B w0 a0 T (gC S j) (a.put o.dst v) Y (updV val j v):=fun v Y hY r a2=>
    ⟨O v,W,a3 v r,fun _=>q.grow h c.down v x (by rw [hcl];rfl) (fun i=>by rw [hcl];intro e;cases e) hY (fun _=>a2 _ (fun b U=>U.of v x (by rw [hcl];rfl) hY.size) (fun b d4 c3=>⟨c3,fun i a8 b4 b1 H=>by
      have e:i≠j:=fun e=>by subst e;rw [hcl] at b1;cases b1
      rw [cB S e] at b4
      rw [ei _ _ e] at H
      obtain ⟨D,z,E⟩:=lY b1
      obtain ⟨b',s,_,L,_⟩:=q.bxs i a8 b4 D z E
      rw [H] at s
      injection s with s;injection s with s;injection s with s
      have:=L.lt
      omega⟩)),a7 v Y (by rw [hcl];intro e;cases e) (fun k l y f=>by rw [K (by rw [hcl];rfl) k l y] at f;cases f)⟩
   split
   ·rename_i a5
    refine RunsTo.wp (by rw [Z];exact I.1 a5) ?_
    rintro v Y ⟨hY,r,a2⟩
    exact ⟨_,J v Y hY r a2⟩
   ·rename_i a4
    obtain ⟨r,a2⟩:=I.2 (by simpa using a4)
    exact ⟨_,J undef X (ap _ _) r (fun M _ _=>a2 M)⟩
  | last=>
   have q:=c.full (K (by rw [hcl];rfl))
   have I:=p.last j o val X (Nb ops.size sp S val X) w hcl q.bel (Nb.old q) (fun b U=>U.1) (Nb.not q) b0 (fun i g C=>q.vcs i (a1 i g) (G i g) C) (fun i g D z C=>by
    obtain ⟨b,s,h2,L,_⟩:=q.bxs i (a1 i g) (G i g) D z C
    refine ⟨b,s,h2,fun F=>F.2 i (a1 i g) (G i g) (by rw [C];rfl) s,?_⟩
    have a9:=(gd (fB h (bp (a1 i g))).cls C)
    have b3:z∈(opAt sp j).A:=lx V.cls hcl z a9.2.1 (fun e=>by subst e;rw [hcl] at a9;cases a9.2.2) (by rw [a9.2.2];rfl)
    rw [if_pos (by simpa using b3)]
    rw [if_pos (G z b3)] at L
    exact L)
   have J:∀v Y,(opAt sp j).vp (vals sp j (updV val j v))->T (vals sp j (updV val j v)) Y->RInv ops sp BP B w0 a0 T (gC S j) (a.put o.dst v) Y (updV val j v):=fun v Y r N=>
    ⟨O v,W,a3 v r,fun F=>absurd (F j t hcl) (by rw [jN];simp),fun k l y f=>by
     by_cases e:k=j
     ·subst e;exact N
     ·rw [cB S e,K (by rw [hcl];rfl) k l y] at f;cases f⟩
   split
   ·rename_i a5
    refine RunsTo.wp (by rw [Z];exact I.1 a5) ?_
    rintro v Y ⟨r,N⟩
    exact ⟨_,J v Y r N⟩
   ·rename_i a4
    obtain ⟨r,N⟩:=I.2 (by simpa using a4)
    exact ⟨_,J undef X r N⟩
  | box D z=>
   have q:=c.full (K (by rw [hcl];rfl))
   obtain ⟨hg,b5,c9⟩:=gd V.cls hcl
   have b2:S z=false:=by
    cases b2:S z with
    | false=>rfl
    | true=>
     have:=c.down.anc h z b5 b2 j (kz (fB h (bp b5)).cls c9).2.2.1
     rw [x] at this;cases this
   rw [if_pos (show wantB val o=true by unfold wantB;rw [hg])]
   obtain ⟨c4,e,H⟩:=(p.box j o D z val w hcl).2
   refine RunsTo.wp (R:=fun v Y=>v=ar (some ⟨X.heap.size,0,none⟩)/\Y=X.alloc (.cells D.toArray e)) (.inl ⟨_,_,by rw [Z];exact H X,rfl,rfl⟩) ?_
   rintro _ _ ⟨rfl,rfl⟩
   exact ⟨_,O _,W,a3 _ (p.box j o D z _ w hcl).1,fun _=>q.box h c.down t x hcl b2 c4 e,a7 _ _ (by rw [hcl];intro e;cases e) (fun k l y f=>by rw [K (by rw [hcl];rfl) k l y] at f;cases f)⟩
  | store i=>
   have q:=c.full (K (by rw [hcl];rfl))
   obtain ⟨hg,a8,g,⟨D,C⟩,b7⟩:=kz V.cls hcl
   rw [if_pos (show wantB val o=true by unfold wantB;rw [hg])]
   obtain ⟨b,s,h2,L,_⟩:=q.bxs i a8 (G i g) D j C
   rw [if_neg (by rw [x];simp)] at L
   obtain ⟨d2,X',hx,b8,b9,c0,c1,c2⟩:=p.store j o i D val X b w hcl C b0 s L
   refine RunsTo.wp (R:=fun v Y=>v=undef/\Y=X') (.inr (.inl ⟨X',by rw [Z];exact hx,rfl,rfl⟩)) ?_
   rintro _ _ ⟨rfl,rfl⟩
   exact ⟨_,O _,W,a3 _ (d2 _),fun _=>q.put h c.down t x hcl C a8 (G i g) s h2 b8 b9 c0 c1 c2 b7,a7 _ _ (by rw [hcl];intro e;cases e) (fun k l y f=>by rw [K (by rw [hcl];rfl) k l y] at f;cases f)⟩
variable {P:dO} {ops:Array Oper} {sp:List ROp} {BP:List aC->Prop} {B:Nat} {w0:au} {a0:Act} {T:List aC->au->Prop}
def fz (P:dO) (ops:Array Oper) (sp:List ROp) (BP:List aC->Prop) (B:Nat) (w0:au) (a0:Act) (T:List aC->au->Prop) (j:Nat) (o:Oper):Prop :=
 match (opAt sp j).cl with
 | .pure=>∀val,(∀i∈(opAt sp j).A,(opAt sp i).vp (vals sp i val)) ->
  (wantB val o=true->∃v,(∀X,(aL (eOf ops val a0 o) o).run P X=.ok (.value v) X)/\(opAt sp j).vp (vals sp j (updV val j v)))/\(wantB val o=false->(opAt sp j).vp (vals sp j (updV val j undef)))
 | .call=>∀val X (N:Nat->Prop),aB B w0 X->(∀b,b<B->N b)->(∀b,N b->b<X.heap.size)->(∀b,b<X.heap.size->¬N b->∃vs,Bk X b vs/\BP vs)->(∀i∈(opAt sp j).A,(opAt sp i).vp (vals sp i val))->(∀i∈(opAt sp j).A,(opAt sp i).cl=.call->(opAt sp i).vc (vals sp i val) N X) ->
  (wantB val o=true->RunsTo P (aL (eOf ops val a0 o) o) X fun v a=>aB X.heap.size X a/\(opAt sp j).vp (vals sp j (updV val j v))/\∀N':Nat->Prop,(∀b,N b->N' b)->(∀b,X.heap.size<=b->b<a.heap.size->N' b)->(opAt sp j).vc (vals sp j (updV val j v)) N' a) /\
  (wantB val o=false->(opAt sp j).vp (vals sp j (updV val j undef))/\∀N':Nat->Prop,(opAt sp j).vc (vals sp j (updV val j undef)) N' X)
 | .box zs _=>∀val,(opAt sp j).vp (vals sp j val)/\BP zs/\∃e,∀X,(aL (eOf ops val a0 o) o).run P X=.ok (.value (ar (some ⟨X.heap.size,0,none⟩))) (X.alloc (.cells zs.toArray e))
 | .store i=>∀zs val X b,(opAt sp i).cl=.box zs j->(∀i∈(opAt sp j).A,(opAt sp i).vp (vals sp i val))->val i=ar (some ⟨b,0,none⟩)->Bk X b zs ->
  (∀val,(opAt sp j).vp (vals sp j val))/\∃a,(aL (eOf ops val a0 o) o).run P X=.ok .skip a/\aB b X a/\a.heap.size=X.heap.size/\(∀k,k≠b->a.heap[k]? = X.heap[k]?)/\Bk a b ((opAt sp j).cs (vals sp j val))/\BP ((opAt sp j).cs (vals sp j val))
 | .last=>∀val X (N:Nat->Prop),aB B w0 X->(∀b,b<B->N b)->(∀b,N b->b<X.heap.size)->(∀b,b<X.heap.size->¬N b->∃vs,Bk X b vs/\BP vs)->(∀i∈(opAt sp j).A,(opAt sp i).vp (vals sp i val))->(∀i∈(opAt sp j).A,(opAt sp i).cl=.call->(opAt sp i).vc (vals sp i val) N X) ->
  (∀i∈(opAt sp j).A,∀zs st,(opAt sp i).cl=.box zs st->∃b,val i=ar (some ⟨b,0,none⟩)/\B<=b/\¬N b/\Bk X b (if (opAt sp j).A.contains st then (opAt sp st).cs (vals sp st val) else zs)) ->
  (wantB val o=true->RunsTo P (aL (eOf ops val a0 o) o) X fun v a=>(opAt sp j).vp (vals sp j (updV val j v))/\T (vals sp j (updV val j v)) a)/\(wantB val o=false->(opAt sp j).vp (vals sp j (updV val j undef))/\T (vals sp j (updV val j undef)) X)
theorem Serves.of (h:∀j o,ops[j]? = some o->fz P ops sp BP B w0 a0 T j o):Serves P ops sp BP B w0 a0 T where
 pure:=fun j o val c a=>by have:=h j o c;unfold fz at this;rw [a] at this;exact this val
 call:=fun j o val X N c a=>by have:=h j o c;unfold fz at this;rw [a] at this;exact this val X N
 box:=fun j o d f val c a=>by have:=h j o c;unfold fz at this;rw [a] at this;exact this val
 store:=fun j o i d val X b c a e=>by have:=h j o c;unfold fz at this;rw [a] at this;exact this d val X b e
 last:=fun j o val X N c a=>by have:=h j o c;unfold fz at this;rw [a] at this;exact this val X N
variable {j:Nat} {o:Oper}
structure EOf (ops:Array Oper) (val:Nat->aC) (a0:Act) (o:Oper) (E:Operand->aC):Prop where
 eq:E=eOf ops val a0 o
 c:∀v,E (.const v)=v
 f:∀f,E (.func f)=.func (.func f) #[] #[]
theorem EOf.at (ops:Array Oper) (val:Nat->aC) (a0:Act) (o:Oper):EOf ops val a0 o (eOf ops val a0 o):=⟨rfl,fun _=>rfl,fun _=>rfl⟩
abbrev sB (sp:List ROp) (j:Nat) (val:Nat->aC):Prop:=∀i∈(opAt sp j).A,(opAt sp i).vp (vals sp i val)
abbrev Cr (sp:List ROp) (j:Nat) (val:Nat->aC) (N:Nat->Prop) (X:au):Prop:=∀i∈(opAt sp j).A,(opAt sp i).cl=.call->(opAt sp i).vc (vals sp i val) N X
structure AtC (BP:List aC->Prop) (B:Nat) (w0 X:au) (N:Nat->Prop):Prop where
 bel:aB B w0 X
 old:∀b,b<B->N b
 lt:∀b,N b->b<X.heap.size
 bx:∀b,b<X.heap.size->¬N b->∃vs,Bk X b vs/\BP vs
theorem kH {val:Nat->aC} (a:o.guard=none):wantB val o=true:=by unfold wantB;rw [a]
theorem iO {val:Nat->aC} {g:Nat} {b c:Bool} (a:o.guard=some (g,b)) (d:val g=av c):wantB val o=(c==b):=by unfold wantB;rw [a];dsimp only;rw [d]
theorem aY (c:(opAt sp j).cl=.pure) (d:o.guard=none) (h:∀val E,EOf ops val a0 o E->sB sp j val->∃v,(∀X,(aL E o).run P X=.ok (.value v) X)/\(opAt sp j).vp (vals sp j (updV val j v))):fz P ops sp BP B w0 a0 T j o:=by
 unfold fz;rw [c]
 exact fun val b=>⟨fun _=>h val _ (EOf.at _ _ _ _) b,fun a=>by rw [kH d] at a;cases a⟩
theorem ed {g:Nat} {b:Bool} (c:Bool) (l:(opAt sp j).cl=.pure) (e:o.guard=some (g,b)) (i:∀val,sB sp j val->val g=av c) (h:c=b->∀val E,EOf ops val a0 o E->sB sp j val->∃v,(∀X,(aL E o).run P X=.ok (.value v) X)/\(opAt sp j).vp (vals sp j (updV val j v))) (k:c≠b->∀val,sB sp j val->(opAt sp j).vp (vals sp j (updV val j undef))):fz P ops sp BP B w0 a0 T j o:=by
 unfold fz;rw [l]
 refine fun val a=>⟨fun f=>?_,fun d=>?_⟩
 ·rw [iO e (i val a)] at f
  exact h (by simpa using f) val _ (EOf.at _ _ _ _) a
 ·rw [iO e (i val a)] at d
  exact k (by simpa using d) val a
theorem dU (f:(opAt sp j).cl=.call) (g:o.guard=none) (i:∀vs N X,(opAt sp j).vc vs N X) (h:∀val E X,EOf ops val a0 o E->aB B w0 X->sB sp j val->∃v,(aL E o).run P X=.ok (.value v) X/\(opAt sp j).vp (vals sp j (updV val j v))):fz P ops sp BP B w0 a0 T j o:=by
 unfold fz;rw [f]
 refine fun val X N e _ _ _ d _=>⟨fun _=>?_,fun a=>by rw [kH g] at a;cases a⟩
 obtain ⟨v,b,c⟩:=h val _ X (EOf.at _ _ _ _) e d
 exact .inl ⟨v,X,b,ap _ _,c,fun _ _ _=>i _ _ _⟩
theorem iE {g:Nat} {b:Bool} (c:Bool) (p:(opAt sp j).cl=.call) (f:o.guard=some (g,b)) (l:∀vs N X,(opAt sp j).vc vs N X) (k:∀val,sB sp j val->val g=av c) (h:c=b->∀val E X,EOf ops val a0 o E->aB B w0 X->sB sp j val->∃v,(aL E o).run P X=.ok (.value v) X/\(opAt sp j).vp (vals sp j (updV val j v))) (d:c≠b->∀val,sB sp j val->(opAt sp j).vp (vals sp j (updV val j undef))):fz P ops sp BP B w0 a0 T j o:=by
 unfold fz;rw [p]
 refine fun val X N n _ _ _ a _=>⟨fun i=>?_,fun e=>?_⟩
 ·rw [iO f (k val a)] at i
  obtain ⟨v,m,d⟩:=h (by simpa using i) val _ X (EOf.at _ _ _ _) n a
  exact .inl ⟨v,X,m,ap _ _,d,fun _ _ _=>l _ _ _⟩
 ·rw [iO f (k val a)] at e
  exact ⟨d (by simpa using e) val a,fun _=>l _ _ _⟩
theorem ge (l:(opAt sp j).cl=.call) (m:o.guard=none) (n:∀vs N X,(opAt sp j).vc vs N X) (h:∀val E X,EOf ops val a0 o E->aB B w0 X->sB sp j val->∃f args v,(aL E o).run P X=.ok (.enter f args) X/\(Calls P f args X fun e w'=>e=aD v/\aB X.heap.size X w')/\(opAt sp j).vp (vals sp j (updV val j v))):fz P ops sp BP B w0 a0 T j o:=by
 unfold fz;rw [l]
 refine fun val X N k _ _ _ i _=>⟨fun _=>?_,fun a=>by rw [kH m] at a;cases a⟩
 obtain ⟨f,args,v,c,d,g⟩:=h val _ X (EOf.at _ _ _ _) k i
 exact .inr (.inr ⟨f,args,X,c,d.mono fun e w' b=>⟨v,b.1,b.2,g,fun _ _ _=>n _ _ _⟩⟩)
theorem nQ {g:Nat} {b:Bool} (c:Bool) (t:(opAt sp j).cl=.call) (k:o.guard=some (g,b)) (p:∀vs N X,(opAt sp j).vc vs N X) (n:∀val,sB sp j val->val g=av c) (h:c=b->∀val E X,EOf ops val a0 o E->aB B w0 X->sB sp j val->∃f args v,(aL E o).run P X=.ok (.enter f args) X/\(Calls P f args X fun e w'=>e=aD v/\aB X.heap.size X w')/\(opAt sp j).vp (vals sp j (updV val j v))) (d:c≠b->∀val,sB sp j val->(opAt sp j).vp (vals sp j (updV val j undef))):fz P ops sp BP B w0 a0 T j o:=by
 unfold fz;rw [t]
 refine fun val X N s _ _ _ a _=>⟨fun m=>?_,fun i=>?_⟩
 ·rw [iO k (n val a)] at m
  obtain ⟨f,args,v,q,d,r⟩:=h (by simpa using m) val _ X (EOf.at _ _ _ _) s a
  exact .inr (.inr ⟨f,args,X,q,d.mono fun e w' l=>⟨v,l.1,l.2,r,fun _ _ _=>p _ _ _⟩⟩)
 ·rw [iO k (n val a)] at i
  exact ⟨d (by simpa using i) val a,fun _=>p _ _ _⟩
theorem Bd (n:(opAt sp j).cl=.call) (p:o.guard=none) (h:∀val E X N,EOf ops val a0 o E->AtC BP B w0 X N->sB sp j val->Cr sp j val N X->∃v a,(aL E o).run P X=.ok (.value v) a/\aB X.heap.size X a/\(opAt sp j).vp (vals sp j (updV val j v))/\∀N':Nat->Prop,(∀b,N b->N' b)->(∀b,X.heap.size<=b->b<a.heap.size->N' b)->(opAt sp j).vc (vals sp j (updV val j v)) N' a):fz P ops sp BP B w0 a0 T j o:=by
 unfold fz;rw [n]
 refine fun val X N d e f g l m=>⟨fun _=>?_,fun c=>by rw [kH p] at c;cases c⟩
 obtain ⟨v,a,i,k⟩:=h val _ X N (EOf.at _ _ _ _) ⟨d,e,f,g⟩ l m
 exact .inl ⟨v,a,i,k⟩
theorem jq {a:List aC} {f:Nat} (c:(opAt sp j).cl=.box a f) (d:∀vs,(opAt sp j).vp vs) (b:BP a) (e:TypeId) (h:∀E X,(aL E o).run P X=.ok (.value (ar (some ⟨X.heap.size,0,none⟩))) (X.alloc (.cells a.toArray e))):fz P ops sp BP B w0 a0 T j o:=by
 unfold fz;rw [c]
 exact fun val=>⟨d _,b,e,fun X=>h _ X⟩
structure PutTo (b:Nat) (X X':au) (cs:List aC):Prop where
 bel:aB b X X'
 size:X'.heap.size=X.heap.size
 other:∀k,k≠b->X'.heap[k]? = X.heap[k]?
 bk:Bk X' b cs
theorem im {i:Nat} {f:List aC} (n:(opAt sp j).cl=.store i) (s:(opAt sp i).cl=.box f j) (r:∀vs,(opAt sp j).vp vs) (h:∀val E X b,EOf ops val a0 o E->sB sp j val->val i=ar (some ⟨b,0,none⟩)->Bk X b f->∃a c,(aL E o).run P X=.ok .skip a/\PutTo b X a c/\(opAt sp j).cs (vals sp j val)=c/\BP c):fz P ops sp BP B w0 a0 T j o:=by
 unfold fz;rw [n]
 intro t val X b e m q p
 rw [s] at e
 injection e with e1 e2
 subst e1
 obtain ⟨a,c,g,d,k,l⟩:=h val _ X b (EOf.at _ _ _ _) m q p
 rw [k]
 exact ⟨fun _=>r _,a,g,d.bel,d.size,d.other,d.bk,l⟩
theorem PutTo.more {b:Nat} {X a:au} {c:List aC} (h:PutTo b X a c) (i:Nat) (v:aC):PutTo b X (a.setCell ⟨b,i,none⟩ v) (c.set i v) :=
 ⟨h.bel.setCell (p:=⟨b,_,none⟩) (ae _) _,by simp [h.size],fun k d=>(heap_setCell_other _ _ _ _ d).trans (h.other k d),h.bk.set i v⟩
theorem PutTo.start {b:Nat} {X:au} {zs:List aC} (h:Bk X b zs):PutTo b X X zs:=⟨ap _ _,rfl,fun _ _=>rfl,h⟩
theorem pk (n:(opAt sp j).cl=.last) (p:o.guard=none) (h:∀val E X N,EOf ops val a0 o E->AtC BP B w0 X N->sB sp j val->Cr sp j val N X ->
  (∀i∈(opAt sp j).A,∀zs st,(opAt sp i).cl=.box zs st->∃b,val i=ar (some ⟨b,0,none⟩)/\B<=b/\¬N b/\Bk X b (if (opAt sp j).A.contains st then (opAt sp st).cs (vals sp st val) else zs)) ->
  RunsTo P (aL E o) X fun v c=>(opAt sp j).vp (vals sp j (updV val j v))/\T (vals sp j (updV val j v)) c):fz P ops sp BP B w0 a0 T j o:=by
 unfold fz;rw [n]
 exact fun val X N d e f g k l m=>⟨fun _=>h val _ X N (EOf.at _ _ _ _) ⟨d,e,f,g⟩ k l m,fun a=>by rw [kH p] at a;cases a⟩
def gD:List (Option Tmp)->Nat->(Nat->aC)->List aC->List aC
 | [],_,_,t=>t
 | none::ds,k,val,t=>gD ds (k+1) val t
 | some d::ds,k,val,t=>gD ds (k+1) val (t.set d (val k))
theorem vg (a:List (Option Tmp)):∀(d:Option Tmp) (k:Nat) (val:Nat->aC) (t:List aC),gD (a++[d]) k val t=match d with | none=>gD a k val t | some d=>(gD a k val t).set d (val (k+a.length)):=by
 induction a with
 | nil=>intro d k val t;cases d <;> rfl
 | cons x a ih=>
  intro d k val t
  cases x <;> (rw [List.cons_append];unfold gD;rw [ih];cases d <;> simp only [List.length_cons];congr 2;omega)
theorem mT {a:List (Option Tmp)} {t:List aC} {b:List Deferred} (hd:ops.toList.map (·.dst)=a) (val:Nat->aC):fi ops (fun _=>true) val ⟨t.toArray,b⟩ ops.size=⟨(gD a 0 val t).toArray,b⟩:=by
 have f:∀m,m<=ops.size->fi ops (fun _=>true) val ⟨t.toArray,b⟩ m=⟨(gD (a.take m) 0 val t).toArray,b⟩:=by
  intro m
  induction m with
  | zero=>intro _;rfl
  | succ m ih=>
   intro g
   have e:m<a.length:=by rw [<-hd];simp;omega
   have c:jF ops m=a[m]:=by
    unfold jF
    rw [bp (by omega)]
    simp only [<-hd,List.getElem_map,Option.bind_some]
    rfl
   rw [fi,if_pos rfl,ih (by omega),List.take_succ_eq_append_getElem e,vg,c]
   cases a[m] with
   | none=>rfl
   | some d=>
    simp only [bu,List.setIfInBounds_toArray,List.length_take,Nat.zero_add]
    rw [Nat.min_eq_left (by omega)]
 have:=f ops.size (ae _)
 rw [this,List.take_of_length_le (by rw [<-hd];simp)]
def yK (sp:List ROp) (n:Nat):Bool:=(aM n).all fun j=>!(opAt sp j).cl.isLast
structure Abs (n:Nat) (sp:List ROp) (B:Nat) (w0:au) (val:Nat->aC) (X:au) (N:Nat->Prop):Prop where
 bel:aB B w0 X
 low:B<=X.heap.size
 lt:∀b,N b->b<X.heap.size
 old:∀b,b<B->N b
 vcs:∀j,j<n->(opAt sp j).cl=.call->(opAt sp j).vc (vals sp j val) N X
 bxs:∀i,i<n->∀zs st,(opAt sp i).cl=.box zs st->∃b,val i=ar (some ⟨b,0,none⟩)/\B<=b/\Bk X b ((opAt sp st).cs (vals sp st val))/\¬N b
 dis:∀i k,i<n->k<n->(opAt sp i).cl.isBox=true->(opAt sp k).cl.isBox=true->i≠k->val i≠val k
theorem Full.abs {n:Nat} {val:Nat->aC} {X:au} (a:Full n sp BP B w0 (fun _=>true) val X):Abs n sp B w0 val X (Nb n sp (fun _=>true) val X) where
 bel:=a.bel
 low:=a.low
 lt:=fun _ h=>h.1
 old:=Nb.old a
 vcs:=fun j l c=>a.vcs j l rfl c
 bxs:=fun i d p o c=>by
  obtain ⟨b,e,g,f,_⟩:=a.bxs i d rfl p o c
  rw [if_pos rfl] at f
  exact ⟨b,e,g,f,fun h=>h.2 i d rfl (by rw [c];rfl) e⟩
 dis:=fun i k d m=>a.dis i k d m rfl rfl
theorem fu {id:Nat} {Q:Exit->Act->au->Prop} {t:List aC} {a:List Deferred} (sp:List ROp) (b:List (Option Tmp)) (BP:List aC->Prop) (B:Nat) (k:P.follows .mixedOrders=true) (c:B<=w0.heap.size) (hd:ops.toList.map (·.dst)=b) (h:gP ops sp t.length=true) (i:yK sp ops.size=true)
  (l:∀j o,ops[j]? = some o->fz P ops sp BP B w0 ⟨t.toArray,a⟩ (fun _ _=>True) j o)
  (d:∀val X N,(∀j,j<ops.size->(opAt sp j).vp (vals sp j val))->Abs ops.size sp B w0 val X N->Q .normal ⟨(gD b 0 val t).toArray,a⟩ X) :
  (Code.region id ops true).wp P Q ⟨t.toArray,a⟩ w0 :=
 mx sp BP (fun _ _=>True) k c (by simpa using h) (Serves.of l) fun val X m f _=>by
  rw [mT hd]
  refine d val X _ m (f fun j g e=>?_).abs
  have:=cx.1 i j (dG.2 g)
  rw [e] at this;cases this
theorem lQ {id:Nat} {Q:Exit->Act->au->Prop} {t:List aC} {a:List Deferred} (sp:List ROp) (b:List (Option Tmp)) (BP:List aC->Prop) (B l:Nat) (T:List aC->au->Prop) (g:P.follows .mixedOrders=true) (d:B<=w0.heap.size) (hd:ops.toList.map (·.dst)=b) (h:gP ops sp t.length=true) (c:l<ops.size/\(opAt sp l).cl=.last)
  (i:∀j o,ops[j]? = some o->fz P ops sp BP B w0 ⟨t.toArray,a⟩ T j o)
  (f:∀val X,(∀j,j<ops.size->(opAt sp j).vp (vals sp j val))->T (vals sp l val) X->Q .normal ⟨(gD b 0 val t).toArray,a⟩ X) :
  (Code.region id ops true).wp P Q ⟨t.toArray,a⟩ w0 :=
 mx sp BP T g d (by simpa using h) (Serves.of i) fun val X k _ e=>by
  rw [mT hd]
  exact f val X k (e l c.1 c.2)
theorem Abs.at_box {n:Nat} {val:Nat->aC} {X:au} {N:Nat->Prop} (m:Abs n sp B w0 val X N) (i:Nat) {d:List aC} {a:Nat} (o:i<n) (k:(opAt sp i).cl=.box d a):∃b,val i=ar (some ⟨b,0,none⟩)/\B<=b/\Bk X b ((opAt sp a).cs (vals sp a val))/\∀c,N c->c≠b:=by
 obtain ⟨b,f,g,h,j⟩:=m.bxs i o d a k
 exact ⟨b,f,g,h,fun c l e=>j (e ▸ l)⟩
def aP (X:au) (g:Nat):Nat->List aC->Prop
 | _,[]=>True
 | i,v::vs=>(X.cell? ⟨g,i,none⟩=some v/\X.frozen? ⟨g,i,none⟩=false)/\aP X g (i+1) vs
def aH (X:au):List (Nat×List aC)->Prop
 | []=>True
 | (g,vs)::l=>(g<X.heap.size/\aP X g 0 vs)/\aH X l
theorem Bk.all {X:au} {g:Nat} {vs:List aC} (h:Bk X g vs):∀(i:Nat) (us:List aC),(∀k v,us[k]? = some v->vs[i+k]? = some v)->aP X g i us:=by
 intro i us
 induction us generalizing i with
 | nil=>intro _;exact True.intro
 | cons u us ih=>
  intro a
  exact ⟨⟨h.c i u (by simpa using a 0 u rfl),h.f i⟩,ih (i+1) fun k v b=>by
   have:=a (k+1) v (by simpa using b)
   rwa [show i+1+k=i+(k+1) by omega]⟩
theorem Bks.all {X:au}:∀{l:List (Nat×List aC)},Bks X l->aH X l
 | [],_=>True.intro
 | (_,_)::_,h=>⟨⟨h.lt 0 rfl,(h.at 0 _ _ rfl).all 0 _ fun k v a=>by simpa using a⟩,Bks.all h.tl⟩
theorem Bk.all0 {X:au} {g:Nat} {vs:List aC} (h:Bk X g vs):g<X.heap.size/\aP X g 0 vs:=⟨h.lt,h.all 0 _ fun k v a=>by simpa using a⟩
end Hb
namespace Hb
theorem EOf.t {ops:Array Go.Oper} {val:Nat->Go.Value} {a0:Go.Act} {o:Go.Oper} {E:Go.Operand->Go.Value} (h:EOf ops val a0 o E) (t:Go.Tmp) (v:Go.Value) (k:eOf ops val a0 o (.tmp t)=v):E (.tmp t)=v:=by rw [h.eq];exact k
end Hb
