/- Parts of the proof. -/
import Derived.Test.YtbojljpldcijgaaGreatH01
import Derived.Test.YtbojljpldcijgaaGreatH08
namespace Hb
open Go Go.RowKit
def dstO (ops:Array Oper) (j:Nat):Option Tmp:=(ops[j]?).bind (·.dst)
def depsO (o:Oper):List Nat:=(o.after.toList.filter (Region.binds .any)).map (·.on)
def updV (val:Nat→Value) (j:Nat) (v:Value):Nat→Value:=fun i=>if i=j then v else val i
theorem updV_same (val:Nat→Value) (j:Nat) (v:Value):updV val j v j=v:=if_pos rfl
theorem updV_other (val:Nat→Value) {j i:Nat} (v:Value) (h:i≠j):updV val j v i=val i:=if_neg h
theorem map_updV {val:Nat→Value} {j:Nat} {v:Value} {l:List Nat} (h:∀i∈l,i≠j):l.map (updV val j v)=l.map val:=List.map_congr_left fun i hi=>updV_other val v (h i hi)
def fillN (ops:Array Oper) (S:Nat→Bool) (val:Nat→Value) (a0:Act):Nat→Act
 | 0=>a0
 | m+1=>if S m=true then (fillN ops S val a0 m).put (dstO ops m) (val m) else fillN ops S val a0 m
theorem put_size (a:Act) (d:Option Tmp) (v:Value):(a.put d v).tmps.size=a.tmps.size:=by
 cases d <;> simp [Act.put]
theorem fill_size (ops:Array Oper) (S:Nat→Bool) (val:Nat→Value) (a0:Act):∀m,(fillN ops S val a0 m).tmps.size=a0.tmps.size:=by
 intro m
 induction m with
 | zero=>rfl
 | succ m ih=>
  unfold fillN
  split
  ·rw [put_size,ih]
  ·exact ih
theorem fill_congr {ops:Array Oper} {S S':Nat→Bool} {val val':Nat→Value} {a0:Act}:∀m,(∀i,i<m→S i=S' i)→(∀i,i<m→S i=true→val i=val' i)→fillN ops S val a0 m=fillN ops S' val' a0 m:=by
 intro m
 induction m with
 | zero=>intros;rfl
 | succ m ih=>
  intro h1 h2
  unfold fillN
  rw [ih (fun i hi=>h1 i (by omega)) (fun i hi=>h2 i (by omega)),←h1 m (by omega)]
  split
  ·rename_i hs
   rw [h2 m (by omega) hs]
  ·rfl
def Dist (ops:Array Oper):Prop:=∀i j d,i≠j→dstO ops i=some d→dstO ops j≠some d
theorem fill_upd {ops:Array Oper} {S:Nat→Bool} {val:Nat→Value} {a0:Act} (hd:Dist ops) {j:Nat} (v:Value) (hs:S j=false):∀m,j<m→fillN ops (updF S j) (updV val j v) a0 m=(fillN ops S val a0 m).put (dstO ops j) v:=by
 intro m
 induction m with
 | zero=>intro h;cases h
 | succ m ih=>
  intro hj
  by_cases e:j=m
  ·subst e
   rw [fillN,updF_same,if_pos rfl,updV_same,fillN,hs,if_neg (by simp)]
   rw [fill_congr (S':=S) (val':=val) j (fun i hi=>updF_other S (by omega)) (fun i hi _=>updV_other val v (by omega))]
  ·have hjm:j<m:=by omega
   rw [fillN,updF_other S (fun h=>e h.symm),updV_other val v (fun h=>e h.symm),ih hjm]
   conv=>rhs;rw [fillN]
   split
   ·exact Act.put_comm _ _ _ fun d hd1=>hd j m d (by omega) hd1
   ·rfl
theorem eval_put_same {a:Act} {t:Tmp} {v:Value} (h:t<a.tmps.size):(a.put (some t) v).eval (.tmp t)=v:=by
 simp [Act.eval,Act.put,Array.getD,h]
theorem fill_eval_dep {ops:Array Oper} {S:Nat→Bool} {val:Nat→Value} {a0:Act} (hd:Dist ops) {i:Nat} {t:Tmp} (hs:S i=true) (ht:dstO ops i=some t) (hz:t<a0.tmps.size):∀m,i<m→(fillN ops S val a0 m).eval (.tmp t)=val i:=by
 intro m
 induction m with
 | zero=>intro h;cases h
 | succ m ih=>
  intro hi
  rw [fillN]
  by_cases e:i=m
  ·subst e
   rw [if_pos hs,ht]
   exact eval_put_same (by rw [fill_size];exact hz)
  ·split
   ·rw [Act.eval_put fun d h1 h2=>by injection h2 with h2;subst h2;exact hd i m t e ht h1]
    exact ih (by omega)
   ·exact ih (by omega)
theorem fill_eval_none {ops:Array Oper} {S:Nat→Bool} {val:Nat→Value} {a0:Act} {t:Tmp}:∀m,(∀k,k<m→S k=true→dstO ops k≠some t)→(fillN ops S val a0 m).eval (.tmp t)=a0.eval (.tmp t):=by
 intro m
 induction m with
 | zero=>intros;rfl
 | succ m ih=>
  intro h
  rw [fillN]
  split
  ·rename_i hs
   rw [Act.eval_put fun d h1 h2=>by injection h2 with h2;subst h2;exact h m (by omega) hs h1]
   exact ih fun k hk=>h k (by omega)
  ·exact ih fun k hk=>h k (by omega)
def eOf (ops:Array Oper) (val:Nat→Value) (a0:Act) (o:Oper):Operand→Value
 | .tmp t=>match (depsO o).find? (fun i=>dstO ops i==some t) with | some i=>val i | none=>a0.eval (.tmp t)
 | x=>a0.eval x
def wantB (val:Nat→Value) (o:Oper):Bool :=
 match o.guard with
 | none=>true
 | some (g,b)=>match val g with | .bool c=>c==b | _=>false
inductive Cls where
 | pure | call | last
 | box (zs:List Value) (st:Nat)
 | store (i:Nat)
def Cls.isBox:Cls→Bool | .box _ _=>true | _=>false
def Cls.isPure:Cls→Bool | .pure=>true | _=>false
def Cls.isLast:Cls→Bool | .last=>true | _=>false
structure ROp where
 cl:Cls
 A:List Nat
 D:List Nat
 vp:List Value→Prop
 vc:List Value→(Nat→Prop)→World→Prop
 cs:List Value→List Value
 stab:∀vs N N' X X',vc vs N X→(∀b,N b→X'.heap[b]? = X.heap[b]?)→(∀b,N b→N' b)→X.heap.size≤X'.heap.size→vc vs N' X'
def rPure (A D:List Nat) (vp:List Value→Prop):ROp:=⟨.pure,A,D,vp,fun _ _ _=>True,fun _=>[],fun _ _ _ _ _ _ _ _ _=>trivial⟩
def rVal (A D:List Nat) (vp:List Value→Prop):ROp:=⟨.call,A,D,vp,fun _ _ _=>True,fun _=>[],fun _ _ _ _ _ _ _ _ _=>trivial⟩
def rCall (A D:List Nat) (vp:List Value→Prop) (vc:List Value→(Nat→Prop)→World→Prop) (stab:∀vs N N' X X',vc vs N X→(∀b,N b→X'.heap[b]? = X.heap[b]?)→(∀b,N b→N' b)→X.heap.size≤X'.heap.size→vc vs N' X'):ROp:=⟨.call,A,D,vp,vc,fun _=>[],stab⟩
def rLast (A D:List Nat) (vp:List Value→Prop):ROp:=⟨.last,A,D,vp,fun _ _ _=>True,fun _=>[],fun _ _ _ _ _ _ _ _ _=>trivial⟩
def rBox (A:List Nat) (zs:List Value) (st:Nat):ROp:=⟨.box zs st,A,[],fun _=>True,fun _ _ _=>True,fun _=>[],fun _ _ _ _ _ _ _ _ _=>trivial⟩
def rStore (A D:List Nat) (i:Nat) (cs:List Value→List Value):ROp:=⟨.store i,A,D,fun _=>True,fun _ _ _=>True,cs,fun _ _ _ _ _ _ _ _ _=>trivial⟩
def rNone:ROp:=rPure [] [] fun _=>True
def opAt (sp:List ROp) (j:Nat):ROp:=sp.getD j rNone
def tmpOk (ops:Array Oper) (sp:List ROp) (sz j:Nat) (o:Oper) (t:Tmp):Bool :=
 match (depsO o).find? (fun i=>dstO ops i==some t) with
 | some i=>decide (i<ops.size)&&decide (t<sz)
 | none=>(List.range ops.size).all fun k=>dstO ops k != some t||(opAt sp k).A.contains j||k==j
def clsOk (ops:Array Oper) (sp:List ROp) (j:Nat) (o:Oper):Bool :=
 match (opAt sp j).cl with
 | .pure | .call=>true
 | .last=>(List.range ops.size).all fun k=>k==j||(opAt sp k).cl.isPure||(opAt sp j).A.contains k
 | .box _ st=>o.guard.isNone&&decide (st<ops.size)&&(match (opAt sp st).cl with | .store i=>i==j | _=>false)
 | .store i=>o.guard.isNone&&decide (i<ops.size)&&(opAt sp j).A.contains i&&(match (opAt sp i).cl with | .box _ st=>st==j | _=>false)&&((opAt sp j).D.all fun k=>k != j)
def opChk (ops:Array Oper) (sp:List ROp) (sz j:Nat) (o:Oper):Bool :=
 ((depsO o).all fun d=>decide (d<j)&&(opAt sp j).A.contains d) &&
 ((opAt sp j).A.all fun i=>decide (i<j)&&((depsO o).contains i||(depsO o).any fun d=>(opAt sp d).A.contains i)) &&
 ((opAt sp j).D.all fun i=>i==j||(opAt sp j).A.contains i) &&
 (match o.op with | .select _ _=>false | _=>true) &&
 (o.op.operands.toList.all fun | .tmp t=>tmpOk ops sp sz j o t | _=>true) &&
 (match o.guard with | none=>true | some (g,_)=>(depsO o).contains g&&(match dstO ops g with | some t=>decide (t<sz) | none=>false)) &&
 (match o.dst with | none=>true | some d=>(List.range ops.size).all fun i=>i==j||dstO ops i != some d) &&
 clsOk ops sp j o
def regChk (ops:Array Oper) (sp:List ROp) (sz:Nat):Bool :=
 ordOk .any ops&&(List.range ops.size).all fun j=>match ops[j]? with | some o=>opChk ops sp sz j o | none=>false
def RunsTo (P:Program) (m:Sem Next) (X:World) (R:Value→World→Prop):Prop :=
 (∃v X',m.run P X=.ok (.value v) X'∧R v X')∨(∃X',m.run P X=.ok .skip X'∧R undef X') ∨
 (∃f args X1,m.run P X=.ok (.enter f args) X1∧Calls P f args X1 fun e w'=>∃v,e=.returned v∧R v w')
theorem RunsTo.wp {P:Program} {o:Oper} {a:Act} {X:World} {R:Value→World→Prop} {K:Act→World→Prop} {Q:Exit→Act→World→Prop} (h:RunsTo P (execOp a.eval o) X R) (hK:∀v w',R v w'→K (a.put o.dst v) w'):o.wp P a X K Q:=by
 unfold Oper.wp
 rcases h with ⟨v,X',e,h⟩ | ⟨X',e,h⟩ | ⟨f,args,X1,e,h⟩
 ·rw [e];exact hK _ _ h
 ·rw [e];exact hK _ _ h
 ·rw [e,Oper.upon_enter]
  exact h.mono fun e w' ⟨v,he,hR⟩=>by subst he;exact hK v w' hR
def Nb (n:Nat) (sp:List ROp) (S:Nat→Bool) (val:Nat→Value) (X:World) (b:Nat):Prop:=b<X.heap.size∧∀i,i<n→S i=true→(opAt sp i).cl.isBox=true→val i≠.pointer (some ⟨b,0,none⟩)
def vals (sp:List ROp) (j:Nat) (val:Nat→Value):List Value:=(opAt sp j).D.map val
structure Full (n:Nat) (sp:List ROp) (BP:List Value→Prop) (B:Nat) (w0:World) (S:Nat→Bool) (val:Nat→Value) (X:World):Prop where
 bel:Below B w0 X
 low:B≤X.heap.size
 vcs:∀j,j<n→S j=true→(opAt sp j).cl=.call→(opAt sp j).vc (vals sp j val) (Nb n sp S val X) X
 bxs:∀i,i<n→S i=true→∀zs st,(opAt sp i).cl=.box zs st→∃b,val i=.pointer (some ⟨b,0,none⟩)∧B≤b∧Bk X b (if S st=true then (opAt sp st).cs (vals sp st val) else zs)∧BP (if S st=true then (opAt sp st).cs (vals sp st val) else zs)
 dis:∀i k,i<n→k<n→S i=true→S k=true→(opAt sp i).cl.isBox=true→(opAt sp k).cl.isBox=true→i≠k→val i≠val k
theorem clsOk_last {ops:Array Oper} {sp:List ROp} {j:Nat} {o:Oper} (h:clsOk ops sp j o=true) (hc:(opAt sp j).cl=.last):∀k,k<ops.size→k≠j→(opAt sp k).cl.isPure=false→k∈(opAt sp j).A:=by
 unfold clsOk at h
 rw [hc] at h
 intro k hk hne hp
 have:=List.all_eq_true.1 h k (List.mem_range.2 hk)
 simpa [hne,hp] using this
theorem clsOk_box {ops:Array Oper} {sp:List ROp} {j st:Nat} {zs:List Value} {o:Oper} (h:clsOk ops sp j o=true) (hc:(opAt sp j).cl=.box zs st):o.guard=none∧st<ops.size∧(opAt sp st).cl=.store j:=by
 unfold clsOk at h
 rw [hc] at h
 simp only [Bool.and_eq_true,Option.isNone_iff_eq_none,decide_eq_true_eq] at h
 refine ⟨h.1.1,h.1.2,?_⟩
 have h2:=h.2
 cases hs:(opAt sp st).cl <;> rw [hs] at h2 <;> simp at h2 ⊢
 exact h2
theorem clsOk_store {ops:Array Oper} {sp:List ROp} {j i:Nat} {o:Oper} (h:clsOk ops sp j o=true) (hc:(opAt sp j).cl=.store i):o.guard=none∧i<ops.size∧i∈(opAt sp j).A∧(∃zs,(opAt sp i).cl=.box zs j)∧∀k∈(opAt sp j).D,k≠j:=by
 unfold clsOk at h
 rw [hc] at h
 simp only [Bool.and_eq_true,Option.isNone_iff_eq_none,decide_eq_true_eq,List.contains_iff_mem] at h
 refine ⟨h.1.1.1.1,h.1.1.1.2,h.1.1.2,?_,fun k hk=>by simpa using List.all_eq_true.1 h.2 k hk⟩
 have h2:=h.1.2
 cases hs:(opAt sp i).cl <;> rw [hs] at h2 <;> simp at h2 ⊢
 exact h2
structure Chk (ops:Array Oper) (sp:List ROp) (sz j:Nat) (o:Oper):Prop where
 dep:∀d∈depsO o,d<j∧d∈(opAt sp j).A
 anc:∀i∈(opAt sp j).A,i<j∧(i∈depsO o∨∃d∈depsO o,i∈(opAt sp d).A)
 dd:∀i∈(opAt sp j).D,i=j∨i∈(opAt sp j).A
 sel:∀cs b,o.op≠.select cs b
 opr:∀t,Operand.tmp t∈o.op.operands→tmpOk ops sp sz j o t=true
 grd:∀g b,o.guard=some (g,b)→g∈depsO o∧∃t,dstO ops g=some t∧t<sz
 dst:∀d,o.dst=some d→∀i,i<ops.size→i≠j→dstO ops i≠some d
 cls:clsOk ops sp j o=true
theorem chk_of {ops:Array Oper} {sp:List ROp} {sz:Nat} (h:regChk ops sp sz=true) {j:Nat} {o:Oper} (ho:ops[j]? = some o):Chk ops sp sz j o:=by
 unfold regChk at h
 rw [Bool.and_eq_true] at h
 have hj:=(Array.getElem?_eq_some_iff.1 ho).1
 have h1:=List.all_eq_true.1 h.2 j (List.mem_range.2 hj)
 rw [ho] at h1
 dsimp only at h1
 unfold opChk at h1
 simp only [Bool.and_eq_true] at h1
 obtain ⟨⟨⟨⟨⟨⟨⟨a1,a2⟩,a3⟩,a4⟩,a5⟩,a6⟩,a7⟩,a8⟩:=h1
 refine ⟨fun d hd=>?_,fun i hi=>?_,fun i hi=>?_,fun cs b e=>?_,fun t ht=>?_,fun g b e=>?_,fun d e i hi hne=>?_,a8⟩
 ·have:=List.all_eq_true.1 a1 d hd
  simpa using this
 ·have:=List.all_eq_true.1 a2 i hi
  simpa using this
 ·have:=List.all_eq_true.1 a3 i hi
  simpa using this
 ·rw [e] at a4;cases a4
 ·exact List.all_eq_true.1 a5 (.tmp t) (by simpa using ht)
 ·rw [e] at a6
  simp only [Bool.and_eq_true,List.contains_iff_mem] at a6
  refine ⟨a6.1,?_⟩
  have h2:=a6.2
  cases ht:dstO ops g with
  | none=>rw [ht] at h2;cases h2
  | some t=>rw [ht] at h2;exact ⟨t,rfl,by simpa using h2⟩
 ·rw [e] at a7
  have:=List.all_eq_true.1 a7 i (List.mem_range.2 hi)
  simpa [hne] using this
theorem dstO_at {ops:Array Oper} {j:Nat} {o:Oper} (ho:ops[j]? = some o):dstO ops j=o.dst:=by
 unfold dstO;rw [ho];rfl
theorem dist_of {ops:Array Oper} {sp:List ROp} {sz:Nat} (h:regChk ops sp sz=true):Dist ops:=fun i j d hne hi hj=>by
 have hlt:∀{k d},dstO ops k=some d→∃o,ops[k]? = some o∧o.dst=some d:=fun {k d} h=>by
  unfold dstO at h
  cases hk:ops[k]? with
  | none=>rw [hk] at h;cases h
  | some o=>rw [hk] at h;exact ⟨o,rfl,h⟩
 obtain ⟨o,ho,hod⟩:=hlt hi
 obtain ⟨o',ho',_⟩:=hlt hj
 exact (chk_of h ho).dst d hod j (Array.getElem?_eq_some_iff.1 ho').1 (fun e=>hne e.symm) hj
def Down (ops:Array Oper) (S:Nat→Bool):Prop:=∀k o,ops[k]? = some o→S k=true→∀d∈depsO o,S d=true
theorem Down.anc {ops:Array Oper} {sp:List ROp} {sz:Nat} {S:Nat→Bool} (h:regChk ops sp sz=true) (hD:Down ops S):∀k,k<ops.size→S k=true→∀i∈(opAt sp k).A,S i=true:=by
 intro k
 induction k using Nat.strongRecOn with
 | ind k ih=>
  intro hk hs i hi
  have ho:=Array.getElem?_eq_getElem hk
  have hc:=chk_of h ho
  rcases (hc.anc i hi).2 with hd | ⟨d,hd,hid⟩
  ·exact hD k _ ho hs i hd
  ·have hl:=(hc.dep d hd).1
   exact ih d hl (by omega) (hD k _ ho hs d hd) i hid
theorem ready_anc {ops:Array Oper} {sp:List ROp} {sz:Nat} {S:Nat→Bool} (h:regChk ops sp sz=true) (hD:Down ops S) {j:Nat} {o:Oper} (ho:ops[j]? = some o) (hr:∀d∈depsO o,S d=true):∀i∈(opAt sp j).A,S i=true:=fun i hi=>by
 have hc:=chk_of h ho
 have hj:=(Array.getElem?_eq_some_iff.1 ho).1
 rcases (hc.anc i hi).2 with hd | ⟨d,hd,hid⟩
 ·exact hr i hd
 ·exact hD.anc h d (by have:=(hc.dep d hd).1;omega) (hr d hd) i hid
theorem down_upd {ops:Array Oper} {S:Nat→Bool} (hD:Down ops S) {j:Nat} {o:Oper} (ho:ops[j]? = some o) (hr:∀d∈depsO o,S d=true):Down ops (updF S j):=fun k o' ho' hs d hd=>by
 have hS:S d=true:=by
  by_cases e:k=j
  ·subst e;rw [ho] at ho';injection ho' with ho';subst ho';exact hr d hd
  ·rw [updF_other S e] at hs;exact hD k o' ho' hs d hd
 unfold updF
 split
 ·rfl
 ·exact hS
theorem eval_eq {ops:Array Oper} {sp:List ROp} {a0:Act} {S:Nat→Bool} {val:Nat→Value} (h:regChk ops sp a0.tmps.size=true) (hD:Down ops S) {j:Nat} {o:Oper} (ho:ops[j]? = some o) (hs:S j=false) (hr:∀d∈depsO o,S d=true):∀x∈o.op.operands,(fillN ops S val a0 ops.size).eval x=eOf ops val a0 o x:=fun x hx=>by
 cases x with
 | tmp t=>
  have hc:=(chk_of h ho).opr t hx
  unfold tmpOk at hc
  show _=(match (depsO o).find? (fun i=>dstO ops i==some t) with | some i=>val i | none=>a0.eval (.tmp t))
  cases hf:(depsO o).find? (fun i=>dstO ops i==some t) with
  | some i=>
   rw [hf] at hc
   simp only [Bool.and_eq_true,decide_eq_true_eq] at hc
   have hm:=List.mem_of_find?_eq_some hf
   have he:=List.find?_some hf
   exact fill_eval_dep (dist_of h) (hr i hm) (by simpa using he) hc.2 _ hc.1
  | none=>
   rw [hf] at hc
   refine fill_eval_none _ fun k hk hsk he=>?_
   have:=List.all_eq_true.1 hc k (List.mem_range.2 hk)
   simp only [Bool.or_eq_true,bne_iff_ne,ne_eq,List.contains_iff_mem,beq_iff_eq] at this
   rcases this with (h1 | h1) | h1
   ·exact h1 he
   ·have:=hD.anc h k hk hsk j h1
    rw [hs] at this;cases this
   ·subst h1;rw [hs] at hsk;cases hsk
 | const v=>rfl
 | global g=>rfl
 | func f=>rfl
theorem exec_eq {ops:Array Oper} {sp:List ROp} {a0:Act} {S:Nat→Bool} {val:Nat→Value} (h:regChk ops sp a0.tmps.size=true) (hD:Down ops S) {j:Nat} {o:Oper} (ho:ops[j]? = some o) (hs:S j=false) (hr:∀d∈depsO o,S d=true):execOp (fillN ops S val a0 ops.size).eval o=execOp (eOf ops val a0 o) o :=
 execOp_congr o (chk_of h ho).sel (eval_eq h hD ho hs hr)
theorem want_eq {ops:Array Oper} {sp:List ROp} {a0:Act} {S:Nat→Bool} {val:Nat→Value} (h:regChk ops sp a0.tmps.size=true) {j:Nat} {o:Oper} (ho:ops[j]? = some o) (hr:∀d∈depsO o,S d=true):Region.wanted o (yielded ops (fillN ops S val a0 ops.size).tmps)=wantB val o:=by
 unfold Region.wanted wantB
 cases hg:o.guard with
 | none=>rfl
 | some gb=>
  obtain ⟨g,b⟩:=gb
  obtain ⟨hd,t,ht,htz⟩:=(chk_of h ho).grd g b hg
  have hgl:g<ops.size:=by
   have:=((chk_of h ho).dep g hd).1
   have:=(Array.getElem?_eq_some_iff.1 ho).1
   omega
  have he:=fill_eval_dep (a0:=a0) (val:=val) (dist_of h) (hr g hd) ht htz _ hgl
  have hsz:t<(fillN ops S val a0 ops.size).tmps.size:=by rw [fill_size];exact htz
  have hy:yielded ops (fillN ops S val a0 ops.size).tmps g=match val g with | .bool c=>some c | _=>none:=by
   unfold yielded
   unfold dstO at ht
   rw [ht]
   simp only [Option.bind_some]
   simp only [Act.eval,Array.getD,hsz,dif_pos] at he
   rw [Array.getElem?_eq_getElem hsz]
   simp only [Array.getInternal_eq_getElem] at he
   rw [he]
   cases val g <;> rfl
  dsimp only
  rw [hy]
  cases val g <;> simp
theorem vals_keep {ops:Array Oper} {sp:List ROp} {sz:Nat} {S:Nat→Bool} {val:Nat→Value} (h:regChk ops sp sz=true) (hD:Down ops S) {j:Nat} (v:Value) (hs:S j=false) {k:Nat} (hk:k<ops.size) (hsk:S k=true):vals sp k (updV val j v)=vals sp k val:=by
 refine map_updV fun i hi e=>?_
 subst e
 rcases (chk_of h (Array.getElem?_eq_getElem hk)).dd i hi with rfl | ha
 ·rw [hs] at hsk;cases hsk
 ·have:=hD.anc h k hk hsk i ha
  rw [hs] at this;cases this
theorem Nb.of {n:Nat} {sp:List ROp} {S:Nat→Bool} {val:Nat→Value} {X X':World} {j:Nat} (v:Value) (hs:S j=false) (hb:(opAt sp j).cl.isBox=false) (hX:X.heap.size≤X'.heap.size) {b:Nat} (h:Nb n sp S val X b):Nb n sp (updF S j) (updV val j v) X' b:=⟨Nat.lt_of_lt_of_le h.1 hX,fun i hi hsi hbi=>by
 have hne:i≠j:=fun e=>by subst e;rw [hb] at hbi;cases hbi
 rw [updV_other _ _ hne]
 rw [updF_other _ hne] at hsi
 exact h.2 i hi hsi hbi⟩
theorem isBox_at {c:Cls} (h:c.isBox=true):∃zs st,c=.box zs st:=by cases c <;> first | exact ⟨_,_,rfl⟩ | cases h
theorem Full.grow {ops:Array Oper} {sp:List ROp} {BP:List Value→Prop} {sz B:Nat} {w0:World} {S:Nat→Bool} {val:Nat→Value} {X X':World} {j:Nat} (h:regChk ops sp sz=true) (hD:Down ops S) (hf:Full ops.size sp BP B w0 S val X) (v:Value) (hs:S j=false) (hb:(opAt sp j).cl.isBox=false) (hst:∀i,(opAt sp j).cl≠.store i)
  (hX:Below X.heap.size X X') (hv:(opAt sp j).cl=.call→(opAt sp j).vc (vals sp j (updV val j v)) (Nb ops.size sp (updF S j) (updV val j v) X') X'):Full ops.size sp BP B w0 (updF S j) (updV val j v) X' where
 bel:=hf.bel.trans (hX.mono hf.low)
 low:=Nat.le_trans hf.low hX.size
 vcs:=fun k hk hsk hck=>by
  by_cases e:k=j
  ·subst e;exact hv hck
  ·rw [updF_other S e] at hsk
   rw [vals_keep h hD v hs hk hsk]
   exact (opAt sp k).stab _ _ _ _ _ (hf.vcs k hk hsk hck) (fun b hb=>hX.block b hb.1) (fun b hb'=>hb'.of v hs hb hX.size) hX.size
 bxs:=fun i hi hsi zs st hc=>by
  have e:i≠j:=fun e=>by subst e;rw [hc] at hb;cases hb
  rw [updF_other S e] at hsi
  obtain ⟨b,h1,h2,h3,h3b⟩:=hf.bxs i hi hsi zs st hc
  have hst':st≠j:=fun e'=>by
   subst e'
   exact hst i (clsOk_box (chk_of h (Array.getElem?_eq_getElem hi)).cls hc).2.2
  refine ⟨b,by rw [updV_other _ _ e];exact h1,h2,?_⟩
  rw [updF_other S hst']
  have h4:=h3.call hX
  split
  ·rename_i hss
   rw [if_pos hss] at h4 h3b
   rw [vals_keep h hD v hs (clsOk_box (chk_of h (Array.getElem?_eq_getElem hi)).cls hc).2.1 hss]
   exact ⟨h4,h3b⟩
  ·rename_i hss
   rw [if_neg hss] at h4 h3b
   exact ⟨h4,h3b⟩
 dis:=fun i k hi hk hsi hsk hbi hbk hne=>by
  have e1:i≠j:=fun e=>by subst e;rw [hb] at hbi;cases hbi
  have e2:k≠j:=fun e=>by subst e;rw [hb] at hbk;cases hbk
  rw [updF_other S e1] at hsi
  rw [updF_other S e2] at hsk
  rw [updV_other _ _ e1,updV_other _ _ e2]
  exact hf.dis i k hi hk hsi hsk hbi hbk hne
theorem Full.box {ops:Array Oper} {sp:List ROp} {BP:List Value→Prop} {sz B:Nat} {w0:World} {S:Nat→Bool} {val:Nat→Value} {X:World} {j st:Nat} {zs:List Value} (h:regChk ops sp sz=true) (hD:Down ops S) (hj:j<ops.size) (hf:Full ops.size sp BP B w0 S val X) (hs:S j=false) (hc:(opAt sp j).cl=.box zs st) (hss:S st=false) (hbp:BP zs) (e:TypeId) :
  Full ops.size sp BP B w0 (updF S j) (updV val j (.pointer (some ⟨X.heap.size,0,none⟩))) (X.alloc (.cells zs.toArray e)) where
 bel:=hf.bel.trans (((Below.refl _ X).alloc (Nat.le_refl _) _).mono hf.low)
 low:=Nat.le_trans hf.low (by simp)
 vcs:=fun k hk hsk hck=>by
  by_cases e':k=j
  ·subst e'
   rw [hc] at hck;cases hck
  ·rw [updF_other S e'] at hsk
   rw [vals_keep h hD _ hs hk hsk]
   refine (opAt sp k).stab _ _ _ _ _ (hf.vcs k hk hsk hck) (fun b hb=>Below.heap_alloc _ _ _ hb.1) (fun b hb=>⟨by have:=hb.1;rw [World.size_alloc];omega,fun i hi hsi hbi=>?_⟩) (by simp)
   by_cases e2:i=j
   ·subst e2
    rw [updV_same]
    intro he
    injection he with he;injection he with he;injection he with he
    have:=hb.1
    omega
   ·rw [updV_other _ _ e2]
    rw [updF_other S e2] at hsi
    exact hb.2 i hi hsi hbi
 bxs:=fun i hi hsi zs' st' hc'=>by
  by_cases e':i=j
  ·subst e'
   rw [hc] at hc'
   injection hc' with h1 h2
   subst h1;subst h2
   refine ⟨X.heap.size,updV_same _ _ _,hf.low,?_⟩
   have hne:st≠i:=fun e'=>by
    subst e'
    have:=(clsOk_box (chk_of h (Array.getElem?_eq_getElem hi)).cls hc).2.2
    rw [hc] at this;cases this
   rw [updF_other S hne,hss,if_neg (by simp)]
   exact ⟨Bk.new X zs e,hbp⟩
  ·rw [updF_other S e'] at hsi
   obtain ⟨b,h1,h2,h3,h3b⟩:=hf.bxs i hi hsi zs' st' hc'
   have hst':st'≠j:=fun e'=>by
    subst e'
    have:=(clsOk_box (chk_of h (Array.getElem?_eq_getElem hi)).cls hc').2.2
    rw [hc] at this;cases this
   refine ⟨b,by rw [updV_other _ _ e'];exact h1,h2,?_⟩
   rw [updF_other S hst']
   have h4:=h3.al (.cells zs.toArray e)
   split
   ·rename_i hss
    rw [if_pos hss] at h4 h3b
    rw [vals_keep h hD _ hs (clsOk_box (chk_of h (Array.getElem?_eq_getElem hi)).cls hc').2.1 hss]
    exact ⟨h4,h3b⟩
   ·rename_i hss
    rw [if_neg hss] at h4 h3b
    exact ⟨h4,h3b⟩
 dis:=fun i k hi hk hsi hsk hbi hbk hne=>by
  have old:∀i,i<ops.size→S i=true→(opAt sp i).cl.isBox=true→val i≠.pointer (some ⟨X.heap.size,0,none⟩):=fun i hi hsi hbi he=>by
   obtain ⟨zs',st',hc'⟩:=isBox_at hbi
   obtain ⟨b,h1,h2,h3,_⟩:=hf.bxs i hi hsi zs' st' hc'
   rw [he] at h1
   injection h1 with h1;injection h1 with h1;injection h1 with h1
   have:=h3.lt
   omega
  by_cases e1:i=j
  ·subst e1
   have e2:k≠i:=fun e=>hne e.symm
   rw [updF_other S e2] at hsk
   rw [updV_same,updV_other _ _ e2]
   exact (old k hk hsk hbk).symm
  ·rw [updF_other S e1] at hsi
   rw [updV_other _ _ e1]
   by_cases e2:k=j
   ·subst e2
    rw [updV_same]
    exact old i hi hsi hbi
   ·rw [updF_other S e2] at hsk
    rw [updV_other _ _ e2]
    exact hf.dis i k hi hk hsi hsk hbi hbk hne
theorem Full.put {ops:Array Oper} {sp:List ROp} {BP:List Value→Prop} {sz B:Nat} {w0:World} {S:Nat→Bool} {val:Nat→Value} {X X':World} {j i b:Nat} {zs:List Value} (h:regChk ops sp sz=true) (hD:Down ops S) (hj:j<ops.size) (hf:Full ops.size sp BP B w0 S val X) (hs:S j=false) (hcj:(opAt sp j).cl=.store i) (hci:(opAt sp i).cl=.box zs j) (hi:i<ops.size) (hsi:S i=true) (hvi:val i=.pointer (some ⟨b,0,none⟩)) (hBb:B≤b)
  (hX:Below b X X') (hsz:X'.heap.size=X.heap.size) (hk:∀k,k≠b→X'.heap[k]? = X.heap[k]?) (hbk:Bk X' b ((opAt sp j).cs (vals sp j val))) (hbp:BP ((opAt sp j).cs (vals sp j val))) (hDj:∀k∈(opAt sp j).D,k≠j) :
  Full ops.size sp BP B w0 (updF S j) (updV val j undef) X' where
 bel:=hf.bel.trans (hX.mono hBb)
 low:=by rw [hsz];exact hf.low
 vcs:=fun k hkl hsk hck=>by
  by_cases e':k=j
  ·subst e'
   rw [hcj] at hck;cases hck
  ·rw [updF_other S e'] at hsk
   rw [vals_keep h hD _ hs hkl hsk]
   have nb:∀c,Nb ops.size sp S val X c→c≠b:=fun c hc e=>by
    subst e
    exact hc.2 i hi hsi (by rw [hci];rfl) hvi
   exact (opAt sp k).stab _ _ _ _ _ (hf.vcs k hkl hsk hck) (fun c hc=>hk c (nb c hc)) (fun c hc=>hc.of undef hs (by rw [hcj];rfl) (by omega)) (by omega)
 bxs:=fun k hkl hsk zs' st' hc'=>by
  have e':k≠j:=fun e=>by subst e;rw [hcj] at hc';cases hc'
  rw [updF_other S e'] at hsk
  obtain ⟨b',h1,h2,h3,h3b⟩:=hf.bxs k hkl hsk zs' st' hc'
  refine ⟨b',by rw [updV_other _ _ e'];exact h1,h2,?_⟩
  by_cases e2:k=i
  ·subst e2
   rw [hci] at hc'
   injection hc' with x1 x2
   subst x1;subst x2
   rw [updF_same,if_pos rfl]
   rw [hvi] at h1
   injection h1 with h1;injection h1 with h1;injection h1 with h1
   subst h1
   have hv:vals sp j (updV val j undef)=vals sp j val:=map_updV hDj
   rw [hv]
   exact ⟨hbk,hbp⟩
  ·have hne:b'≠b:=fun e=>by
    subst e
    exact hf.dis k i hkl hi hsk hsi (by rw [hc'];rfl) (by rw [hci];rfl) e2 (by rw [h1,hvi])
   have h4:=h3.keeps (hk b' hne)
   have hst':st'≠j:=fun e=>by
    subst e
    have:=(clsOk_box (chk_of h (Array.getElem?_eq_getElem hkl)).cls hc').2.2
    rw [hcj] at this
    injection this with this
    exact e2 this.symm
   rw [updF_other S hst']
   split
   ·rename_i hss
    rw [if_pos hss] at h4 h3b
    rw [vals_keep h hD _ hs (clsOk_box (chk_of h (Array.getElem?_eq_getElem hkl)).cls hc').2.1 hss]
    exact ⟨h4,h3b⟩
   ·rename_i hss
    rw [if_neg hss] at h4 h3b
    exact ⟨h4,h3b⟩
 dis:=fun k l hkl hll hsk hsl hbk' hbl hne=>by
  have e1:k≠j:=fun e=>by subst e;rw [hcj] at hbk';cases hbk'
  have e2:l≠j:=fun e=>by subst e;rw [hcj] at hbl;cases hbl
  rw [updF_other S e1] at hsk
  rw [updF_other S e2] at hsl
  rw [updV_other _ _ e1,updV_other _ _ e2]
  exact hf.dis k l hkl hll hsk hsl hbk' hbl hne
structure Serves (P:Program) (ops:Array Oper) (sp:List ROp) (BP:List Value→Prop) (B:Nat) (w0:World) (a0:Act) (T:List Value→World→Prop):Prop where
 pure:∀j o val,ops[j]? = some o→(opAt sp j).cl=.pure→(∀i∈(opAt sp j).A,(opAt sp i).vp (vals sp i val)) →
  (wantB val o=true→∃v,(∀X,(execOp (eOf ops val a0 o) o).run P X=.ok (.value v) X)∧(opAt sp j).vp (vals sp j (updV val j v)))∧(wantB val o=false→(opAt sp j).vp (vals sp j (updV val j undef)))
 call:∀j o val X (N:Nat→Prop),ops[j]? = some o→(opAt sp j).cl=.call→Below B w0 X→(∀b,b<B→N b)→(∀b,N b→b<X.heap.size)→(∀b,b<X.heap.size→¬N b→∃vs,Bk X b vs∧BP vs)→(∀i∈(opAt sp j).A,(opAt sp i).vp (vals sp i val))→(∀i∈(opAt sp j).A,(opAt sp i).cl=.call→(opAt sp i).vc (vals sp i val) N X) →
  (wantB val o=true→RunsTo P (execOp (eOf ops val a0 o) o) X fun v X'=>Below X.heap.size X X'∧(opAt sp j).vp (vals sp j (updV val j v))∧∀N':Nat→Prop,(∀b,N b→N' b)→(∀b,X.heap.size≤b→b<X'.heap.size→N' b)→(opAt sp j).vc (vals sp j (updV val j v)) N' X') ∧
  (wantB val o=false→(opAt sp j).vp (vals sp j (updV val j undef))∧∀N':Nat→Prop,(opAt sp j).vc (vals sp j (updV val j undef)) N' X)
 box:∀j o zs st val,ops[j]? = some o→(opAt sp j).cl=.box zs st→(opAt sp j).vp (vals sp j val)∧BP zs∧∃e,∀X,(execOp (eOf ops val a0 o) o).run P X=.ok (.value (.pointer (some ⟨X.heap.size,0,none⟩))) (X.alloc (.cells zs.toArray e))
 store:∀j o i zs val X b,ops[j]? = some o→(opAt sp j).cl=.store i→(opAt sp i).cl=.box zs j→(∀i∈(opAt sp j).A,(opAt sp i).vp (vals sp i val))→val i=.pointer (some ⟨b,0,none⟩)→Bk X b zs →
  (∀val,(opAt sp j).vp (vals sp j val))∧∃X',(execOp (eOf ops val a0 o) o).run P X=.ok .skip X'∧Below b X X'∧X'.heap.size=X.heap.size∧(∀k,k≠b→X'.heap[k]? = X.heap[k]?)∧Bk X' b ((opAt sp j).cs (vals sp j val))∧BP ((opAt sp j).cs (vals sp j val))
 last:∀j o val X (N:Nat→Prop),ops[j]? = some o→(opAt sp j).cl=.last→Below B w0 X→(∀b,b<B→N b)→(∀b,N b→b<X.heap.size)→(∀b,b<X.heap.size→¬N b→∃vs,Bk X b vs∧BP vs)→(∀i∈(opAt sp j).A,(opAt sp i).vp (vals sp i val))→(∀i∈(opAt sp j).A,(opAt sp i).cl=.call→(opAt sp i).vc (vals sp i val) N X) →
  (∀i∈(opAt sp j).A,∀zs st,(opAt sp i).cl=.box zs st→∃b,val i=.pointer (some ⟨b,0,none⟩)∧B≤b∧¬N b∧Bk X b (if (opAt sp j).A.contains st then (opAt sp st).cs (vals sp st val) else zs)) →
  (wantB val o=true→RunsTo P (execOp (eOf ops val a0 o) o) X fun v X'=>(opAt sp j).vp (vals sp j (updV val j v))∧T (vals sp j (updV val j v)) X')∧(wantB val o=false→(opAt sp j).vp (vals sp j (updV val j undef))∧T (vals sp j (updV val j undef)) X)
theorem Nb.old {n:Nat} {sp:List ROp} {BP:List Value→Prop} {B:Nat} {w0:World} {S:Nat→Bool} {val:Nat→Value} {X:World} (hf:Full n sp BP B w0 S val X):∀b,b<B→Nb n sp S val X b:=fun b hb=>⟨Nat.lt_of_lt_of_le hb hf.low,fun i hi hsi hbi he=>by
 obtain ⟨zs,st,hc⟩:=isBox_at hbi
 obtain ⟨b',h1,h2,_⟩:=hf.bxs i hi hsi zs st hc
 rw [he] at h1
 injection h1 with h1;injection h1 with h1;injection h1 with h1
 omega⟩
theorem Nb.not {n:Nat} {sp:List ROp} {BP:List Value→Prop} {B:Nat} {w0:World} {S:Nat→Bool} {val:Nat→Value} {X:World} (hf:Full n sp BP B w0 S val X):∀b,b<X.heap.size→¬Nb n sp S val X b→∃vs,Bk X b vs∧BP vs:=fun b hb hn=>by
 have:∃i,i<n∧S i=true∧(opAt sp i).cl.isBox=true∧val i=.pointer (some ⟨b,0,none⟩):=by
  refine Classical.byContradiction fun hx=>hn ⟨hb,fun i hi hsi hbi he=>hx ⟨i,hi,hsi,hbi,he⟩⟩
 obtain ⟨i,hi,hsi,hbi,he⟩:=this
 obtain ⟨zs,st,hc⟩:=isBox_at hbi
 obtain ⟨b',h1,_,h3,h4⟩:=hf.bxs i hi hsi zs st hc
 rw [he] at h1
 injection h1 with h1;injection h1 with h1;injection h1 with h1
 subst h1
 exact ⟨_,h3,h4⟩
structure RInv (ops:Array Oper) (sp:List ROp) (BP:List Value→Prop) (B:Nat) (w0:World) (a0:Act) (T:List Value→World→Prop) (S:Nat→Bool) (a:Act) (X:World) (val:Nat→Value):Prop where
 act:a=fillN ops S val a0 ops.size
 down:Down ops S
 vps:∀j,j<ops.size→S j=true→(opAt sp j).vp (vals sp j val)
 full:(∀j,j<ops.size→(opAt sp j).cl=.last→S j=false)→Full ops.size sp BP B w0 S val X
 done:∀j,j<ops.size→(opAt sp j).cl=.last→S j=true→T (vals sp j val) X
theorem Full.all {ops:Array Oper} {sp:List ROp} {BP:List Value→Prop} {sz B:Nat} {w0:World} {S:Nat→Bool} {val:Nat→Value} {X:World} (h:regChk ops sp sz=true) (hf:Full ops.size sp BP B w0 S val X) (hS:∀j,j<ops.size→S j=true):Full ops.size sp BP B w0 (fun _=>true) val X where
 bel:=hf.bel
 low:=hf.low
 vcs:=fun j hj _ hc=>(opAt sp j).stab _ _ _ _ _ (hf.vcs j hj (hS j hj) hc) (fun _ _=>rfl) (fun b hb=>⟨hb.1,fun i hi _ hbi=>hb.2 i hi (hS i hi) hbi⟩) (Nat.le_refl _)
 bxs:=fun i hi _ zs st hc=>by
  obtain ⟨b,h1,h2,h3,h3b⟩:=hf.bxs i hi (hS i hi) zs st hc
  rw [if_pos (hS st (clsOk_box (chk_of h (Array.getElem?_eq_getElem hi)).cls hc).2.1)] at h3 h3b
  exact ⟨b,h1,h2,by rw [if_pos rfl];exact ⟨h3,h3b⟩⟩
 dis:=fun i k hi hk _ _ hbi hbk hne=>hf.dis i k hi hk (hS i hi) (hS k hk) hbi hbk hne
theorem wp_region_own {P : Program} {id : Nat} {ops : Array Oper} {Q : Exit → Act → World → Prop} (sp : List ROp) (BP : List Value → Prop) (T : List Value → World → Prop) {w0 : World} {a0 : Act} {B : Nat} (hm : P.follows .mixedOrders = true) (hB : B ≤ w0.heap.size) (h : regChk ops sp a0.tmps.size = true) (hs : Serves P ops sp BP B w0 a0 T)
  (hend : ∀ val X, (∀ j, j < ops.size → (opAt sp j).vp (vals sp j val)) → ((∀ j, j < ops.size → (opAt sp j).cl ≠ .last) → Full ops.size sp BP B w0 (fun _ => true) val X) → (∀ j, j < ops.size → (opAt sp j).cl = .last → T (vals sp j val) X) → Q .normal (fillN ops (fun _ => true) val a0 ops.size) X) :
  (Code.region id ops true).wp P Q a0 w0 := by
 refine wp_region_any hm ?_
 have hord : ordOk .any ops = true := by
  unfold regChk at h
  rw [Bool.and_eq_true] at h
  exact h.1
 have key := wpAny_inv (P := P) (Q := Q) (fun S a X => ∃ val, RInv ops sp BP B w0 a0 T S a X val) hord ?step ?fin ops.size (fun _ => false) a0 ({ w0 with drawn := w0.drawn + 1 }) ?cnt ?start
 ·rw [doneA_zero] at key
  exact key
 case cnt =>
  have : ∀ n (S : Nat → Bool), cntF n S ≤ n := by
   intro n S
   induction n with
   | zero => exact Nat.le_refl _
   | succ n ih => unfold cntF; split <;> omega
  exact this _ _
 case start =>
  refine ⟨fun _ => undef, ?_, ?_, ?_, ?_, ?_⟩
  ·have : ∀ m, fillN ops (fun _ => false) (fun _ => undef) a0 m = a0 := by
    intro m
    induction m with
    | zero => rfl
    | succ m ih => unfold fillN; rw [if_neg (by simp)]; exact ih
   exact (this _).symm
  ·intro k o _ hs; cases hs
  ·intro j _ hs; cases hs
  ·intro _
   exact ⟨(Below.refl _ w0).drew, hB, fun j _ hs => (by cases hs), fun i _ hs => (by cases hs), fun i k _ _ hs => (by cases hs)⟩
  ·intro j _ _ hs; cases hs
 case fin =>
  rintro S a X hall ⟨val, hi⟩
  have ha : a = fillN ops (fun _ => true) val a0 ops.size := hi.act.trans (fill_congr _ (fun i hi => hall i hi) (fun _ _ _ => rfl))
  rw [ha]
  exact hend val X (fun j hj => hi.vps j hj (hall j hj)) (fun hn => (hi.full fun j hj hc => absurd hc (hn j hj)).all h hall) (fun j hj hc => hi.done j hj hc (hall j hj))
 case step =>
  rintro S j o a X ho hsj hp ⟨val, hi⟩
  have hj := (Array.getElem?_eq_some_iff.1 ho).1
  have hck := chk_of h ho
  have hr : ∀ d ∈ depsO o, S d = true := fun d hd => by
   unfold depsO at hd
   obtain ⟨e, he, rfl⟩ := List.mem_map.1 hd
   rw [List.mem_filter] at he
   exact hp e (by simpa using he.1) he.2
  have hA := ready_anc h hi.down ho hr
  have hvA : ∀ i ∈ (opAt sp j).A, (opAt sp i).vp (vals sp i val) := fun i hia => hi.vps i (by have := (hck.anc i hia).1; omega) (hA i hia)
  have hlt : ∀ i ∈ (opAt sp j).A, i < ops.size := fun i hia => by have := (hck.anc i hia).1; omega
  have hdn := down_upd hi.down ho hr
  have hdst : dstO ops j = o.dst := dstO_at ho
  have hact : ∀ v, a.put o.dst v = fillN ops (updF S j) (updV val j v) a0 ops.size := fun v => by
   rw [fill_upd (dist_of h) v hsj _ hj, ← hi.act, hdst]
  have hvps : ∀ v, (opAt sp j).vp (vals sp j (updV val j v)) → ∀ k, k < ops.size → updF S j k = true → (opAt sp k).vp (vals sp k (updV val j v)) := fun v hv k hk hsk => by
   by_cases e : k = j
   ·subst e; exact hv
   ·rw [updF_other S e] at hsk
    rw [vals_keep h hi.down v hsj hk hsk]
    exact hi.vps k hk hsk
  have hdone : ∀ v Y, (opAt sp j).cl ≠ .last → (∀ k, k < ops.size → (opAt sp k).cl = .last → S k = true → T (vals sp k val) Y) → ∀ k, k < ops.size → (opAt sp k).cl = .last → updF S j k = true → T (vals sp k (updV val j v)) Y := fun v Y hc hd k hk hck2 hsk => by
   have e : k ≠ j := fun e => hc (e ▸ hck2)
   rw [updF_other S e] at hsk
   rw [vals_keep h hi.down v hsj hk hsk]
   exact hd k hk hck2 hsk
  -- nothing that acts comes behind the last one
  have nolast : (opAt sp j).cl.isPure = false → ∀ k, k < ops.size → (opAt sp k).cl = .last → S k = false := fun hpj k hk hck2 => by
   by_cases e : k = j
   ·subst e; exact hsj
   ·cases hsk : S k with
    | false => rfl
    | true =>
     have := hi.down.anc h k hk hsk j (clsOk_last (chk_of h (Array.getElem?_eq_getElem hk)).cls hck2 j hj (fun e' => e e'.symm) hpj)
     rw [hsj] at this; cases this
  have updLast : (∀ k, k < ops.size → (opAt sp k).cl = .last → updF S j k = false) → ∀ k, k < ops.size → (opAt sp k).cl = .last → S k = false := fun hn k hk hc => by
   have := hn k hk hc
   unfold updF at this
   split at this
   ·cases this
   ·exact this
  have hw : Region.wanted o (yielded ops a.tmps) = wantB val o := by rw [hi.act]; exact want_eq h ho hr
  have hex : execOp a.eval o = execOp (eOf ops val a0 o) o := by rw [hi.act]; exact exec_eq h hi.down ho hsj hr
  rw [hw]
  cases hcl : (opAt sp j).cl with
  | pure =>
   have hsv := hs.pure j o val ho hcl hvA
   have next : ∀ v, (opAt sp j).vp (vals sp j (updV val j v)) → RInv ops sp BP B w0 a0 T (updF S j) (a.put o.dst v) X (updV val j v) := fun v hv =>
    ⟨hact v, hdn, hvps v hv, fun hn => (hi.full (updLast hn)).grow h hi.down v hsj (by rw [hcl]; rfl) (fun i => by rw [hcl]; intro e; cases e) (Below.refl _ _) (fun e => by rw [hcl] at e; cases e), hdone v X (by rw [hcl]; intro e; cases e) hi.done⟩
   split
   ·rename_i hwt
    obtain ⟨v, hv1, hv2⟩ := hsv.1 hwt
    refine RunsTo.wp (R := fun u X' => u = v ∧ X' = X) (.inl ⟨v, X, by rw [hex]; exact hv1 X, rfl, rfl⟩) ?_
    rintro _ _ ⟨rfl, rfl⟩
    exact ⟨_, next _ hv2⟩
   ·rename_i hwf
    exact ⟨_, next _ (hsv.2 (by simpa using hwf))⟩
  | call =>
   have hf := hi.full (nolast (by rw [hcl]; rfl))
   have hsv := hs.call j o val X (Nb ops.size sp S val X) ho hcl hf.bel (Nb.old hf) (fun b hb => hb.1) (Nb.not hf) hvA (fun i hia hci => hf.vcs i (hlt i hia) (hA i hia) hci)
   have next : ∀ v Y, Below X.heap.size X Y → (opAt sp j).vp (vals sp j (updV val j v)) → (∀ N' : Nat → Prop, (∀ b, Nb ops.size sp S val X b → N' b) → (∀ b, X.heap.size ≤ b → b < Y.heap.size → N' b) → (opAt sp j).vc (vals sp j (updV val j v)) N' Y) → RInv ops sp BP B w0 a0 T (updF S j) (a.put o.dst v) Y (updV val j v) := fun v Y hY hv hvc =>
    ⟨hact v, hdn, hvps v hv, fun _ => hf.grow h hi.down v hsj (by rw [hcl]; rfl) (fun i => by rw [hcl]; intro e; cases e) hY (fun _ => hvc _ (fun b hb => hb.of v hsj (by rw [hcl]; rfl) hY.size) (fun b hb1 hb2 => ⟨hb2, fun i hil hsi hbi he => by
      have e : i ≠ j := fun e => by subst e; rw [hcl] at hbi; cases hbi
      rw [updF_other S e] at hsi
      rw [updV_other _ _ e] at he
      obtain ⟨zs, st, hc⟩ := isBox_at hbi
      obtain ⟨b', h1, _, h3, _⟩ := hf.bxs i hil hsi zs st hc
      rw [he] at h1
      injection h1 with h1; injection h1 with h1; injection h1 with h1
      have := h3.lt
      omega⟩)), hdone v Y (by rw [hcl]; intro e; cases e) (fun k hk hck2 hsk => by rw [nolast (by rw [hcl]; rfl) k hk hck2] at hsk; cases hsk)⟩
   split
   ·rename_i hwt
    refine RunsTo.wp (by rw [hex]; exact hsv.1 hwt) ?_
    rintro v Y ⟨hY, hv, hvc⟩
    exact ⟨_, next v Y hY hv hvc⟩
   ·rename_i hwf
    obtain ⟨hv, hvc⟩ := hsv.2 (by simpa using hwf)
    exact ⟨_, next undef X (Below.refl _ _) hv (fun N' _ _ => hvc N')⟩
  | last =>
   have hf := hi.full (nolast (by rw [hcl]; rfl))
   have hsv := hs.last j o val X (Nb ops.size sp S val X) ho hcl hf.bel (Nb.old hf) (fun b hb => hb.1) (Nb.not hf) hvA (fun i hia hci => hf.vcs i (hlt i hia) (hA i hia) hci) (fun i hia zs st hci => by
    obtain ⟨b, h1, h2, h3, _⟩ := hf.bxs i (hlt i hia) (hA i hia) zs st hci
    refine ⟨b, h1, h2, fun hn => hn.2 i (hlt i hia) (hA i hia) (by rw [hci]; rfl) h1, ?_⟩
    have hst := (clsOk_box (chk_of h (Array.getElem?_eq_getElem (hlt i hia))).cls hci)
    have hmem : st ∈ (opAt sp j).A := clsOk_last hck.cls hcl st hst.2.1 (fun e => by subst e; rw [hcl] at hst; cases hst.2.2) (by rw [hst.2.2]; rfl)
    rw [if_pos (by simpa using hmem)]
    rw [if_pos (hA st hmem)] at h3
    exact h3)
   have next : ∀ v Y, (opAt sp j).vp (vals sp j (updV val j v)) → T (vals sp j (updV val j v)) Y → RInv ops sp BP B w0 a0 T (updF S j) (a.put o.dst v) Y (updV val j v) := fun v Y hv hT =>
    ⟨hact v, hdn, hvps v hv, fun hn => absurd (hn j hj hcl) (by rw [updF_same]; simp), fun k hk hck2 hsk => by
     by_cases e : k = j
     ·subst e; exact hT
     ·rw [updF_other S e, nolast (by rw [hcl]; rfl) k hk hck2] at hsk; cases hsk⟩
   split
   ·rename_i hwt
    refine RunsTo.wp (by rw [hex]; exact hsv.1 hwt) ?_
    rintro v Y ⟨hv, hT⟩
    exact ⟨_, next v Y hv hT⟩
   ·rename_i hwf
    obtain ⟨hv, hT⟩ := hsv.2 (by simpa using hwf)
    exact ⟨_, next undef X hv hT⟩
  | box zs st =>
   have hf := hi.full (nolast (by rw [hcl]; rfl))
   obtain ⟨hg, hstl, hstc⟩ := clsOk_box hck.cls hcl
   have hss : S st = false := by
    cases hss : S st with
    | false => rfl
    | true =>
     have := hi.down.anc h st hstl hss j (clsOk_store (chk_of h (Array.getElem?_eq_getElem hstl)).cls hstc).2.2.1
     rw [hsj] at this; cases this
   rw [if_pos (show wantB val o = true by unfold wantB; rw [hg])]
   obtain ⟨hbp, e, he⟩ := (hs.box j o zs st val ho hcl).2
   refine RunsTo.wp (R := fun v Y => v = .pointer (some ⟨X.heap.size, 0, none⟩) ∧ Y = X.alloc (.cells zs.toArray e)) (.inl ⟨_, _, by rw [hex]; exact he X, rfl, rfl⟩) ?_
   rintro _ _ ⟨rfl, rfl⟩
   exact ⟨_, hact _, hdn, hvps _ (hs.box j o zs st _ ho hcl).1, fun _ => hf.box h hi.down hj hsj hcl hss hbp e, hdone _ _ (by rw [hcl]; intro e; cases e) (fun k hk hck2 hsk => by rw [nolast (by rw [hcl]; rfl) k hk hck2] at hsk; cases hsk)⟩
  | store i =>
   have hf := hi.full (nolast (by rw [hcl]; rfl))
   obtain ⟨hg, hil, hia, ⟨zs, hci⟩, hDj⟩ := clsOk_store hck.cls hcl
   rw [if_pos (show wantB val o = true by unfold wantB; rw [hg])]
   obtain ⟨b, h1, h2, h3, _⟩ := hf.bxs i hil (hA i hia) zs j hci
   rw [if_neg (by rw [hsj]; simp)] at h3
   obtain ⟨hvp, X', hx, hX1, hX2, hX3, hX4, hX5⟩ := hs.store j o i zs val X b ho hcl hci hvA h1 h3
   refine RunsTo.wp (R := fun v Y => v = undef ∧ Y = X') (.inr (.inl ⟨X', by rw [hex]; exact hx, rfl, rfl⟩)) ?_
   rintro _ _ ⟨rfl, rfl⟩
   exact ⟨_, hact _, hdn, hvps _ (hvp _), fun _ => hf.put h hi.down hj hsj hcl hci hil (hA i hia) h1 h2 hX1 hX2 hX3 hX4 hX5 hDj, hdone _ _ (by rw [hcl]; intro e; cases e) (fun k hk hck2 hsk => by rw [nolast (by rw [hcl]; rfl) k hk hck2] at hsk; cases hsk)⟩
def tupC:Value→Nat→Value | .tuple xs,i=>xs.getD i undef | _,_=>undef
def contV:Value→List Value | .agg xs=>xs.toList | v=>[v]
variable {P:Program} {ops:Array Oper} {sp:List ROp} {BP:List Value→Prop} {B:Nat} {w0:World} {a0:Act} {T:List Value→World→Prop}
def SrvAt (P:Program) (ops:Array Oper) (sp:List ROp) (BP:List Value→Prop) (B:Nat) (w0:World) (a0:Act) (T:List Value→World→Prop) (j:Nat) (o:Oper):Prop :=
 match (opAt sp j).cl with
 | .pure=>∀val,(∀i∈(opAt sp j).A,(opAt sp i).vp (vals sp i val)) →
  (wantB val o=true→∃v,(∀X,(execOp (eOf ops val a0 o) o).run P X=.ok (.value v) X)∧(opAt sp j).vp (vals sp j (updV val j v)))∧(wantB val o=false→(opAt sp j).vp (vals sp j (updV val j undef)))
 | .call=>∀val X (N:Nat→Prop),Below B w0 X→(∀b,b<B→N b)→(∀b,N b→b<X.heap.size)→(∀b,b<X.heap.size→¬N b→∃vs,Bk X b vs∧BP vs)→(∀i∈(opAt sp j).A,(opAt sp i).vp (vals sp i val))→(∀i∈(opAt sp j).A,(opAt sp i).cl=.call→(opAt sp i).vc (vals sp i val) N X) →
  (wantB val o=true→RunsTo P (execOp (eOf ops val a0 o) o) X fun v X'=>Below X.heap.size X X'∧(opAt sp j).vp (vals sp j (updV val j v))∧∀N':Nat→Prop,(∀b,N b→N' b)→(∀b,X.heap.size≤b→b<X'.heap.size→N' b)→(opAt sp j).vc (vals sp j (updV val j v)) N' X') ∧
  (wantB val o=false→(opAt sp j).vp (vals sp j (updV val j undef))∧∀N':Nat→Prop,(opAt sp j).vc (vals sp j (updV val j undef)) N' X)
 | .box zs _=>∀val,(opAt sp j).vp (vals sp j val)∧BP zs∧∃e,∀X,(execOp (eOf ops val a0 o) o).run P X=.ok (.value (.pointer (some ⟨X.heap.size,0,none⟩))) (X.alloc (.cells zs.toArray e))
 | .store i=>∀zs val X b,(opAt sp i).cl=.box zs j→(∀i∈(opAt sp j).A,(opAt sp i).vp (vals sp i val))→val i=.pointer (some ⟨b,0,none⟩)→Bk X b zs →
  (∀val,(opAt sp j).vp (vals sp j val))∧∃X',(execOp (eOf ops val a0 o) o).run P X=.ok .skip X'∧Below b X X'∧X'.heap.size=X.heap.size∧(∀k,k≠b→X'.heap[k]? = X.heap[k]?)∧Bk X' b ((opAt sp j).cs (vals sp j val))∧BP ((opAt sp j).cs (vals sp j val))
 | .last=>∀val X (N:Nat→Prop),Below B w0 X→(∀b,b<B→N b)→(∀b,N b→b<X.heap.size)→(∀b,b<X.heap.size→¬N b→∃vs,Bk X b vs∧BP vs)→(∀i∈(opAt sp j).A,(opAt sp i).vp (vals sp i val))→(∀i∈(opAt sp j).A,(opAt sp i).cl=.call→(opAt sp i).vc (vals sp i val) N X) →
  (∀i∈(opAt sp j).A,∀zs st,(opAt sp i).cl=.box zs st→∃b,val i=.pointer (some ⟨b,0,none⟩)∧B≤b∧¬N b∧Bk X b (if (opAt sp j).A.contains st then (opAt sp st).cs (vals sp st val) else zs)) →
  (wantB val o=true→RunsTo P (execOp (eOf ops val a0 o) o) X fun v X'=>(opAt sp j).vp (vals sp j (updV val j v))∧T (vals sp j (updV val j v)) X')∧(wantB val o=false→(opAt sp j).vp (vals sp j (updV val j undef))∧T (vals sp j (updV val j undef)) X)
theorem Serves.of (h:∀j o,ops[j]? = some o→SrvAt P ops sp BP B w0 a0 T j o):Serves P ops sp BP B w0 a0 T where
 pure:=fun j o val ho hc=>by have:=h j o ho;unfold SrvAt at this;rw [hc] at this;exact this val
 call:=fun j o val X N ho hc=>by have:=h j o ho;unfold SrvAt at this;rw [hc] at this;exact this val X N
 box:=fun j o zs st val ho hc=>by have:=h j o ho;unfold SrvAt at this;rw [hc] at this;exact this val
 store:=fun j o i zs val X b ho hc hz=>by have:=h j o ho;unfold SrvAt at this;rw [hc] at this;exact this zs val X b hz
 last:=fun j o val X N ho hc=>by have:=h j o ho;unfold SrvAt at this;rw [hc] at this;exact this val X N
variable {j:Nat} {o:Oper}
structure EOf (ops:Array Oper) (val:Nat→Value) (a0:Act) (o:Oper) (E:Operand→Value):Prop where
 eq:E=eOf ops val a0 o
 c:∀v,E (.const v)=v
 f:∀f,E (.func f)=.func (.func f) #[] #[]
theorem EOf.at (ops:Array Oper) (val:Nat→Value) (a0:Act) (o:Oper):EOf ops val a0 o (eOf ops val a0 o):=⟨rfl,fun _=>rfl,fun _=>rfl⟩
abbrev VPs (sp:List ROp) (j:Nat) (val:Nat→Value):Prop:=∀i∈(opAt sp j).A,(opAt sp i).vp (vals sp i val)
abbrev VCs (sp:List ROp) (j:Nat) (val:Nat→Value) (N:Nat→Prop) (X:World):Prop:=∀i∈(opAt sp j).A,(opAt sp i).cl=.call→(opAt sp i).vc (vals sp i val) N X
structure AtC (BP:List Value→Prop) (B:Nat) (w0 X:World) (N:Nat→Prop):Prop where
 bel:Below B w0 X
 old:∀b,b<B→N b
 lt:∀b,N b→b<X.heap.size
 bx:∀b,b<X.heap.size→¬N b→∃vs,Bk X b vs∧BP vs
theorem want_none {val:Nat→Value} (hg:o.guard=none):wantB val o=true:=by unfold wantB;rw [hg]
theorem want_some {val:Nat→Value} {g:Nat} {b c:Bool} (hg:o.guard=some (g,b)) (hv:val g=.bool c):wantB val o=(c==b):=by unfold wantB;rw [hg];dsimp only;rw [hv]
theorem srv_pure (hc:(opAt sp j).cl=.pure) (hg:o.guard=none) (h:∀val E,EOf ops val a0 o E→VPs sp j val→∃v,(∀X,(execOp E o).run P X=.ok (.value v) X)∧(opAt sp j).vp (vals sp j (updV val j v))):SrvAt P ops sp BP B w0 a0 T j o:=by
 unfold SrvAt;rw [hc]
 exact fun val hA=>⟨fun _=>h val _ (EOf.at _ _ _ _) hA,fun hf=>by rw [want_none hg] at hf;cases hf⟩
theorem srv_pureG {g:Nat} {b:Bool} (c:Bool) (hc:(opAt sp j).cl=.pure) (hg:o.guard=some (g,b)) (hv:∀val,VPs sp j val→val g=.bool c) (h:c=b→∀val E,EOf ops val a0 o E→VPs sp j val→∃v,(∀X,(execOp E o).run P X=.ok (.value v) X)∧(opAt sp j).vp (vals sp j (updV val j v))) (h2:c≠b→∀val,VPs sp j val→(opAt sp j).vp (vals sp j (updV val j undef))):SrvAt P ops sp BP B w0 a0 T j o:=by
 unfold SrvAt;rw [hc]
 refine fun val hA=>⟨fun ht=>?_,fun hf=>?_⟩
 ·rw [want_some hg (hv val hA)] at ht
  exact h (by simpa using ht) val _ (EOf.at _ _ _ _) hA
 ·rw [want_some hg (hv val hA)] at hf
  exact h2 (by simpa using hf) val hA
theorem srv_val (hc:(opAt sp j).cl=.call) (hg:o.guard=none) (hvc:∀vs N X,(opAt sp j).vc vs N X) (h:∀val E X,EOf ops val a0 o E→Below B w0 X→VPs sp j val→∃v,(execOp E o).run P X=.ok (.value v) X∧(opAt sp j).vp (vals sp j (updV val j v))):SrvAt P ops sp BP B w0 a0 T j o:=by
 unfold SrvAt;rw [hc]
 refine fun val X N hB _ _ _ hA _=>⟨fun _=>?_,fun hf=>by rw [want_none hg] at hf;cases hf⟩
 obtain ⟨v,h1,h2⟩:=h val _ X (EOf.at _ _ _ _) hB hA
 exact .inl ⟨v,X,h1,Below.refl _ _,h2,fun _ _ _=>hvc _ _ _⟩
theorem srv_valG {g:Nat} {b:Bool} (c:Bool) (hc:(opAt sp j).cl=.call) (hg:o.guard=some (g,b)) (hvc:∀vs N X,(opAt sp j).vc vs N X) (hv:∀val,VPs sp j val→val g=.bool c) (h:c=b→∀val E X,EOf ops val a0 o E→Below B w0 X→VPs sp j val→∃v,(execOp E o).run P X=.ok (.value v) X∧(opAt sp j).vp (vals sp j (updV val j v))) (h2:c≠b→∀val,VPs sp j val→(opAt sp j).vp (vals sp j (updV val j undef))):SrvAt P ops sp BP B w0 a0 T j o:=by
 unfold SrvAt;rw [hc]
 refine fun val X N hB _ _ _ hA _=>⟨fun ht=>?_,fun hf=>?_⟩
 ·rw [want_some hg (hv val hA)] at ht
  obtain ⟨v,h1,h2⟩:=h (by simpa using ht) val _ X (EOf.at _ _ _ _) hB hA
  exact .inl ⟨v,X,h1,Below.refl _ _,h2,fun _ _ _=>hvc _ _ _⟩
 ·rw [want_some hg (hv val hA)] at hf
  exact ⟨h2 (by simpa using hf) val hA,fun _=>hvc _ _ _⟩
theorem srv_calV (hc:(opAt sp j).cl=.call) (hg:o.guard=none) (hvc:∀vs N X,(opAt sp j).vc vs N X) (h:∀val E X,EOf ops val a0 o E→Below B w0 X→VPs sp j val→∃f args v,(execOp E o).run P X=.ok (.enter f args) X∧(Calls P f args X fun e w'=>e=.returned v∧Below X.heap.size X w')∧(opAt sp j).vp (vals sp j (updV val j v))):SrvAt P ops sp BP B w0 a0 T j o:=by
 unfold SrvAt;rw [hc]
 refine fun val X N hB _ _ _ hA _=>⟨fun _=>?_,fun hf=>by rw [want_none hg] at hf;cases hf⟩
 obtain ⟨f,args,v,h1,h2,h3⟩:=h val _ X (EOf.at _ _ _ _) hB hA
 exact .inr (.inr ⟨f,args,X,h1,h2.mono fun e w' hh=>⟨v,hh.1,hh.2,h3,fun _ _ _=>hvc _ _ _⟩⟩)
theorem srv_calVG {g:Nat} {b:Bool} (c:Bool) (hc:(opAt sp j).cl=.call) (hg:o.guard=some (g,b)) (hvc:∀vs N X,(opAt sp j).vc vs N X) (hv:∀val,VPs sp j val→val g=.bool c) (h:c=b→∀val E X,EOf ops val a0 o E→Below B w0 X→VPs sp j val→∃f args v,(execOp E o).run P X=.ok (.enter f args) X∧(Calls P f args X fun e w'=>e=.returned v∧Below X.heap.size X w')∧(opAt sp j).vp (vals sp j (updV val j v))) (h2:c≠b→∀val,VPs sp j val→(opAt sp j).vp (vals sp j (updV val j undef))):SrvAt P ops sp BP B w0 a0 T j o:=by
 unfold SrvAt;rw [hc]
 refine fun val X N hB _ _ _ hA _=>⟨fun ht=>?_,fun hf=>?_⟩
 ·rw [want_some hg (hv val hA)] at ht
  obtain ⟨f,args,v,h1,h2,h3⟩:=h (by simpa using ht) val _ X (EOf.at _ _ _ _) hB hA
  exact .inr (.inr ⟨f,args,X,h1,h2.mono fun e w' hh=>⟨v,hh.1,hh.2,h3,fun _ _ _=>hvc _ _ _⟩⟩)
 ·rw [want_some hg (hv val hA)] at hf
  exact ⟨h2 (by simpa using hf) val hA,fun _=>hvc _ _ _⟩
theorem srv_cal (hc:(opAt sp j).cl=.call) (hg:o.guard=none) (h:∀val E X N,EOf ops val a0 o E→AtC BP B w0 X N→VPs sp j val→VCs sp j val N X→∃f args,(execOp E o).run P X=.ok (.enter f args) X∧Calls P f args X fun e w'=>∃v,e=.returned v∧Below X.heap.size X w'∧(opAt sp j).vp (vals sp j (updV val j v))∧∀N':Nat→Prop,(∀b,N b→N' b)→(∀b,X.heap.size≤b→b<w'.heap.size→N' b)→(opAt sp j).vc (vals sp j (updV val j v)) N' w'):SrvAt P ops sp BP B w0 a0 T j o:=by
 unfold SrvAt;rw [hc]
 refine fun val X N h1 h2 h3 h4 hA hC=>⟨fun _=>?_,fun hf=>by rw [want_none hg] at hf;cases hf⟩
 obtain ⟨f,args,h5,h6⟩:=h val _ X N (EOf.at _ _ _ _) ⟨h1,h2,h3,h4⟩ hA hC
 exact .inr (.inr ⟨f,args,X,h5,h6⟩)
theorem srv_box {zs:List Value} {st:Nat} (hc:(opAt sp j).cl=.box zs st) (hvp:∀vs,(opAt sp j).vp vs) (hbp:BP zs) (e:TypeId) (h:∀E X,(execOp E o).run P X=.ok (.value (.pointer (some ⟨X.heap.size,0,none⟩))) (X.alloc (.cells zs.toArray e))):SrvAt P ops sp BP B w0 a0 T j o:=by
 unfold SrvAt;rw [hc]
 exact fun val=>⟨hvp _,hbp,e,fun X=>h _ X⟩
structure PutTo (b:Nat) (X X':World) (cs:List Value):Prop where
 bel:Below b X X'
 size:X'.heap.size=X.heap.size
 other:∀k,k≠b→X'.heap[k]? = X.heap[k]?
 bk:Bk X' b cs
theorem srv_store {i:Nat} {zs:List Value} (hc:(opAt sp j).cl=.store i) (hz:(opAt sp i).cl=.box zs j) (hvp:∀vs,(opAt sp j).vp vs) (h:∀val E X b,EOf ops val a0 o E→VPs sp j val→val i=.pointer (some ⟨b,0,none⟩)→Bk X b zs→∃X' cs,(execOp E o).run P X=.ok .skip X'∧PutTo b X X' cs∧(opAt sp j).cs (vals sp j val)=cs∧BP cs):SrvAt P ops sp BP B w0 a0 T j o:=by
 unfold SrvAt;rw [hc]
 intro zs' val X b hz' hA hv hk
 rw [hz] at hz'
 injection hz' with e1 e2
 subst e1
 obtain ⟨X',cs,h1,h2,h3,h4⟩:=h val _ X b (EOf.at _ _ _ _) hA hv hk
 rw [h3]
 exact ⟨fun _=>hvp _,X',h1,h2.bel,h2.size,h2.other,h2.bk,h4⟩
theorem PutTo.more {b:Nat} {X X':World} {cs:List Value} (h:PutTo b X X' cs) (i:Nat) (v:Value):PutTo b X (X'.setCell ⟨b,i,none⟩ v) (cs.set i v) :=
 ⟨h.bel.setCell (p:=⟨b,_,none⟩) (Nat.le_refl _) _,by simp [h.size],fun k hk=>(heap_setCell_other _ _ _ _ hk).trans (h.other k hk),h.bk.set i v⟩
theorem PutTo.start {b:Nat} {X:World} {zs:List Value} (h:Bk X b zs):PutTo b X X zs:=⟨Below.refl _ _,rfl,fun _ _=>rfl,h⟩
theorem srv_last (hc:(opAt sp j).cl=.last) (hg:o.guard=none) (h:∀val E X N,EOf ops val a0 o E→AtC BP B w0 X N→VPs sp j val→VCs sp j val N X →
  (∀i∈(opAt sp j).A,∀zs st,(opAt sp i).cl=.box zs st→∃b,val i=.pointer (some ⟨b,0,none⟩)∧B≤b∧¬N b∧Bk X b (if (opAt sp j).A.contains st then (opAt sp st).cs (vals sp st val) else zs)) →
  RunsTo P (execOp E o) X fun v X'=>(opAt sp j).vp (vals sp j (updV val j v))∧T (vals sp j (updV val j v)) X'):SrvAt P ops sp BP B w0 a0 T j o:=by
 unfold SrvAt;rw [hc]
 exact fun val X N h1 h2 h3 h4 hA hC hX=>⟨fun _=>h val _ X N (EOf.at _ _ _ _) ⟨h1,h2,h3,h4⟩ hA hC hX,fun hf=>by rw [want_none hg] at hf;cases hf⟩
def fillD:List (Option Tmp)→Nat→(Nat→Value)→List Value→List Value
 | [],_,_,t=>t
 | none::ds,k,val,t=>fillD ds (k+1) val t
 | some d::ds,k,val,t=>fillD ds (k+1) val (t.set d (val k))
theorem fillD_snoc (ds:List (Option Tmp)):∀(d:Option Tmp) (k:Nat) (val:Nat→Value) (t:List Value),fillD (ds++[d]) k val t=match d with | none=>fillD ds k val t | some d=>(fillD ds k val t).set d (val (k+ds.length)):=by
 induction ds with
 | nil=>intro d k val t;cases d <;> rfl
 | cons x ds ih=>
  intro d k val t
  cases x <;> (rw [List.cons_append];unfold fillD;rw [ih];cases d <;> simp only [List.length_cons];congr 2;omega)
theorem fill_fillD {ds:List (Option Tmp)} {t:List Value} {df:List Deferred} (hd:ops.toList.map (·.dst)=ds) (val:Nat→Value):fillN ops (fun _=>true) val ⟨t.toArray,df⟩ ops.size=⟨(fillD ds 0 val t).toArray,df⟩:=by
 have key:∀m,m≤ops.size→fillN ops (fun _=>true) val ⟨t.toArray,df⟩ m=⟨(fillD (ds.take m) 0 val t).toArray,df⟩:=by
  intro m
  induction m with
  | zero=>intro _;rfl
  | succ m ih=>
   intro hm
   have hl:m<ds.length:=by rw [←hd];simp;omega
   have hdm:dstO ops m=ds[m]:=by
    unfold dstO
    rw [Array.getElem?_eq_getElem (by omega)]
    simp only [←hd,List.getElem_map,Option.bind_some]
    rfl
   rw [fillN,if_pos rfl,ih (by omega),List.take_succ_eq_append_getElem hl,fillD_snoc,hdm]
   cases ds[m] with
   | none=>rfl
   | some d=>
    simp only [Act.put,List.setIfInBounds_toArray,List.length_take,Nat.zero_add]
    rw [Nat.min_eq_left (by omega)]
 have:=key ops.size (Nat.le_refl _)
 rw [this,List.take_of_length_le (by rw [←hd];simp)]
def noLast (sp:List ROp) (n:Nat):Bool:=(List.range n).all fun j=>!(opAt sp j).cl.isLast
structure Abs (n:Nat) (sp:List ROp) (B:Nat) (w0:World) (val:Nat→Value) (X:World) (N:Nat→Prop):Prop where
 bel:Below B w0 X
 low:B≤X.heap.size
 lt:∀b,N b→b<X.heap.size
 old:∀b,b<B→N b
 vcs:∀j,j<n→(opAt sp j).cl=.call→(opAt sp j).vc (vals sp j val) N X
 bxs:∀i,i<n→∀zs st,(opAt sp i).cl=.box zs st→∃b,val i=.pointer (some ⟨b,0,none⟩)∧B≤b∧Bk X b ((opAt sp st).cs (vals sp st val))∧¬N b
 dis:∀i k,i<n→k<n→(opAt sp i).cl.isBox=true→(opAt sp k).cl.isBox=true→i≠k→val i≠val k
theorem Full.abs {n:Nat} {val:Nat→Value} {X:World} (hf:Full n sp BP B w0 (fun _=>true) val X):Abs n sp B w0 val X (Nb n sp (fun _=>true) val X) where
 bel:=hf.bel
 low:=hf.low
 lt:=fun _ h=>h.1
 old:=Nb.old hf
 vcs:=fun j hj hc=>hf.vcs j hj rfl hc
 bxs:=fun i hi zs st hc=>by
  obtain ⟨b,h1,h2,h3,_⟩:=hf.bxs i hi rfl zs st hc
  rw [if_pos rfl] at h3
  exact ⟨b,h1,h2,h3,fun h=>h.2 i hi rfl (by rw [hc];rfl) h1⟩
 dis:=fun i k hi hk=>hf.dis i k hi hk rfl rfl
theorem region_own {id:Nat} {Q:Exit→Act→World→Prop} {t:List Value} {df:List Deferred} (sp:List ROp) (ds:List (Option Tmp)) (BP:List Value→Prop) (B:Nat) (hm:P.follows .mixedOrders=true) (hB:B≤w0.heap.size) (hd:ops.toList.map (·.dst)=ds) (h:regChk ops sp t.length=true) (hl:noLast sp ops.size=true)
  (hs:∀j o,ops[j]? = some o→SrvAt P ops sp BP B w0 ⟨t.toArray,df⟩ (fun _ _=>True) j o)
  (hend:∀val X N,(∀j,j<ops.size→(opAt sp j).vp (vals sp j val))→Abs ops.size sp B w0 val X N→Q .normal ⟨(fillD ds 0 val t).toArray,df⟩ X) :
  (Code.region id ops true).wp P Q ⟨t.toArray,df⟩ w0 :=
 wp_region_own sp BP (fun _ _=>True) hm hB (by simpa using h) (Serves.of hs) fun val X hv hf _=>by
  rw [fill_fillD hd]
  refine hend val X _ hv (hf fun j hj e=>?_).abs
  have:=List.all_eq_true.1 hl j (List.mem_range.2 hj)
  rw [e] at this;cases this
theorem region_last {id:Nat} {Q:Exit→Act→World→Prop} {t:List Value} {df:List Deferred} (sp:List ROp) (ds:List (Option Tmp)) (BP:List Value→Prop) (B l:Nat) (T:List Value→World→Prop) (hm:P.follows .mixedOrders=true) (hB:B≤w0.heap.size) (hd:ops.toList.map (·.dst)=ds) (h:regChk ops sp t.length=true) (hl:l<ops.size∧(opAt sp l).cl=.last)
  (hs:∀j o,ops[j]? = some o→SrvAt P ops sp BP B w0 ⟨t.toArray,df⟩ T j o)
  (hend:∀val X,(∀j,j<ops.size→(opAt sp j).vp (vals sp j val))→T (vals sp l val) X→Q .normal ⟨(fillD ds 0 val t).toArray,df⟩ X) :
  (Code.region id ops true).wp P Q ⟨t.toArray,df⟩ w0 :=
 wp_region_own sp BP T hm hB (by simpa using h) (Serves.of hs) fun val X hv _ hT=>by
  rw [fill_fillD hd]
  exact hend val X hv (hT l hl.1 hl.2)
theorem Abs.at_box {n:Nat} {val:Nat→Value} {X:World} {N:Nat→Prop} (hf:Abs n sp B w0 val X N) (i:Nat) {zs:List Value} {st:Nat} (hi:i<n) (hc:(opAt sp i).cl=.box zs st):∃b,val i=.pointer (some ⟨b,0,none⟩)∧B≤b∧Bk X b ((opAt sp st).cs (vals sp st val))∧∀c,N c→c≠b:=by
 obtain ⟨b,h1,h2,h3,h4⟩:=hf.bxs i hi zs st hc
 exact ⟨b,h1,h2,h3,fun c hc' e=>h4 (e ▸ hc')⟩
def bkAll (X:World) (g:Nat):Nat→List Value→Prop
 | _,[]=>True
 | i,v::vs=>(X.cell? ⟨g,i,none⟩=some v∧X.frozen? ⟨g,i,none⟩=false)∧bkAll X g (i+1) vs
def bksAll (X:World):List (Nat×List Value)→Prop
 | []=>True
 | (g,vs)::l=>(g<X.heap.size∧bkAll X g 0 vs)∧bksAll X l
theorem Bk.all {X:World} {g:Nat} {vs:List Value} (h:Bk X g vs):∀(i:Nat) (us:List Value),(∀k v,us[k]? = some v→vs[i+k]? = some v)→bkAll X g i us:=by
 intro i us
 induction us generalizing i with
 | nil=>intro _;exact True.intro
 | cons u us ih=>
  intro hk
  exact ⟨⟨h.c i u (by simpa using hk 0 u rfl),h.f i⟩,ih (i+1) fun k v hv=>by
   have:=hk (k+1) v (by simpa using hv)
   rwa [show i+1+k=i+(k+1) by omega]⟩
theorem Bks.all {X:World}:∀{l:List (Nat×List Value)},Bks X l→bksAll X l
 | [],_=>True.intro
 | (_,_)::_,h=>⟨⟨h.lt 0 rfl,(h.at 0 _ _ rfl).all 0 _ fun k v hv=>by simpa using hv⟩,Bks.all h.tl⟩
theorem Bk.all0 {X:World} {g:Nat} {vs:List Value} (h:Bk X g vs):g<X.heap.size∧bkAll X g 0 vs:=⟨h.lt,h.all 0 _ fun k v hv=>by simpa using hv⟩
end Hb
namespace Hb
theorem EOf.t {ops:Array Go.Oper} {val:Nat→Go.Value} {a0:Go.Act} {o:Go.Oper} {E:Go.Operand→Go.Value} (h:EOf ops val a0 o E) (t:Go.Tmp) (v:Go.Value) (k:eOf ops val a0 o (.tmp t)=v):E (.tmp t)=v:=by rw [h.eq];exact k
end Hb
