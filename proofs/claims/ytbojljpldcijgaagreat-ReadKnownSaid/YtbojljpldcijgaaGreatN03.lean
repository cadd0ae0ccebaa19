/- Parts of the proof. -/
import Derived.Test.YtbojljpldcijgaaGreatH01
import Derived.Test.YtbojljpldcijgaaGreatH02
import Derived.Test.YtbojljpldcijgaaGreatH03
import Derived.Test.YtbojljpldcijgaaGreatH04
import Derived.Test.YtbojljpldcijgaaGreatH05
import Derived.Test.YtbojljpldcijgaaGreatH06
import Derived.Test.YtbojljpldcijgaaGreatH07
import Derived.Test.YtbojljpldcijgaaGreatH08
import Derived.Test.YtbojljpldcijgaaGreatH09
import Derived.Test.YtbojljpldcijgaaGreatH10
import Derived.Test.YtbojljpldcijgaaGreatH11
import Derived.Test.YtbojljpldcijgaaGreatH12
import Derived.Test.YtbojljpldcijgaaGreatH13
import Derived.Test.YtbojljpldcijgaaGreatH14
import Derived.Test.YtbojljpldcijgaaGreatH15
import Derived.Test.YtbojljpldcijgaaGreatH16
import Derived.Test.YtbojljpldcijgaaGreatH17
import Derived.Test.YtbojljpldcijgaaGreatH18
import Derived.Test.YtbojljpldcijgaaGreatH21
import Derived.Test.YtbojljpldcijgaaGreatH22
import Derived.Test.YtbojljpldcijgaaGreatH23
import Derived.Test.YtbojljpldcijgaaGreatH24
import Derived.Test.YtbojljpldcijgaaGreatH25
import Derived.Test.YtbojljpldcijgaaGreatH26
import Derived.Test.YtbojljpldcijgaaGreatH27
import Derived.Test.YtbojljpldcijgaaGreatN01
import Derived.Test.YtbojljpldcijgaaGreatN02
namespace Hb
open Go Go.RowKit
inductive SV where
 | tm (t:Tm)
 | row (l:List Tm)
 | bl (b:Bool)
inductive Ob where
 | g (s:ByteArray) (t:Tm)
 | w (s:ByteArray) (k:Int)
noncomputable def Ob.ok:Ob→Prop
 | .g s t=>givesR s.data.toList t=true
 | .w s k=>wrongR s.data.toList k=true
def SVok (X:World):SV→Value→Prop
 | .tm t,v=>∃A c,v=.agg #[.int .i64 t.kind,.int .i64 t.num,.string t.name,.slice A t.args.length c]∧TmsAt X.heap.size X A t.args
 | .row l,v=>∃A c,v=.slice A l.length c∧TmsAt X.heap.size X A l
 | .bl b,v=>v=.bool b
theorem SVok.keep {X Y:World} {s:SV} {v:Value} (h:SVok X s v) (hB:Below X.heap.size X Y):SVok Y s v:=by
 cases s with
 | tm t=>obtain ⟨A,c,e,h⟩:=h;exact ⟨A,c,e,(h.keep hB).mono hB.size⟩
 | row l=>obtain ⟨A,c,e,h⟩:=h;exact ⟨A,c,e,(h.keep hB).mono hB.size⟩
 | bl b=>exact h
structure LawC where
 x:FuncId
 a:FuncId
 n:FuncId
 f:FuncId
 g:FuncId
 w:FuncId
 ty:TypeId
abbrev SEnv:=List (Tmp×SV)
def SEnv.get (env:SEnv) (t:Tmp):Option SV:=List.lookup t env
def leafS (k n:Int) (s:ByteArray):Option (SV×List Ob):=some (.tm (.mk k n s []),[])
def callS (C:LawC) (env:SEnv) (f:FuncId) (args:List Operand):Option (SV×List Ob) :=
 match args with
 | [.const (.int .i64 k)]=>if f=C.n then leafS 1 k ⟨#[]⟩ else if f=C.x then leafS 0 k ⟨#[]⟩ else none
 | [.const (.string s)]=>if f=C.a then leafS 2 0 s else none
 | [.const (.string s),.tmp r]=>(match env.get r with
  | some (.row l)=>if f=C.f then some (.tm (.mk 3 0 s l),[]) else none
  | some (.tm t)=>if f=C.g∧s.size≤maxLen then some (.bl true,[.g s t]) else none
  | _=>none)
 | [.const (.string s),.const (.int .i64 k)]=>if f=C.w∧s.size≤maxLen then some (.bl true,[.w s k]) else none
 | _=>none
def tmOf (env:SEnv) (t:Tmp):Option Tm:=match env.get t with | some (.tm x)=>some x | _=>none
def rowS (env:SEnv) (n:Nat):List (Nat×Operand)→Option (List Tm)
 | [(0,.tmp a)]=>if n=1 then (tmOf env a).map fun x=>[x] else none
 | [(0,.tmp a),(1,.tmp b)]=>if n=2 then (tmOf env a).bind fun x=>(tmOf env b).map fun y=>[x,y] else none
 | _=>none
def stepS (C:LawC) (env:SEnv):Op→Option (SV×List Ob)
 | .call c=>(match c.callee with | .value (.func f)=>callS C env f c.args.toList | _=>none)
 | .buildSlice t n ps=>if t=C.ty then (rowS env n ps.toList).map fun l=>(.row l,[]) else none
 | .move (.tmp t)=>(env.get t).map fun s=>(s,[])
 | .assign (.tmp t)=>(env.get t).map fun s=>(s,[])
 | .pick (.tmp c) (.tmp v) (.const (.bool false))=>(match env.get c,env.get v with | some (.bl true),some (.bl b)=>some (.bl b,[]) | _,_=>none)
 | _=>none
def guardS (ops:Array Oper) (env:SEnv) (o:Oper):Bool :=
 match o.guard with
 | none=>true
 | some (j,want)=>match (ops[j]?).bind (·.dst) with
  | some d=>(match env.get d with | some (.bl b)=>b==want | _=>false)
  | none=>false
def runS (C:LawC) (ops:Array Oper) (sz:Nat):List Oper→SEnv→List Ob→Option (SEnv×List Ob)
 | [],env,obs=>some (env,obs)
 | o::l,env,obs=>match o.dst with
  | some d=>if decide (d<sz)&&guardS ops env o then (match stepS C env o.op with
   | some (s,ob)=>runS C ops sz l ((d,s)::env) (obs++ob)
   | none=>none) else none
  | none=>none
def EnvOk (X:World) (env:SEnv) (a:Act):Prop:=∀t s,env.get t=some s→SVok X s (a.eval (.tmp t))
theorem EnvOk.put {X Y:World} {env:SEnv} {a:Act} (h:EnvOk X env a) (hB:Below X.heap.size X Y) {d:Tmp} {s:SV} {v:Value} (hd:d<a.tmps.size) (hv:SVok Y s v):EnvOk Y ((d,s)::env) (a.put (some d) v):=by
 intro t s' hs
 unfold SEnv.get at hs
 rw [List.lookup_cons] at hs
 by_cases e:t=d
 ·subst e
  rw [beq_self_eq_true] at hs
  injection hs with hs
  subst hs
  rw [eval_put_same hd];exact hv
 ·rw [show (t==d)=false by simpa using e] at hs
  have:(a.put (some d) v).eval (.tmp t)=a.eval (.tmp t):=by
   simp [Act.eval,Act.put,Array.getD]
   congr
   funext hlt
   rw [Array.getElem_setIfInBounds_ne]
   exact fun e'=>e e'.symm
  rw [this]
  exact (h t s' hs).keep hB
abbrev c4 (k n:Int) (s:ByteArray) (A:Option Addr) (l c:Nat):List Value:=[.int .i64 k,.int .i64 n,.string s,.slice A l c]
structure LawOk (P:Program) (C:LawC) (el:TypeId):Prop where
 en:∀f,f=C.x∨f=C.a∨f=C.n∨f=C.f∨f=C.g∨f=C.w→∀args W,(callFunc f args).run P W=.ok (.enter f args) W
 x:∀k W,Calls P C.x #[.int .i64 k] W fun e w'=>e=.returned (.agg #[.int .i64 0,.int .i64 k,.string ⟨#[]⟩,.slice none 0 0])∧Below W.heap.size W w'
 n:∀k W,Calls P C.n #[.int .i64 k] W fun e w'=>e=.returned (.agg #[.int .i64 1,.int .i64 k,.string ⟨#[]⟩,.slice none 0 0])∧Below W.heap.size W w'
 a:∀s W,Calls P C.a #[.string s] W fun e w'=>e=.returned (.agg #[.int .i64 2,.int .i64 0,.string s,.slice none 0 0])∧Below W.heap.size W w'
 f:∀s A n c W,Calls P C.f #[.string s,.slice A n c] W fun e w'=>e=.returned (.agg #[.int .i64 3,.int .i64 0,.string s,.slice A n c])∧Below W.heap.size W w'
 g:∀s t A c W,s.size≤maxLen→TmsAt W.heap.size W A t.args→givesR s.data.toList t=true→Calls P C.g #[.string s,.agg #[.int .i64 t.kind,.int .i64 t.num,.string t.name,.slice A t.args.length c]] W fun e w'=>e=.returned (.bool true)∧Below W.heap.size W w'
 w:∀s k W,s.size≤maxLen→wrongR s.data.toList k=true→Calls P C.w #[.string s,.int .i64 k] W fun e w'=>e=.returned (.bool true)∧Below W.heap.size W w'
 b1:∀(X:World) k n s A l c,(Instr.buildSlice C.ty 1 #[(0,.agg (c4 k n s A l c).toArray)]).run P X=.ok (.slice (some ⟨X.heap.size,0,none⟩) 1 1) (X.alloc (.cells (c4 k n s A l c).toArray el))
 b2:∀(X:World) k n s A l c k' n' s' A' l' c',(Instr.buildSlice C.ty 2 #[(0,.agg (c4 k n s A l c).toArray),(1,.agg (c4 k' n' s' A' l' c').toArray)]).run P X=.ok (.slice (some ⟨X.heap.size,0,none⟩) 2 2) (X.alloc (.cells (c4 k n s A l c++c4 k' n' s' A' l' c').toArray el))
theorem law_enter {P:Program} {o:Oper} {c:Call} {f:FuncId} {a:Act} {X:World} (ho:o.op=.call c) (hc:c.callee=.value (.func f)) (hen:∀args W,(callFunc f args).run P W=.ok (.enter f args) W):(execOp a.eval o).run P X=.ok (.enter f (c.args.map a.eval)) X:=by
 simp [execOp,ho,resolve,hc,Act.eval,Deferred.ofValue,invoke,hen]
theorem args_map {a:Act} {c:Call} {l:List Operand} (h:c.args.toList=l):c.args.map a.eval=(l.map a.eval).toArray:=by
 rw [←h,←Array.toList_map,Array.toArray_toList]
theorem step_call {P:Program} {C:LawC} {el:TypeId} (h:LawOk P C el) {env:SEnv} {a:Act} {X:World} {o:Oper} {c:Call} {f:FuncId} (ho:o.op=.call c) (hc:c.callee=.value (.func f)) {s:SV} {ob:List Ob} (he:EnvOk X env a) (hs:callS C env f c.args.toList=some (s,ob)) (hob:∀b∈ob,b.ok) :
  RunsTo P (execOp a.eval o) X (fun v Y=>SVok Y s v∧Below X.heap.size X Y):=by
 have fin:(f=C.x∨f=C.a∨f=C.n∨f=C.f∨f=C.g∨f=C.w)→∀args:List Value,c.args.map a.eval=args.toArray→Calls P f args.toArray X (fun e w'=>∃v,e=.returned v∧SVok w' s v∧Below X.heap.size X w')→RunsTo P (execOp a.eval o) X (fun v Y=>SVok Y s v∧Below X.heap.size X Y):=fun hf args ha hC=>
  .inr (.inr ⟨f,_,X,law_enter ho hc (h.en f hf),by rw [ha];exact hC⟩)
 unfold callS at hs
 split at hs
 ·rename_i k ha
  have ha:=args_map (a:=a) ha
  split at hs
  ·rename_i e;subst e
   unfold leafS at hs;injection hs with hs;injection hs with h1 h2;subst h1
   exact fin (by simp) _ ha ((h.n k X).mono fun e w' ⟨he,hB⟩=>⟨_,he,⟨none,0,rfl,TmsK.nil⟩,hB⟩)
  ·split at hs
   ·rename_i _ e;subst e
    unfold leafS at hs;injection hs with hs;injection hs with h1 h2;subst h1
    exact fin (by simp) _ ha ((h.x k X).mono fun e w' ⟨he,hB⟩=>⟨_,he,⟨none,0,rfl,TmsK.nil⟩,hB⟩)
   ·cases hs
 ·rename_i t ha
  have ha:=args_map (a:=a) ha
  split at hs
  ·rename_i e;subst e
   unfold leafS at hs;injection hs with hs;injection hs with h1 h2;subst h1
   exact fin (by simp) _ ha ((h.a t X).mono fun e w' ⟨he,hB⟩=>⟨_,he,⟨none,0,rfl,TmsK.nil⟩,hB⟩)
  ·cases hs
 ·rename_i t r ha
  have ha:=args_map (a:=a) ha
  split at hs
  ·rename_i l hr
   split at hs
   ·rename_i e;subst e
    injection hs with hs;injection hs with h1 h2;subst h1
    obtain ⟨A,cc,hv,hT⟩:=he r _ hr
    refine fin (by simp) [.string t,.slice A l.length cc] (by rw [ha];simp only [List.map_cons,List.map_nil,hv];rfl) ((h.f t A l.length cc X).mono fun e w' ⟨he,hB⟩=>⟨_,he,⟨A,cc,rfl,(hT.keep hB).mono hB.size⟩,hB⟩)
   ·cases hs
  ·rename_i u hr
   split at hs
   ·rename_i e;obtain ⟨e,hz⟩:=e;subst e
    injection hs with hs;injection hs with h1 h2;subst h1 h2
    obtain ⟨A,cc,hv,hT⟩:=he r _ hr
    refine fin (by simp) [.string t,.agg #[.int .i64 u.kind,.int .i64 u.num,.string u.name,.slice A u.args.length cc]] (by rw [ha];simp only [List.map_cons,List.map_nil,hv];rfl) ((h.g t u A cc X hz hT (hob _ (List.mem_singleton.2 rfl))).mono fun e w' ⟨he,hB⟩=>⟨_,he,rfl,hB⟩)
   ·cases hs
  ·cases hs
 ·rename_i t k ha
  have ha:=args_map (a:=a) ha
  split at hs
  ·rename_i e;obtain ⟨e,hz⟩:=e;subst e
   injection hs with hs;injection hs with h1 h2;subst h1 h2
   exact fin (by simp) _ ha ((h.w t k X hz (hob _ (List.mem_singleton.2 rfl))).mono fun e w' ⟨he,hB⟩=>⟨_,he,rfl,hB⟩)
  ·cases hs
 ·cases hs
theorem tmOf_some {env:SEnv} {t:Tmp} {x:Tm} (h:tmOf env t=some x):env.get t=some (.tm x):=by
 unfold tmOf at h
 split at h
 ·rename_i y hy;injection h with h;subst h;exact hy
 ·cases h
theorem step_ok {P:Program} {C:LawC} {el:TypeId} (h:LawOk P C el) {env:SEnv} {a:Act} {X:World} {o:Oper} {s:SV} {ob:List Ob} (he:EnvOk X env a) (hs:stepS C env o.op=some (s,ob)) (hob:∀b∈ob,b.ok) :
  RunsTo P (execOp a.eval o) X (fun v Y=>SVok Y s v∧Below X.heap.size X Y):=by
 unfold stepS at hs
 split at hs
 ·rename_i c ho
  split at hs
  ·rename_i f hc
   exact step_call h ho hc he hs hob
  ·cases hs
 ·rename_i t n ps ho
  split at hs
  ·rename_i ht
   obtain ⟨l,hl,hs⟩:=Option.map_eq_some_iff.1 hs
   injection hs with h1 h2;subst h1
   unfold rowS at hl
   split at hl
   ·rename_i p hp
    split at hl
    ·rename_i hn;subst hn ht
     obtain ⟨x,hx,rfl⟩:=Option.map_eq_some_iff.1 hl
     obtain ⟨A,cc,hv,hT⟩:=he p _ (tmOf_some hx)
     have hps:ps.map (fun (q:Nat×Operand)=>(q.1,a.eval q.2))=#[(0,.agg (c4 x.kind x.num x.name A x.args.length cc).toArray)]:=by
      have:ps=#[(0,Operand.tmp p)]:=Array.toList_inj.1 (by rw [hp])
      rw [this]
      simp only [List.map_toArray,List.map_cons,List.map_nil,hv]
     refine .inl ⟨.slice (some ⟨X.heap.size,0,none⟩) 1 1,X.alloc (.cells (c4 x.kind x.num x.name A x.args.length cc).toArray el),?_,⟨some ⟨X.heap.size,0,none⟩,1,rfl,?_⟩,(Below.refl _ _).alloc (Nat.le_refl _) _⟩
     ·simp only [execOp,ho]
      have:=h.b1 X x.kind x.num x.name A x.args.length cc
      rw [←hps] at this
      simp [this]
     ·exact row_new X [(x,A,cc)] el (by simp [maxLen]) fun r hr=>by rw [List.mem_singleton] at hr;subst hr;exact hT
    ·cases hl
   ·rename_i p q hp
    split at hl
    ·rename_i hn;subst hn ht
     obtain ⟨x,hx,hl⟩:=Option.bind_eq_some_iff.1 hl
     obtain ⟨y,hy,rfl⟩:=Option.map_eq_some_iff.1 hl
     obtain ⟨A,cc,hv,hT⟩:=he p _ (tmOf_some hx)
     obtain ⟨B,cd,hw,hU⟩:=he q _ (tmOf_some hy)
     have hps:ps.map (fun (q:Nat×Operand)=>(q.1,a.eval q.2))=#[(0,.agg (c4 x.kind x.num x.name A x.args.length cc).toArray),(1,.agg (c4 y.kind y.num y.name B y.args.length cd).toArray)]:=by
      have:ps=#[(0,Operand.tmp p),(1,Operand.tmp q)]:=Array.toList_inj.1 (by rw [hp])
      rw [this]
      simp only [List.map_toArray,List.map_cons,List.map_nil,hv,hw]
     refine .inl ⟨.slice (some ⟨X.heap.size,0,none⟩) 2 2,X.alloc (.cells (c4 x.kind x.num x.name A x.args.length cc++c4 y.kind y.num y.name B y.args.length cd).toArray el),?_,⟨some ⟨X.heap.size,0,none⟩,2,rfl,?_⟩,(Below.refl _ _).alloc (Nat.le_refl _) _⟩
     ·simp only [execOp,ho]
      have:=h.b2 X x.kind x.num x.name A x.args.length cc y.kind y.num y.name B y.args.length cd
      rw [←hps] at this
      simp [this]
     ·exact row_new X [(x,A,cc),(y,B,cd)] el (by simp [maxLen]) fun r hr=>by
       simp only [List.mem_cons,List.mem_nil_iff,or_false] at hr
       rcases hr with rfl|rfl
       ·exact hT
       ·exact hU
    ·cases hl
   ·cases hl
  ·cases hs
 ·rename_i t ho
  obtain ⟨v,hv,hs⟩:=Option.map_eq_some_iff.1 hs
  injection hs with h1 h2;subst h1
  exact .inl ⟨_,X,by simp [execOp,ho],he t _ hv,Below.refl _ _⟩
 ·rename_i t ho
  obtain ⟨v,hv,hs⟩:=Option.map_eq_some_iff.1 hs
  injection hs with h1 h2;subst h1
  exact .inl ⟨_,X,by simp [execOp,ho],he t _ hv,Below.refl _ _⟩
 ·rename_i c v ho
  split at hs
  ·rename_i b hc hv
   injection hs with hs;injection hs with h1 h2;subst h1
   have e1:a.eval (.tmp c)=.bool true:=he c _ hc
   have e2:a.eval (.tmp v)=.bool b:=he v _ hv
   exact .inl ⟨.bool b,X,by simp [execOp,ho,e1,e2,asBool],rfl,Below.refl _ _⟩
  ·cases hs
 ·cases hs
theorem guard_ok {ops:Array Oper} {env:SEnv} {a:Act} {X:World} {o:Oper} (he:EnvOk X env a) (h:guardS ops env o=true) (hd:∀t s,env.get t=some s→t<a.tmps.size):Region.wanted o (yielded ops a.tmps)=true:=by
 unfold guardS at h
 unfold Region.wanted
 split at h
 ·rename_i hg;rw [hg]
 ·rename_i j want hg
  rw [hg]
  split at h
  ·rename_i d hd'
   split at h
   ·rename_i b hb
    have hv:a.eval (.tmp d)=.bool b:=he d _ hb
    have hz:=hd d _ hb
    have hv2:a.tmps[d]? = some (.bool b):=by
     rw [Array.getElem?_eq_getElem hz]
     unfold Act.eval at hv
     simp only [Array.getD,hz,dite_true] at hv
     exact congrArg some hv
    simp only [yielded,hd',Option.bind_some,hv2]
    simpa using h
   ·cases h
  ·cases h
def putAll:Act→List Oper→List Value→Act
 | a,o::l,v::vs=>putAll (a.put o.dst v) l vs
 | a,_,_=>a
theorem put_len (a:Act) (d:Option Tmp) (v:Value):(a.put d v).tmps.size=a.tmps.size:=by
 cases d <;> simp [Act.put]
theorem runS_ok {P:Program} {C:LawC} {el:TypeId} (hC:LawOk P C el) {ops:Array Oper} {Q:Exit→Act→World→Prop} {sz:Nat}:∀(l:List Oper) (env:SEnv) (obs:List Ob) (env':SEnv) (obs':List Ob) (a:Act) (X:World),
  runS C ops sz l env obs=some (env',obs')→a.tmps.size=sz→EnvOk X env a→(∀t s,env.get t=some s→t<sz)→(∀b∈obs',b.ok) →
  (∀vs Y,vs.length=l.length→Below X.heap.size X Y→EnvOk Y env' (putAll a l vs)→Q .normal (putAll a l vs) Y)→wpList P ops Q l a X
 | [],env,obs,env',obs',a,X,hr,hz,he,hl,ho,hq=>by
  unfold runS at hr
  injection hr with hr;injection hr with h1 h2;subst h1
  exact hq [] X rfl (Below.refl _ _) he
 | o::l,env,obs,env',obs',a,X,hr,hz,he,hl,ho,hq=>by
  unfold runS at hr
  split at hr
  ·rename_i d hd
   split at hr
   ·rename_i hg
    rw [Bool.and_eq_true,decide_eq_true_iff] at hg
    split at hr
    ·rename_i s ob hs
     have hsub:∀(l:List Oper) (env env':SEnv) (obs obs':List Ob),runS C ops sz l env obs=some (env',obs')→∀b∈obs,b∈obs':=by
      intro l
      induction l with
      | nil=>intro env env' obs obs' h b hb;unfold runS at h;injection h with h;injection h with h1 h2;rw [←h2];exact hb
      | cons o l ih=>
       intro env env' obs obs' h b hb
       unfold runS at h
       split at h
       ·split at h
        ·split at h
         ·exact ih _ _ _ _ h b (List.mem_append_left _ hb)
         ·cases h
        ·cases h
       ·cases h
     have hstep:=step_ok hC he hs fun b hb=>ho b (hsub _ _ _ _ _ hr b (List.mem_append_right _ hb))
     have hw:=guard_ok (o:=o) he hg.2 fun t s h=>by rw [hz];exact hl t s h
     unfold wpList
     rw [if_pos hw]
     refine .inl (hstep.wp fun v Y hv=>?_)
     refine runS_ok hC l _ _ env' obs' (a.put o.dst v) Y hr (by rw [put_len,hz]) (by rw [hd];exact he.put hv.2 (by rw [hz];exact hg.1) hv.1) (fun t s' h=>?_) ho fun vs Z hvs hB hE=>?_
     ·unfold SEnv.get at h
      rw [List.lookup_cons] at h
      split at h
      ·rename_i e;rw [beq_iff_eq] at e;rw [e];exact hg.1
      ·exact hl t s' h
     ·have:=hq (v::vs) Z (by simp [hvs]) (hv.2.trans (hB.mono hv.2.size)) hE
      exact this
    ·cases hr
   ·cases hr
  ·cases hr
theorem putAll_fill:∀(l:List Oper) (vs:List Value) (k:Nat) (val:Nat→Value) (t:List Value) (df:List Deferred),vs.length=l.length→(∀i (h:i<vs.length),val (k+i)=vs[i])→putAll ⟨t.toArray,df⟩ l vs=⟨(fillD (l.map (·.dst)) k val t).toArray,df⟩
 | [],vs,k,val,t,df,hl,hv=>by cases vs <;> rfl
 | o::l,[],k,val,t,df,hl,hv=>by simp at hl
 | o::l,v::vs,k,val,t,df,hl,hv=>by
  have h0:val k=v:=hv 0 (by simp)
  have ih:=fun t=>putAll_fill l vs (k+1) val t df (by simpa using hl) fun i h=>by
   have:=hv (i+1) (by simpa using h)
   rw [show k+1+i=k+(i+1) by omega];exact this
  rw [putAll,List.map_cons]
  cases o.dst with
  | none=>exact ih t
  | some d=>
   rw [fillD,h0,←ih]
   simp [Act.put]
theorem putAll_last:∀(l:List Oper) (vs:List Value) (a:Act) (d:Tmp),vs.length=l.length→(l.getLast?.bind (·.dst))=some d→d<a.tmps.size→(putAll a l vs).eval (.tmp d)=vs.getD (l.length-1) undef
 | [],vs,a,d,hl,h,hz=>by simp at h
 | o::l,[],a,d,hl,h,hz=>by simp at hl
 | [o],[v],a,d,hl,h,hz=>by
  have h:o.dst=some d:=by simpa using h
  rw [putAll,h]
  show (a.put (some d) v).eval (.tmp d)=v
  exact eval_put_same hz
 | [o],v::u::vs,a,d,hl,h,hz=>by simp at hl
 | o::p::l,v::vs,a,d,hl,h,hz=>by
  rw [putAll,putAll_last (p::l) vs (a.put o.dst v) d (by simpa using hl) (by simpa using h) (by rw [put_len];exact hz)]
  simp
theorem law_region {P:Program} {C:LawC} {el:TypeId} (hC:LawOk P C el) {id:Nat} {ops:Array Oper} {Q:Exit→Act→World→Prop} {t:List Value} {df:List Deferred} {X:World} (ds:List (Option Tmp)) (d:Tmp) (b:Bool) (obs:List Ob)
  (hd:ops.toList.map (·.dst)=ds) (hl:ops.toList.getLast?.bind (·.dst)=some d) (hr:(runS C ops t.length ops.toList [] []).map (fun p=>(p.1.head?,p.2))=some (some (d,.bl b),obs)) (hz:d<t.length) (ho:∀b∈obs,b.ok)
  (hend:∀val Y,val (ds.length-1)=.bool b→Below X.heap.size X Y→Q .normal ⟨(fillD ds 0 val t).toArray,df⟩ Y):(Code.region id ops false).wp P Q ⟨t.toArray,df⟩ X:=by
 refine wp_region_list ?_
 obtain ⟨p,hp,he⟩:=Option.map_eq_some_iff.1 hr
 injection he with h1 h2
 subst h2
 refine runS_ok (Q:=Q) hC ops.toList [] [] p.1 p.2 ⟨t.toArray,df⟩ X hp (by simp) (fun t s h=>by cases h) (fun t s h=>by cases h) ho fun vs Y hvs hB hE=>?_
 have e1:=putAll_fill ops.toList vs 0 (fun i=>vs.getD i undef) t df hvs fun i h=>by
  rw [Nat.zero_add,List.getD_eq_getElem?_getD,List.getElem?_eq_getElem h];rfl
 rw [hd] at e1
 have e2:(putAll ⟨t.toArray,df⟩ ops.toList vs).eval (.tmp d)=.bool b:=by
  refine hE d (.bl b) ?_
  cases hq:p.1 with
  | nil=>rw [hq] at h1;cases h1
  | cons y l=>
   rw [hq] at h1
   injection h1 with h1
   subst h1
   unfold SEnv.get
   rw [List.lookup_cons,beq_self_eq_true]
 rw [putAll_last _ _ _ d hvs hl (by simpa using hz)] at e2
 rw [e1]
 refine hend _ Y ?_ hB
 rw [←hd,List.length_map]
 exact e2
end Hb
namespace Go.Proofs.YtbojljpldcijgaaGreat
open Go.RowKit Hb
set_option maxRecDepth 100000
def lawC:LawC:=⟨24,27,26,19,25,28,28⟩
theorem lawOk:LawOk Tryz.prog lawC 30 where
 en:=fun f hf args W=>by rcases hf with rfl|rfl|rfl|rfl|rfl|rfl <;> rfl
 x:=l_x
 n:=l_n
 a:=l_a
 f:=l_f
 g:=fun s t A c W hs hT h=>by
  have:=l_gives s t A c W hs hT
  rw [h] at this
  exact this
 w:=fun s k W hs h=>by
  have:=l_wrong s k W hs
  rw [h] at this
  exact this
 b1:=fun X k n s A l c=>by simp [lawC,c4,go_sem]
 b2:=fun X k n s A l c k' n' s' A' l' c'=>by simp [lawC,c4,go_sem]
end Go.Proofs.YtbojljpldcijgaaGreat
