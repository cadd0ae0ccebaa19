/- Parts of the proof. -/
import Derived.WalkKit
import Derived.WalkSpells
import Derived.WalkLawsBesides
import Derived.LoopTactic
import Derived.Outline
import Derived.Lib.Hide
import Derived.Deep.QuietTactic
import Derived.BigQuiet
import Derived.Laws.Strings
import Derived.Maps.AppendAt
import Derived.Deep.DeepMust
import Derived.Sort.Walk0
import Derived.Test.YtbojljpldcijgaaGreatProg
import Derived.LoopN
import Derived.Deep.RegionHeld3
set_option maxHeartbeats 12800000
set_option maxRecDepth 100000
open Bool renaming and_eq_true -> bN
open ByteArray.toList renaming loop -> fe
open Go renaming Calls -> aU, Program -> dO, TypeId -> cH, Value -> aC, World -> au, bodyPost_ret -> aw, maxLen -> bF, wpList -> cq
open Go.Ending renaming returned -> aD
open Go.IntKind renaming i64 -> ab
open Go.Lib renaming hid -> dw
open Go.Proofs.Tryz renaming prog -> am
open Go.RowKit renaming Below -> aB
open Go.RowKit.Below renaming refl -> ap
open Go.Value renaming bool -> av, int -> aa, ownBlock -> eJ, pointer -> ar, string -> ac, tuple -> aJ
open Go.World renaming cell?_alloc_new -> aF, cell?_of_block -> bd, grownBy_alloc -> dY
open List renaming all_eq_true -> cx, drop_eq_getElem_cons -> eC, drop_of_length_le -> fG, eq_nil_of_length_eq_zero -> cU, getD_eq_getElem?_getD -> bt, getElem?_eq_getElem -> bi, getElem_mem -> bW, length_drop -> aN, mem_range -> dG, range -> aM
open Nat renaming add_zero -> bj, le_of_lt -> eX, le_refl -> ae, le_trans -> aQ, lt_of_lt_of_le -> aA, lt_or_ge -> dn, lt_trans -> ib, zero_le -> bc
namespace Hb
open Go Go.RowKit
theorem dl {k:IntKind} {a b:Int} (h:a=b):Ending.returned (aa k a)=aD (aa k b):=by rw [h]
theorem bY {a b:Bool} (h:a=b):Ending.returned (av a)=aD (av b):=by rw [h]
theorem zU {a b:ByteArray} (h:a=b):Ending.returned (ac a)=aD (ac b):=by rw [h]
theorem mI {k:IntKind} {a c:Int} {b d:Bool} (h:a=c) (e:b=d):Ending.returned (aJ #[aa k a,av b])=aD (aJ #[aa k c,av d]):=by rw [h,e]
theorem vF {a b:aC} (h:a=b):Ending.returned a=aD b:=by rw [h]
theorem fh {P:dO} {f:FuncId} {args:Array aC} {w:au} {n:Nat} {v:aC}
  (h:aU P f args (w.drewN n) fun e w'=>e=aD v/\w.drewN n=w'):aU P f args (w.drewN n) fun e a=>e=aD v/\∃m,a=w.drewN m :=
 h.mono fun _ _ ⟨he,hm⟩=>⟨he,n,hm.symm⟩
theorem dF {B:Nat} {a w:au} (h:aB B a w) (n:Nat):aB B a (w.drewN n):=h.trans ⟨rfl,rfl,rfl,ae _,fun _ _=>rfl⟩
theorem ci (s:ByteArray):s.data.toList.length=s.size:=by simp
def byteCells (l:List UInt8):List aC:=l.map fun b=>aa .u8 (b.toNat:Int)
theorem qd (l:List UInt8) (b:UInt8):byteCells (l++[b])=byteCells l++[aa .u8 (b.toNat:Int)]:=by simp [byteCells]
theorem qD (l:List UInt8):(byteCells l).length=l.length:=by simp [byteCells]
theorem iZ {P:dO} (w:au) (b a e:cH) (h:P.underlying b=some (.slice e)) (c:P.underlying e=some (.int .u8)) (hd:P.underlying a=some .string)
  (i:Nat) (v:aC) (n:Nat) (l:List UInt8) (f:w.ownsRow i e 1 v n (byteCells l)) :
  (convert b a v).run P w=.ok (ac ⟨l.toArray⟩) w:=by
 have d:=f.1
 rw [qD,Nat.mul_one] at d
 rcases f.2 with ⟨rfl,t⟩ | ⟨g,k,m,rfl,_,q,u,_,x,s⟩
 ·have:l=[]:=cU (by omega)
  subst this
  exact run_convert_bytes_nil w b e h c _ _ a hd
 ·subst d
  refine run_convert_bytes_back w b a e ⟨g,0,none⟩ k l h c hd fun j r=>?_
  have o:(⟨g,0,none⟩:Addr).add j=⟨g,j,none⟩:=by unfold Addr.add;split <;> simp_all
  rw [o]
  have p:m.toList[j]? = some (aa .u8 (l[j].toNat:Int)):=by
   have:(byteCells l)[j]? = some (aa .u8 (l[j].toNat:Int)):=by simp [byteCells,bi r]
   rw [<-s,List.getElem?_take_of_lt (by omega)] at this
   exact this
  show World.cell? w _=_
  unfold World.cell?
  simp only [q]
  simpa using p
theorem dQ {P:dO} (b a e:cH) (f:P.underlying b=some (.slice e)) (c:P.underlying e=some (.int .u8)) (hd:P.underlying a=some .string)
  (n:Int) (g:0<=n) (h:n<=255) (w:au):(convert b a (.slice (some ⟨w.heap.size,0,none⟩) 1 1)).run P (w.alloc (.cells #[aa .u8 n] e))=.ok (ac ⟨#[n.toNat.toUInt8]⟩) (w.alloc (.cells #[aa .u8 n] e)):=by
 refine run_convert_bytes_back (w.alloc (.cells #[aa .u8 n] e)) b a e ⟨w.heap.size,0,none⟩ 1 [n.toNat.toUInt8] f c hd fun j d=>?_
 have:j=0:=by simp at d;omega
 subst this
 show (w.alloc (.cells #[aa .u8 n] e)).cell? ⟨w.heap.size,0,none⟩=_
 rw [aF]
 simp;omega
theorem eS {P:dO} {w:au} {r:Array Oper} {y:List Oper} {o:Oper} {a:Act} {Q:Exit->Act->au->Prop} (F:o.guard=none) (s x:Operand) (t e:cH)
  (I:o.op=.call { callee:=.builtin .append,args:=#[s,x],argTypes:=#[t,t] }) (M:P.underlying t=some (.slice e)) (z:aC) (size f:Nat)
  (H:(P.info? e).map (fun i=>(i.zero,i.size,i.bytes))=some (some z,size,f)) (V:z.cells.size=size) (L:0<size)
  (b:Nat) (v:aC) (n:Nat) (l:List aC) (K:a.eval s=v) (W:au) (q:W.ownsRow b e size v n l) (c:Array aC) (E:c.size=size) (B:∀u∈c.toList,u.oneCell'=true)
  (O:w=W.alloc (.cells c e)) (R:a.eval x=.slice (some ⟨W.heap.size,0,none⟩) 1 1) (Z:n+1<=4611686018427387904) (D:(n+1) * f<=140737488355328) (C:b<=W.heap.size)
  (h:∀d w',w'.ownsRow b e size d (n+1) (l++c.toList)->aB b W w'->w.grownBy w' v.ownBlock->cq P r Q y (a.put o.dst d) w'):cq P r Q (o::y) a w:=by
 subst O
 obtain ⟨i,G,S,T,U⟩:=info_parts H
 refine wpList_append_own _ F s x t I b e i z size f M G S T U V L v n l K (q.alloc _) ⟨W.heap.size,0,none⟩ 1 1 c.toList R (by simp [E]) ?_ B (by unfold bF;omega) D (by simp;omega) ?_
 ·intro j u N
  have A:(⟨W.heap.size,0,none⟩:Addr).add j=⟨W.heap.size,j,none⟩:=by unfold Addr.add;split <;> simp_all
  rw [A,aF]
  simpa using N
 ·intro d w' J m _
  refine h d w' J ?_ m
  refine (((ap b W).alloc C _).grown m (by simp;omega) ?_)
  intro k p
  rcases q.2 with ⟨rfl,_⟩ | ⟨g,X,Y,rfl,a0,_⟩
  ·simp [eJ] at p
  ·simp [eJ] at p;omega
theorem dx {P:dO} {w:au} {f:Array Oper} {g:List Oper} {o:Oper} {a:Act} {Q:Exit->Act->au->Prop} (m:o.guard=none) (s x:Operand) (t e:cH)
  (q:o.op=.call { callee:=.builtin .append,args:=#[s,x],argTypes:=#[t,t] }) (z:P.underlying t=some (.slice e))
  (p:(P.info? e).map (fun i=>(i.zero,i.size,i.bytes))=some (some (aa .u8 0),1,1))
  (b:Nat) (v:aC) (n:Nat) (l:List UInt8) (y:a.eval s=v) (W:au) (u:W.ownsRow b e 1 v n (byteCells l)) (c:Int) (C:0<=c) (D:c<=255)
  (A:w=W.alloc (.cells #[aa .u8 c] e)) (B:a.eval x=.slice (some ⟨W.heap.size,0,none⟩) 1 1) (E:n<=70368744177664) (k:b<=W.heap.size)
  (h:∀d w',w'.ownsRow b e 1 d (n+1) (byteCells (l++[c.toNat.toUInt8]))->aB b W w'->cq P f Q g (a.put o.dst d) w'):cq P f Q (o::g) a w:=by
 refine eS m s x t e q z _ 1 1 p rfl (by decide) b v n _ y W u #[aa .u8 c] rfl (by simp [Value.oneCell']) A B (by omega) (by omega) k fun d w' r j _=>h d w' ?_ j
 rw [qd]
 have:((c.toNat.toUInt8).toNat:Int)=c:=by simp;omega
 rw [this];exact r
def Pairs (w:au) (A:Option Addr) (l:List (Int×Int)):Prop :=
 ∀j (h:j<l.length),∃b off,A=some ⟨b,off,none⟩/\b<w.heap.size/\w.cell? ⟨b,off+j * 2,none⟩=some (aa ab l[j].1)/\w.cell? ⟨b,off+j * 2+1,none⟩=some (aa ab l[j].2)
theorem Pairs.below {w w':au} {A:Option Addr} {l:List (Int×Int)} (h:Pairs w A l) (a:aB w.heap.size w w'):Pairs w' A l:=fun j g=>by
 obtain ⟨b,i,e,c,d,f⟩:=h j g
 exact ⟨b,i,e,aA c a.size,(a.cell (p:=⟨b,_,none⟩) c).trans d,(a.cell (p:=⟨b,_,none⟩) c).trans f⟩
theorem Pairs.nil (w:au) (A:Option Addr):Pairs w A []:=fun j h=>absurd h (by simp)
inductive Tm where
 | mk (kind num:Int) (name:ByteArray) (args:List Tm)
def Tm.kind:Tm->Int | .mk k _ _ _=>k
def Tm.num:Tm->Int | .mk _ n _ _=>n
def Tm.name:Tm->ByteArray | .mk _ _ s _=>s
def Tm.args:Tm->List Tm | .mk _ _ _ l=>l
theorem Tm.ind {P:Tm->Prop} (h:∀t:Tm,(∀a∈t.args,P a)->P t):∀t,P t :=
 Tm.rec (motive_1:=P) (motive_2:=fun l=>∀a∈l,P a) (fun k n s l g=>h (.mk k n s l) g) (fun a f=>by cases f) (fun a l d e b c=>by
  rcases List.mem_cons.1 c with rfl | c
  ·exact d
  ·exact e b c)
inductive TmsK (K:Nat->Prop) (w:au):Option Addr->List Tm->Prop
 | mk (A:Option Addr) (l:List Tm) (F:Nat->Option Addr) (C:Nat->Nat) (hl:l.length<=bF)
  (hc:∀j (hj:j<l.length),∃b off,A=some ⟨b,off,none⟩/\K b/\w.cell? ⟨b,off+j * 4,none⟩=some (aa ab l[j].kind)/\w.cell? ⟨b,off+j * 4+1,none⟩=some (aa ab l[j].num)/\w.cell? ⟨b,off+j * 4+2,none⟩=some (ac l[j].name)/\w.cell? ⟨b,off+j * 4+3,none⟩=some (.slice (F j) l[j].args.length (C j)))
  (hs:∀j (hj:j<l.length),TmsK K w (F j) l[j].args):TmsK K w A l
theorem TmsK.len {K:Nat->Prop} {w:au} {A:Option Addr} {l:List Tm} (h:TmsK K w A l):l.length<=bF:=by cases h;assumption
theorem TmsK.get {K:Nat->Prop} {w:au} {A:Option Addr} {l:List Tm} (h:TmsK K w A l) (j:Nat) (c:j<l.length) :
  ∃b a A' cap',A=some ⟨b,a,none⟩/\K b/\w.cell? ⟨b,a+j * 4,none⟩=some (aa ab l[j].kind)/\w.cell? ⟨b,a+j * 4+1,none⟩=some (aa ab l[j].num)/\w.cell? ⟨b,a+j * 4+2,none⟩=some (ac l[j].name)/\w.cell? ⟨b,a+j * 4+3,none⟩=some (.slice A' l[j].args.length cap')/\TmsK K w A' l[j].args:=by
 cases h with
 | mk A l F C hl hc hs=>
  obtain ⟨b,a,e,k,d,f,g,i⟩:=hc j c
  exact ⟨b,a,F j,C j,e,k,d,f,g,i,hs j c⟩
theorem TmsK.keep {K K':Nat->Prop} {w w':au} {A:Option Addr} {l:List Tm} (h:TmsK K w A l) (k:∀b,K b->w'.heap[b]? = w.heap[b]?) (m:∀b,K b->K' b):TmsK K' w' A l:=by
 induction h with
 | mk A l F C hl hc _ ih=>
  refine .mk A l F C hl (fun j n=>?_) ih
  obtain ⟨b,p,e,c,d,f,g,i⟩:=hc j n
  have a:∀o,w'.cell? ⟨b,o,none⟩=w.cell? ⟨b,o,none⟩:=fun o=>bd (k b c)
  exact ⟨b,p,e,m b c,(a _).trans d,(a _).trans f,(a _).trans g,(a _).trans i⟩
theorem TmsK.nil {K:Nat->Prop} {w:au} {A:Option Addr}:TmsK K w A []:=.mk A [] (fun _=>.none) (fun _=>0) (by decide) (fun j a=>absurd a (by simp)) (fun j a=>absurd a (by simp))
def TmsAt (B:Nat) (w:au) (A:Option Addr) (l:List Tm):Prop:=TmsK (fun b=>b<B) w A l
theorem TmsAt.len {B:Nat} {w:au} {A:Option Addr} {l:List Tm} (h:TmsAt B w A l):l.length<=bF:=TmsK.len h
theorem TmsAt.get {B:Nat} {w:au} {A:Option Addr} {l:List Tm} (h:TmsAt B w A l) (j:Nat) (a:j<l.length) :
  ∃b off A' cap',A=some ⟨b,off,none⟩/\b<B/\w.cell? ⟨b,off+j * 4,none⟩=some (aa ab l[j].kind)/\w.cell? ⟨b,off+j * 4+1,none⟩=some (aa ab l[j].num)/\w.cell? ⟨b,off+j * 4+2,none⟩=some (ac l[j].name)/\w.cell? ⟨b,off+j * 4+3,none⟩=some (.slice A' l[j].args.length cap')/\TmsAt B w A' l[j].args:=TmsK.get h j a
theorem TmsAt.keep {B:Nat} {w w':au} {A:Option Addr} {l:List Tm} (h:TmsAt B w A l) (a:aB B w w'):TmsAt B w' A l:=TmsK.keep h (fun b c=>a.block b c) (fun _ h=>h)
theorem TmsAt.mono {B a:Nat} {w:au} {A:Option Addr} {l:List Tm} (h:TmsAt B w A l) (b:B<=a):TmsAt a w A l:=TmsK.keep h (fun _ _=>rfl) (fun _ h=>aA h b)
theorem TmsK.at {K:Nat->Prop} {w:au} {A:Option Addr} {l:List Tm} (h:TmsK K w A l) (a:∀b,K b->b<w.heap.size):TmsAt w.heap.size w A l:=TmsK.keep h (fun _ _=>rfl) a
def fI (t:Tm) (A:Option Addr) (a:Nat):aC:=.agg #[aa ab t.kind,aa ab t.num,ac t.name,.slice A t.args.length a]
def Tm.nodes:Tm->Nat
 | .mk _ _ _ l=>1+(l.attach.map fun ⟨a,_⟩=>a.nodes).sum
theorem Tm.nodes_eq (t:Tm):t.nodes=1+(t.args.map Tm.nodes).sum:=by
 cases t with
 | mk k n s l=>unfold Tm.nodes Tm.args;simp
def iL (t:Tm):Bool :=
 if t.kind=0 then decide (0<=t.num)&&decide (t.num<=1099511627776)&&t.name.toList==[]&&t.args.length==0
 else if t.kind=1 then t.name.toList==[]&&t.args.length==0
 else if t.kind=2 then t.num==0&&decide (t.name.size<=100)&&t.args.length==0
 else if t.kind=3 then t.num==0&&decide (t.name.size<=100)&&decide (0<t.args.length)&&decide (t.args.length<=8)
 else false
def Tm.allOk:Tm->Bool
 | .mk k n s l=>iL (.mk k n s l)&&l.attach.all fun ⟨a,_⟩=>a.allOk
theorem Tm.allOk_eq (t:Tm):t.allOk=(iL t&&t.args.all Tm.allOk):=by
 cases t with
 | mk k n s l=> 
  have h:l.attach.all (fun x=>x.1.allOk)=(l.attach.map Subtype.val).all Tm.allOk:=by rw [List.all_map];rfl
  rw [List.attach_map_subtype_val] at h
  unfold Tm.allOk
  show (_&&l.attach.all fun x=>x.1.allOk)=(iL _&&l.all Tm.allOk)
  rw [h]
def dZ (t:Tm):Bool:=decide (t.nodes<=2000)&&t.allOk
structure Only (g:Nat) (w w':au):Prop where
 os:w'.os=w.os
 tape:w'.tape=w.tape
 output:w'.output=w.output
 size:w.heap.size<=w'.heap.size
 block:∀k,k<w.heap.size->k≠g->w'.heap[k]? = w.heap[k]?
theorem Only.refl (g:Nat) (w:au):Only g w w:=⟨rfl,rfl,rfl,ae _,fun _ _ _=>rfl⟩
theorem Only.trans {g:Nat} {a b c:au} (h:Only g a b) (k:Only g b c):Only g a c :=
 ⟨k.os.trans h.os,k.tape.trans h.tape,k.output.trans h.output,aQ h.size k.size,fun i e d=>(k.block i (aA e h.size) d).trans (h.block i e d)⟩
theorem Only.of {g:Nat} {a b:au} (h:aB a.heap.size a b):Only g a b:=⟨h.os,h.tape,h.output,h.size,fun k c _=>h.block k c⟩
theorem Only.below {g B:Nat} {a b:au} (h:Only g a b) (c:B<=g) (e:B<=a.heap.size):aB B a b:=⟨h.os,h.tape,h.output,h.size,fun k d=>h.block k (by omega) (by omega)⟩
theorem Only.cell {g:Nat} {a b:au} (h:Only g a b) {p:Addr} (d:p.block<a.heap.size) (c:p.block≠g):b.cell? p=a.cell? p:=bd (h.block _ d c)
theorem Only.set (g o:Nat) (w:au) (v:aC):Only g w (w.setCell ⟨g,o,none⟩ v):=⟨rfl,rfl,rfl,by simp,fun k _ a=>heap_setCell_other w ⟨g,o,none⟩ k v (fun e=>a (by simp [e]))⟩
theorem Only.alloc (g:Nat) (w:au) (o:Obj):Only g w (w.alloc o):=.of ((ap _ _).alloc (ae _) o)
theorem sI (s:ByteArray):∀(d i:Nat) (r:List UInt8),s.size-i=d->fe s i r=r.reverse++s.data.toList.drop i
 | 0,i,r,h=>by
  unfold fe
  rw [if_neg (by omega),fG (by simp;omega)];simp
 | d+1,i,r,h=>by
  have a:i<s.size:=by omega
  have b:i<s.data.toList.length:=by simpa using a
  unfold fe
  rw [if_pos a,sI s d (i+1) _ (by omega),eC b]
  simp [ByteArray.get!,a]
  first | rfl | (have:s.data[i]! = s.data[i]:=getElem!_pos s.data i a;simp [this]) | skip
theorem jW (s:ByteArray):s.toList=s.data.toList:=by
 unfold ByteArray.toList
 rw [sI s _ 0 [] rfl];simp
structure OpR where
 name:ByteArray
 typ:Int
 prec:Int
deriving Inhabited,DecidableEq
def fd (o:OpR):List aC:=[ac o.name,aa ab o.typ,aa ab o.prec]
def jK (o:OpR):aC:=.agg #[ac o.name,aa ab o.typ,aa ab o.prec]
def dH (t:Int):Int:=if t<1 then 0 else if t<=3 then 2 else if t<=5 then 1 else if t<=7 then 3 else 0
def xv (a b:ByteArray):Int:=if Op.bytesLess a.toList b.toList=true then -1 else if (!a.toList==b.toList)=true then 1 else 0
def vj (a b:Int):Int:=if a<b then -1 else if b<a then 1 else 0
def BQ (a b:Int):Int:=if a=0 then b else a
def jB (a b:OpR):Int:=BQ (xv a.name b.name) (vj (dH a.typ) (dH b.typ))
def BT (o:OpR) (l:List UInt8):Bool:=o.name.toList==l
def mu (o:OpR):Bool :=
 if decide (100<(o.name.size:Int))||(dH o.typ==0||(decide (o.prec<1)||decide (1200<o.prec))) then false
 else if BT o [91,93]||BT o [123,125] then false
 else if BT o [44] then o.typ==2&&o.prec==1000
 else if BT o [124] then dH o.typ==2&&decide (1001<=o.prec)
 else true
def sf (a b:OpR):Bool:=decide (jB a b<0) && !(a.name.toList==b.name.toList&&dH a.typ==2)
def xj (l:List OpR) (j:Nat):Bool:=mu (l.getD j default)&&(j==0||sf (l.getD (j-1) default) (l.getD j default))
def ea (l:List OpR):Bool:=decide (l.length<=100)&&(aM l.length).all (xj l)
theorem oy (l:List OpR) (k:Nat) (a:k<l.length) (h:xj l k=false):ea l=false:=by
 unfold ea
 rw [Bool.and_eq_false_iff]
 refine .inr ?_
 rw [List.all_eq_false]
 exact ⟨k,dG.2 a,by simp [h]⟩
theorem jr (l:List OpR) (h:100<l.length):ea l=false:=by
 unfold ea
 rw [Bool.and_eq_false_iff]
 exact .inl (by simpa using h)
theorem nj (l:List OpR) (b:l.length<=100) (h:∀j,j<l.length->xj l j=true):ea l=true:=by
 unfold ea
 rw [bN,cx]
 exact ⟨by simpa using b,fun j a=>h j (dG.1 a)⟩
theorem lU (l:List OpR) (h:ea l=true):l.length<=100/\∀j,j<l.length->xj l j=true:=by
 unfold ea at h
 rw [bN,cx] at h
 exact ⟨by simpa using h.1,fun j a=>h.2 j (dG.2 a)⟩
theorem nC (l:List OpR) (j:Nat) (h:j<l.length):l.getD j default=l[j]:=by rw [bt,bi h];rfl
def je (a b:OpR):Bool:=if (a.name.toList==b.name.toList)=true then decide (dH a.typ<dH b.typ) else Op.bytesLess a.name.toList b.name.toList
theorem zh (a b:Int):vj a b<0↔a<b:=by unfold vj;grind
theorem od:∀(l:List UInt8),Op.bytesLess l l=false:=by
 intro l
 rw [Go.Proofs.bytesLess_eq]
 simp
theorem og (a b:OpR):je a b=decide (jB a b<0):=by
 unfold je jB BQ xv
 by_cases h:a.name.toList=b.name.toList
 ·rw [h,od]
  simp [zh]
 ·have c:(a.name.toList==b.name.toList)=false:=by simpa using h
  rw [c]
  cases h3:Op.bytesLess a.name.toList b.name.toList <;> simp
theorem yz (a b:OpR):sf a b=(je a b && !(a.name.toList==b.name.toList&&(dH a.typ==2&&dH b.typ==3))):=by
 rw [og]
 unfold sf
 cases h:decide (jB a b<0)
 ·rfl
 ·rw [<-og] at h
  unfold je at h
  cases h2:(a.name.toList==b.name.toList)
  ·rfl
  ·rw [h2,if_pos rfl] at h
   have c:dH a.typ<dH b.typ:=by simpa using h
   have d:dH b.typ<=3:=by unfold dH;grind
   cases h5:(dH a.typ==2)
   ·rfl
   ·have:dH a.typ=2:=by simpa using h5
    have:dH b.typ=3:=by omega
    simp [this]
end Hb
namespace Hb
theorem BG (t:Int):(t<1/\dH t=0)\/(8<=t/\dH t=0)\/(t=1/\dH t=2)\/(t=2/\dH t=2)\/(t=3/\dH t=2)\/(t=4/\dH t=1)\/(t=5/\dH t=1)\/(t=6/\dH t=3)\/(t=7/\dH t=3):=by
 unfold dH
 grind
end Hb
namespace Go.Proofs.YtbojljpldcijgaaGreat
open Go.RowKit Hb
theorem vM (a:ByteArray) (w:au):aU am 165 #[ac a] w fun e w'=>e=aD (av false)/\w'=w:=by
 go_enter Tryz.func165,Tryz.ntmps165
 go_wp2_with fail
 go_ret
 exact ⟨rfl,rfl⟩
theorem vN (a:Int) (w:au):aU am 166 #[aa ab a] w fun e w'=>e=aD (av false)/\w'=w:=by
 go_enter Tryz.func166,Tryz.ntmps166
 go_wp2_with fail
 go_ret
 exact ⟨rfl,rfl⟩
theorem As (a b:ByteArray) (w:au):aU am 119 #[ac a,ac b] w fun e w'=>e=aD (aa ab (xv a b))/\w'=w:=by
 go_enter Tryz.func119,Tryz.ntmps119
 go_wp2_with (first | (go_at_call 165;first | ((with_reducible refine (vM a _).mono ?_);rintro e c ⟨rfl,rfl⟩) | ((with_reducible refine (vM b _).mono ?_);rintro e c ⟨rfl,rfl⟩)))
 all_goals go_ret
 all_goals refine ⟨dl ?_,rfl⟩
 all_goals unfold xv
 all_goals simp_all
theorem Aw (a b:Int) (w:au):aU am 120 #[aa ab a,aa ab b] w fun e w'=>e=aD (aa ab (vj a b))/\w'=w:=by
 go_enter Tryz.func120,Tryz.ntmps120
 go_wp2_with (first | (go_at_call 166;first | ((with_reducible refine (vN a _).mono ?_);rintro e c ⟨rfl,rfl⟩) | ((with_reducible refine (vN b _).mono ?_);rintro e c ⟨rfl,rfl⟩)))
 all_goals go_ret
 all_goals refine ⟨dl ?_,rfl⟩
 all_goals unfold vj
 all_goals grind
theorem lV (t:Int) (w:au):aU am 76 #[aa ab t] w fun e w'=>e=aD (aa ab (dH t))/\aB w.heap.size w w'/\w.drawn<=w'.drawn:=by
 rcases BG t with ⟨h,e⟩ | ⟨h,e⟩ | ⟨rfl,e⟩ | ⟨rfl,e⟩ | ⟨rfl,e⟩ | ⟨rfl,e⟩ | ⟨rfl,e⟩ | ⟨rfl,e⟩ | ⟨rfl,e⟩
 all_goals rw [e]
 all_goals clear e
 all_goals go_enter Tryz.func76,Tryz.ntmps76
 all_goals go_wp2_with fail
 all_goals go_ret
 all_goals exact ⟨rfl,(ap _ _).alloc (ae _) _,ae _⟩
theorem tq (t:Int) (w:au):aU am 76 #[aa ab t] w fun e w'=>e=aD (aa ab (dH t))/\aB w.heap.size w w' :=
 (lV t w).mono fun _ _ ⟨he,hb,_⟩=>⟨he,hb⟩
theorem BD (a b:Int) (w:au) (W:au) (e:cH) (f:W=w.alloc (.cells #[aa ab a,aa ab b] e)):aU am 118 #[.slice (some ⟨w.heap.size,0,none⟩) 2 2] W fun e w'=>e=aD (aa ab (BQ a b))/\w'=W:=by
 have i:W.cell? ⟨w.heap.size,0,none⟩=some (aa ab a):=by rw [f];exact aF _ _ _ 0
 have j:W.cell? ⟨w.heap.size,1,none⟩=some (aa ab b):=by rw [f];exact aF _ _ _ 1
 clear f
 by_cases c:a=0
 ·subst c
  by_cases g:b=0
  ·subst g
   go_enter Tryz.func118,Tryz.ntmps118
   go_wp2_with fail
   refine wp_loop_rounds 3 ?_
   iterate 3
    rw [rounds_succ]
    go_wp2_with fail
   go_ret
   exact ⟨dl rfl,rfl⟩
  ·have h:(b==0)=false:=by simpa using g
   have d:BQ 0 b=b:=rfl
   go_enter Tryz.func118,Tryz.ntmps118
   go_wp2_with fail
   refine wp_loop_rounds 2 ?_
   iterate 2
    rw [rounds_succ]
    go_wp2_with fail
   go_ret
   exact ⟨dl d.symm,rfl⟩
 ·have h:(a==0)=false:=by simpa using c
  have d:BQ a b=a:=if_neg c
  go_enter Tryz.func118,Tryz.ntmps118
  go_wp2_with fail
  refine wp_loop_rounds 1 ?_
  rw [rounds_succ]
  go_wp2_with fail
  go_ret
  exact ⟨dl d.symm,rfl⟩
end Go.Proofs.YtbojljpldcijgaaGreat
namespace Hb
open Go Go.RowKit
structure CmpHeld (w0 w:au) (a b:OpR):Prop where
 bel:aB w0.heap.size w0 w
 lt:w0.heap.size+1<w.heap.size
 dr:w0.drawn<=w.drawn
 a0:w.cell? ⟨w0.heap.size,0,none⟩=some (ac a.name)
 a1:w.cell? ⟨w0.heap.size,1,none⟩=some (aa ab a.typ)
 b0:w.cell? ⟨w0.heap.size+1,0,none⟩=some (ac b.name)
 b1:w.cell? ⟨w0.heap.size+1,1,none⟩=some (aa ab b.typ)
section
variable {w0 w w':au} {a b:OpR}
theorem CmpHeld.keep (h:CmpHeld w0 w a b):w.cell? ⟨w0.heap.size,0,none⟩=some (ac a.name)/\w.cell? ⟨w0.heap.size,1,none⟩=some (aa ab a.typ)/\w.cell? ⟨w0.heap.size+1,0,none⟩=some (ac b.name)/\w.cell? ⟨w0.heap.size+1,1,none⟩=some (aa ab b.typ)/\CmpHeld w0 w a b:=⟨h.a0,h.a1,h.b0,h.b1,h⟩
theorem CmpHeld.of (h:w.cell? ⟨w0.heap.size,0,none⟩=some (ac a.name)/\w.cell? ⟨w0.heap.size,1,none⟩=some (aa ab a.typ)/\w.cell? ⟨w0.heap.size+1,0,none⟩=some (ac b.name)/\w.cell? ⟨w0.heap.size+1,1,none⟩=some (aa ab b.typ)/\CmpHeld w0 w a b):CmpHeld w0 w a b:=h.2.2.2.2
theorem CmpHeld.call (c:aB w.heap.size w w') (d:w.drawn<=w'.drawn) (h:CmpHeld w0 w a b):CmpHeld w0 w' a b where
 bel:=h.bel.trans (c.mono (by have:=h.lt;omega))
 lt:=aA h.lt c.size
 dr:=aQ h.dr d
 a0:=(c.cell (p:=⟨_,_,none⟩) (by have:=h.lt;show w0.heap.size<_;omega)).trans h.a0
 a1:=(c.cell (p:=⟨_,_,none⟩) (by have:=h.lt;show w0.heap.size<_;omega)).trans h.a1
 b0:=(c.cell (p:=⟨_,_,none⟩) h.lt).trans h.b0
 b1:=(c.cell (p:=⟨_,_,none⟩) h.lt).trans h.b1
theorem CmpHeld.drew (h:CmpHeld w0 w a b):CmpHeld w0 w.drew a b:=h.call (ap w.heap.size w).drew (Nat.le_succ _)
theorem CmpHeld.alloc (h:CmpHeld w0 w a b) (o:Obj):CmpHeld w0 (w.alloc o) a b:=h.call ((ap w.heap.size w).alloc (ae _) o) (ae _)
theorem CmpHeld.start (w:au) (a b:OpR) (e:cH):CmpHeld w ((w.alloc (.cells #[ac a.name,aa ab a.typ,aa ab a.prec] e)).alloc (.cells #[ac b.name,aa ab b.typ,aa ab b.prec] e)) a b where
 bel:=((ap _ _).alloc (ae _) _).alloc (by simp) _
 lt:=by simp
 dr:=ae _
 a0:=(dY _ _ none).cell (aF _ _ _ 0) (by simp)
 a1:=(dY _ _ none).cell (aF _ _ _ 1) (by simp)
 b0:=by
  rw [show w.heap.size+1=(w.alloc (.cells #[ac a.name,aa ab a.typ,aa ab a.prec] e)).heap.size by simp]
  exact aF _ _ _ 0
 b1:=by
  rw [show w.heap.size+1=(w.alloc (.cells #[ac a.name,aa ab a.typ,aa ab a.prec] e)).heap.size by simp]
  exact aF _ _ _ 1
end
end Hb
namespace Go.Proofs.YtbojljpldcijgaaGreat
open Go.RowKit Hb
theorem mA (a b:OpR) (w:au):aU am 75 #[jK a,jK b] w fun e w'=>e=aD (aa ab (jB a b))/\aB w.heap.size w w'/\w.drawn<=w'.drawn:=by
 unfold jK
 have f:=dw (show jB a b=BQ (xv a.name b.name) (vj (dH a.typ) (dH b.typ)) from rfl)
 have d:=CmpHeld.start w a b 61
 go_enter Tryz.func75,Tryz.ntmps75
 go_wp2_with fail
 go_region_held3 (fun w'=>w'.cell? ⟨w.heap.size,0,none⟩=some (ac a.name)/\w'.cell? ⟨w.heap.size,1,none⟩=some (aa ab a.typ)/\w'.cell? ⟨w.heap.size+1,0,none⟩=some (ac b.name)/\w'.cell? ⟨w.heap.size+1,1,none⟩=some (aa ab b.typ)/\CmpHeld w w' a b)
  (first | with_reducible exact d.drew.keep | with_reducible exact CmpHeld.keep (CmpHeld.of (by with_reducible assumption)) | with_reducible exact CmpHeld.keep (CmpHeld.call (by with_reducible assumption) (by with_reducible assumption) (CmpHeld.of (by with_reducible assumption))) | with_reducible exact CmpHeld.keep (CmpHeld.alloc (CmpHeld.of (by with_reducible assumption)) _))
  (first
   | (go_at_call 119;(with_reducible refine (As a.name b.name _).mono ?_);rintro e c ⟨rfl,rfl⟩)
   | (go_at_call 76;first | ((with_reducible refine (lV a.typ _).mono ?_);rintro e c ⟨rfl,g,h⟩) | ((with_reducible refine (lV b.typ _).mono ?_);rintro e c ⟨rfl,g,h⟩))
   | (go_at_call 120;(with_reducible refine (Aw (dH a.typ) (dH b.typ) _).mono ?_);rintro e c ⟨rfl,rfl⟩)
   | (go_at_call 118;(with_reducible refine (BD (xv a.name b.name) (vj (dH a.typ) (dH b.typ)) _ _ _ rfl).mono ?_);rintro e c ⟨rfl,rfl⟩))
 all_goals go_wp2_with fail
 all_goals go_ret
 all_goals exact ⟨dl f.out.symm,CmpHeld.bel (CmpHeld.of (by with_reducible assumption)),CmpHeld.dr (CmpHeld.of (by with_reducible assumption))⟩
theorem uL (a b:OpR) (w:au):aU am 75 #[jK a,jK b] w fun e w'=>e=aD (aa ab (jB a b))/\aB w.heap.size w w' :=
 (mA a b w).mono fun _ _ ⟨he,hb,_⟩=>⟨he,hb⟩
end Go.Proofs.YtbojljpldcijgaaGreat
namespace Hb
open Go Go.RowKit
structure BoxAt (w0 w:au) (o:OpR):Prop where
 bel:aB w0.heap.size w0 w
 lt:w0.heap.size<w.heap.size
 c0:w.cell? ⟨w0.heap.size,0,none⟩=some (ac o.name)
 c1:w.cell? ⟨w0.heap.size,1,none⟩=some (aa ab o.typ)
 c2:w.cell? ⟨w0.heap.size,2,none⟩=some (aa ab o.prec)
theorem BoxAt.call {w0 w w':au} {o:OpR} (h:BoxAt w0 w o) (a:aB w.heap.size w w'):BoxAt w0 w' o where
 bel:=h.bel.trans (a.mono (eX h.lt))
 lt:=aA h.lt a.size
 c0:=(a.cell (p:=⟨_,_,none⟩) h.lt).trans h.c0
 c1:=(a.cell (p:=⟨_,_,none⟩) h.lt).trans h.c1
 c2:=(a.cell (p:=⟨_,_,none⟩) h.lt).trans h.c2
theorem BoxAt.start (w:au) (o:OpR) (e:cH):BoxAt w (w.alloc (.cells #[ac o.name,aa ab o.typ,aa ab o.prec] e)) o where
 bel:=(ap _ _).alloc (ae _) _
 lt:=by simp
 c0:=aF _ _ _ 0
 c1:=aF _ _ _ 1
 c2:=aF _ _ _ 2
end Hb
namespace Go.Proofs.YtbojljpldcijgaaGreat
open Go.RowKit Hb
theorem lk {w0 w:au} {o:OpR} (h:BoxAt w0 w o) (t:Int):aU am 76 #[aa ab t] w fun e w'=>e=aD (aa ab (dH t))/\BoxAt w0 w' o :=
 (tq t w).mono fun _ _ ⟨he,hb⟩=>⟨he,h.call hb⟩
theorem tp (o:OpR) (w:au):aU am 83 #[jK o] w fun e w'=>e=aD (av (mu o))/\aB w.heap.size w w':=by
 have g:=BoxAt.start w o 61
 have b:=dw (show mu o=_ from rfl)
 unfold jK
 go_enter Tryz.func83,Tryz.ntmps83
 go_wp2_with (first | (go_at_call 76;(with_reducible refine (lk (by with_reducible assumption) o.typ).mono ?_);rintro e h ⟨rfl,a⟩;have c:=a.c0;have d:=a.c1;have f:=a.c2))
 all_goals go_ret
 all_goals refine ⟨bY ?_,BoxAt.bel (o:=o) (by with_reducible assumption)⟩
 all_goals unfold mu BT
 all_goals grind
theorem jh (t:Int) (w:au):aU am 101 #[aa ab t] w fun e w'=>e=aD (aa ab (dH t))/\w'=w:=by
 go_enter Tryz.func101,Tryz.ntmps101
 go_wp2_with fail
 all_goals go_ret
 all_goals refine ⟨dl ?_,rfl⟩
 all_goals unfold dH
 all_goals grind
end Go.Proofs.YtbojljpldcijgaaGreat
namespace Hb
open Go Go.RowKit
def OpsAt (w:au) (A:Option Addr) (l:List OpR):Prop :=
 ∀j (h:j<l.length),∃b off,A=some ⟨b,off,none⟩/\b<w.heap.size/\w.cell? ⟨b,off+j * 3,none⟩=some (ac l[j].name)/\w.cell? ⟨b,off+j * 3+1,none⟩=some (aa ab l[j].typ)/\w.cell? ⟨b,off+j * 3+2,none⟩=some (aa ab l[j].prec)
theorem OpsAt.nil (w:au) (A:Option Addr):OpsAt w A []:=fun _ h=>absurd h (by simp)
theorem OpsAt.below {w w':au} {A:Option Addr} {l:List OpR} (h:OpsAt w A l) (a:aB w.heap.size w w'):OpsAt w' A l:=fun j i=>by
 obtain ⟨b,k,e,c,d,f,g⟩:=h j i
 exact ⟨b,k,e,aA c a.size,(a.cell (p:=⟨b,_,none⟩) c).trans d,(a.cell (p:=⟨b,_,none⟩) c).trans f,(a.cell (p:=⟨b,_,none⟩) c).trans g⟩
end Hb
namespace Hb
theorem AM (l:List OpR) (k:Nat) (a:k<l.length) (h:mu l[k]=false):xj l k=false:=by unfold xj;rw [nC l k a,h];rfl
theorem AN (l:List OpR) (k:Nat) (b:k<l.length) (a:k=0) (h:mu l[k]=true):xj l k=true:=by subst a;unfold xj;rw [nC l 0 b,h];rfl
theorem AL (l:List OpR) (k:Nat) (a:k<l.length) (b:0<k) (h:mu l[k]=true):xj l k=sf (l[k-1]'(by omega)) l[k]:=by
 unfold xj;rw [nC l k a,nC l (k-1) (by omega),h]
 have:(k==0)=false:=by simp;omega
 rw [this];rfl
end Hb
namespace Go.Proofs.YtbojljpldcijgaaGreat
open Go.RowKit Hb
theorem qT (A:Option Addr) (n a0:Nat) (l:List OpR) (w:au) (P:n=l.length) (hm:n<=400) (Q:OpsAt w A l) :
  aU am 50 #[.slice A n a0] w fun e w'=>e=aD (av (ea l))/\aB w.heap.size w w':=by
 by_cases I:100<n
 ·have b1:decide ((100:Int)<n)=true:=by simp;omega
  have Y:=dw (jr l (by omega))
  clear P Q I
  go_enter Tryz.func50,Tryz.ntmps50
  go_wp2_with fail
  go_ret
  exact ⟨bY Y.out.symm,ap _ _⟩
 have b1:decide ((100:Int)<n)=false:=by simp;omega
 have a6:n<=100:=by omega
 have G:=dw P
 have R:=dw Q
 clear P Q I
 go_enter Tryz.func50,Tryz.ntmps50
 go_wp2_with fail
 go_loopw [11] (fun i wr=>∃k:Nat,k<=n/\i=aa ab k/\aB w.heap.size w wr/\Hid (∀j,j<k->xj l j=true)) (fun i _=>n-(intOf i).toNat)
 case atStart=>exact ⟨0,bc _,rfl,ap _ _,fun j v=>absurd v (by omega)⟩
 case round=>
  obtain ⟨k,hk,rfl,a,z⟩:=hrel
  by_cases a7:k<n
  ·have u:=a.size
   have x:k<l.length:=by have:=G.out;omega
   obtain ⟨b,r,rfl,O,c0,I,c2⟩:=(R.out.below a) k x
   have W:0<k->wr.cell? ⟨b,r+(k-1) * 3,none⟩=some (ac (l[k-1]'(by omega)).name)/\wr.cell? ⟨b,r+(k-1) * 3+1,none⟩=some (aa ab (l[k-1]'(by omega)).typ)/\wr.cell? ⟨b,r+(k-1) * 3+2,none⟩=some (aa ab (l[k-1]'(by omega)).prec):=fun q=>by
    obtain ⟨b',a8,J,_,C,D,E⟩:=(R.out.below a) (k-1) (by omega)
    injection J with J
    injection J with s g _
    subst s g
    exact ⟨C,D,E⟩
   have X:=dw W
   have J1:=dw (AM l k x)
   have J0:=dw (AN l k x)
   have JS:=dw (AL l k x)
   have H:=dw (oy l k x)
   generalize l[k]=o at *
   have M:=BoxAt.start wr o 61
   clear W
   cases hok:mu o
   ·have B:=dw hok
    have c:=dw (tp o (wr.alloc (.cells #[ac o.name,aa ab o.typ,aa ab o.prec] 61)))
    rw [hok] at c
    clear hok
    unfold jK at c
    go_wp2_with fail
    refine c.out.mono ?_;rintro e y ⟨rfl,t⟩
    go_wp2_with fail
    go_ret
    exact ⟨bY (H.out (J1.out B.out)).symm,a.trans ((M.call t).bel.mono u)⟩
   ·have B:=dw hok
    have c:=dw (tp o (wr.alloc (.cells #[ac o.name,aa ab o.typ,aa ab o.prec] 61)))
    rw [hok] at c
    clear hok
    unfold jK at c
    by_cases q:k=0
    ·have b0:((k:Int)==0)=true:=by simp [q]
     have m:=dw (J0.out q B.out)
     clear q
     go_wp2_with fail
     refine c.out.mono ?_;rintro e y ⟨rfl,t⟩
     go_wp2_with fail
     go_roundw
     case rel=>exact ⟨k+1,by omega,by go_num,a.trans ((M.call t).bel.mono u),fun j v=>by
       rcases dn j k with h | h
       ·exact z.out j h
       ·have:j=k:=by omega
        subst this;exact m.out⟩
     case measure=>simp [intOf] <;> omega
    ·have b0:((k:Int)==0)=false:=by simpa using q
     have T:0<k:=by omega
     have m:=dw (JS.out T B.out)
     obtain ⟨C,D,E⟩:=X.out T
     generalize l[k-1]'(by omega)=p at *
     clear q
     go_wp2_with fail
     refine c.out.mono ?_;rintro e y ⟨rfl,t⟩
     have d:=M.call t
     have xl:=d.lt
     have x0:=d.c0
     have x1:=d.c1
     have x2:=d.c2
     have a1:=(d.bel.cell (p:=⟨b,r+(k-1) * 3,none⟩) O).trans C
     have a2:=(d.bel.cell (p:=⟨b,r+(k-1) * 3+1,none⟩) O).trans D
     have a3:=(d.bel.cell (p:=⟨b,r+(k-1) * 3+2,none⟩) O).trans E
     clear C D E
     go_wp2_with fail
     refine (uL p o _).mono ?_;rintro e w2 ⟨rfl,L⟩
     have V:=(BoxAt.start y p 61).call L
     have F:=(d.call ((ap y.heap.size y).alloc (ae _) (.cells #[ac p.name,aa ab p.typ,aa ab p.prec] 61))).call L
     have y0:=V.c0
     have y1:=V.c1
     have z0:=F.c0
     have U:=a.trans (F.bel.mono u)
     clear x0 x1 x2 a1 a2 a3 L
     have a5:(decide (0<=jB p o)=true/\Hid (sf p o=false))\/(decide (0<=jB p o)=false/\(p.name.toList==o.name.toList)=false/\Hid (sf p o=true))\/(decide (0<=jB p o)=false/\(p.name.toList==o.name.toList)=true/\(dH p.typ==2)=true/\Hid (sf p o=false))\/(decide (0<=jB p o)=false/\(p.name.toList==o.name.toList)=true/\(dH p.typ==2)=false/\Hid (sf p o=true)):=by
      unfold Hid sf
      grind
     rcases a5 with ⟨s,f⟩ | ⟨s,g,f⟩ | ⟨s,g,K,f⟩ | ⟨s,g,K,f⟩
     ·go_wp2_with fail
      go_ret
      exact ⟨bY (H.out (m.out.trans f.out)).symm,U⟩
     ·have S:¬p.name.toList=o.name.toList:=by simpa using g
      go_wp2_with fail
      go_roundw
      case rel=>exact ⟨k+1,by omega,by go_num,U,fun j v=>by
       rcases dn j k with h | h
       ·exact z.out j h
       ·have:j=k:=by omega
        subst this;exact m.out.trans f.out⟩
      case measure=>simp [intOf] <;> omega
     ·have S:p.name.toList=o.name.toList:=by simpa using g
      have a4:dH p.typ=2:=by simpa using K
      go_wp2_with fail
      refine (lk F p.typ).mono ?_;rintro e w3 ⟨rfl,N⟩
      go_wp2_with fail
      go_ret
      exact ⟨bY (H.out (m.out.trans f.out)).symm,a.trans (N.bel.mono u)⟩
     ·have S:p.name.toList=o.name.toList:=by simpa using g
      have a4:¬dH p.typ=2:=by simpa using K
      go_wp2_with fail
      refine (lk F p.typ).mono ?_;rintro e w3 ⟨rfl,N⟩
      go_wp2_with fail
      go_roundw
      case rel=>exact ⟨k+1,by omega,by go_num,a.trans (N.bel.mono u),fun j v=>by
       rcases dn j k with h | h
       ·exact z.out j h
       ·have:j=k:=by omega
        subst this;exact m.out.trans f.out⟩
      case measure=>simp [intOf] <;> omega
  ·obtain rfl:k=n:=by omega
   have Z:=dw (nj l (by have:=G.out;omega) (fun j v=>z.out j (by have:=G.out;omega)))
   go_wp2_with fail
   go_ret
   exact ⟨bY Z.out.symm,a⟩
end Go.Proofs.YtbojljpldcijgaaGreat
namespace Hb
open Go Go.RowKit
def yY (p:OpR->Bool) (l:List OpR):Int:=if l.any p=true then (l.findIdx p:Int) else -1
theorem tC (p:OpR->Bool) (l:List OpR) (k:Nat) (a:k<l.length) (h:p l[k]=true) (b:∀j (c:j<k),p (l[j]'(by omega))=false):yY p l=k:=by
 unfold yY
 rw [if_pos (List.any_eq_true.2 ⟨l[k],bW a,h⟩),(List.findIdx_eq a).2 ⟨h,b⟩]
theorem rj (p:OpR->Bool) (l:List OpR) (b:∀j (a:j<l.length),p l[j]=false):yY p l=-1:=by
 unfold yY
 rw [if_neg]
 rw [Bool.not_eq_true,List.any_eq_false]
 intro x c
 obtain ⟨j,a,rfl⟩:=List.getElem_of_mem c
 simp [b j a]
theorem tF (p:OpR->Bool) (l:List OpR) (k:Nat) (c:k<l.length) (h:p l[k]=true) (b:∀j (a:j<k),p (l[j]'(by omega))=false):l.find? p=some l[k]:=by
 rw [List.find?_eq_some_iff_getElem]
 exact ⟨h,k,c,rfl,fun j a=>by simp [b j a]⟩
theorem rm (p:OpR->Bool) (l:List OpR) (b:∀j (a:j<l.length),p l[j]=false):l.find? p=none:=by
 rw [List.find?_eq_none]
 intro x c
 obtain ⟨j,a,rfl⟩:=List.getElem_of_mem c
 simp [b j a]
def jk (name:ByteArray) (c:Int) (o:OpR):Bool:=o.name.toList==name.toList&&dH o.typ==c
def jL:OpR:=⟨⟨#[]⟩,0,0⟩
def dK (l:List OpR) (name:ByteArray) (c:Int):Option OpR:=if ea l=true then l.find? (jk name c) else none
structure FHeld (w0 w:au) (o:OpR) (g1 g2:Nat) (name:ByteArray) (c:Int):Prop where
 bel:aB w0.heap.size w0 w
 lt:w0.heap.size<w.heap.size
 a0:w.cell? ⟨w0.heap.size,0,none⟩=some (ac o.name)
 a1:w.cell? ⟨w0.heap.size,1,none⟩=some (aa ab o.typ)
 n0:w.cell? ⟨g1,0,none⟩=some (ac name)
 f0:w.cell? ⟨g2,0,none⟩=some (aa ab c)
 l1:g1<w0.heap.size
 l2:g2<w0.heap.size
section
variable {w0 w w':au} {o:OpR} {g1 g2:Nat} {name:ByteArray} {c:Int}
theorem FHeld.keep (h:FHeld w0 w o g1 g2 name c):w.cell? ⟨w0.heap.size,0,none⟩=some (ac o.name)/\w.cell? ⟨w0.heap.size,1,none⟩=some (aa ab o.typ)/\w.cell? ⟨g1,0,none⟩=some (ac name)/\w.cell? ⟨g2,0,none⟩=some (aa ab c)/\FHeld w0 w o g1 g2 name c:=⟨h.a0,h.a1,h.n0,h.f0,h⟩
theorem FHeld.of (h:w.cell? ⟨w0.heap.size,0,none⟩=some (ac o.name)/\w.cell? ⟨w0.heap.size,1,none⟩=some (aa ab o.typ)/\w.cell? ⟨g1,0,none⟩=some (ac name)/\w.cell? ⟨g2,0,none⟩=some (aa ab c)/\FHeld w0 w o g1 g2 name c):FHeld w0 w o g1 g2 name c:=h.2.2.2.2
theorem FHeld.call (a:aB w.heap.size w w') (h:FHeld w0 w o g1 g2 name c):FHeld w0 w' o g1 g2 name c where
 bel:=h.bel.trans (a.mono (by have:=h.lt;omega))
 lt:=aA h.lt a.size
 a0:=(a.cell (p:=⟨_,_,none⟩) h.lt).trans h.a0
 a1:=(a.cell (p:=⟨_,_,none⟩) h.lt).trans h.a1
 n0:=(a.cell (p:=⟨_,_,none⟩) (ib h.l1 h.lt)).trans h.n0
 f0:=(a.cell (p:=⟨_,_,none⟩) (ib h.l2 h.lt)).trans h.f0
 l1:=h.l1
 l2:=h.l2
theorem FHeld.drew (h:FHeld w0 w o g1 g2 name c):FHeld w0 w.drew o g1 g2 name c:=h.call (ap w.heap.size w).drew
theorem FHeld.start (e:cH) (n0:w.cell? ⟨g1,0,none⟩=some (ac name)) (f0:w.cell? ⟨g2,0,none⟩=some (aa ab c)) (l1:g1<w.heap.size) (l2:g2<w.heap.size):FHeld w (w.alloc (.cells #[ac o.name,aa ab o.typ,aa ab o.prec] e)) o g1 g2 name c where
 bel:=(ap _ _).alloc (ae _) _
 lt:=by simp
 a0:=aF _ _ _ 0
 a1:=aF _ _ _ 1
 n0:=(dY _ _ none).cell n0 (by simp)
 f0:=(dY _ _ none).cell f0 (by simp)
 l1:=l1
 l2:=l2
end
structure RHeld (w0 w:au) (name:ByteArray) (c:Int):Prop where
 bel:aB w0.heap.size w0 w
 lt:w0.heap.size+1+1<w.heap.size
 n0:w.cell? ⟨w0.heap.size,0,none⟩=some (ac name)
 f0:w.cell? ⟨w0.heap.size+1,0,none⟩=some (aa ab c)
 r0:∃v,w.cell? ⟨w0.heap.size+1+1,0,none⟩=some v
 r1:∃v,w.cell? ⟨w0.heap.size+1+1,1,none⟩=some v
 r2:∃v,w.cell? ⟨w0.heap.size+1+1,2,none⟩=some v
 fr:∀o,w.frozen? ⟨w0.heap.size+1+1,o,none⟩=false
theorem RHeld.call {w0 w w':au} {name:ByteArray} {c:Int} (h:RHeld w0 w name c) (a:aB w.heap.size w w'):RHeld w0 w' name c where
 bel:=h.bel.trans (a.mono (by have:=h.lt;omega))
 lt:=aA h.lt a.size
 n0:=(a.cell (p:=⟨_,_,none⟩) (by have:=h.lt;show w0.heap.size<_;omega)).trans h.n0
 f0:=(a.cell (p:=⟨_,_,none⟩) (by have:=h.lt;show w0.heap.size+1<_;omega)).trans h.f0
 r0:=h.r0.imp fun _ b=>(a.cell (p:=⟨_,_,none⟩) h.lt).trans b
 r1:=h.r1.imp fun _ b=>(a.cell (p:=⟨_,_,none⟩) h.lt).trans b
 r2:=h.r2.imp fun _ b=>(a.cell (p:=⟨_,_,none⟩) h.lt).trans b
 fr:=fun o=>(a.frozen (p:=⟨_,o,none⟩) h.lt).trans (h.fr o)
theorem RHeld.start (w:au) (name:ByteArray) (c:Int) (a b d:cH):RHeld w (((w.alloc (.cells #[ac name] a)).alloc (.cells #[aa ab c] b)).alloc (.cells #[ac ⟨#[]⟩,aa ab 0,aa ab 0] d)) name c where
 bel:=(((ap w.heap.size w).alloc (ae _) _).alloc (by simp) _).alloc (by simp;omega) _
 lt:=by simp
 n0:=(dY _ _ none).cell ((dY _ _ none).cell (aF _ _ _ 0) (by simp)) (by simp)
 f0:=(dY _ _ none).cell (by
  rw [show w.heap.size+1=(w.alloc (.cells #[ac name] a)).heap.size by simp]
  exact aF _ _ _ 0) (by simp)
 r0:=⟨_,by
  rw [show w.heap.size+1+1=((w.alloc (.cells #[ac name] a)).alloc (.cells #[aa ab c] b)).heap.size by simp]
  exact aF _ _ _ 0⟩
 r1:=⟨_,by
  rw [show w.heap.size+1+1=((w.alloc (.cells #[ac name] a)).alloc (.cells #[aa ab c] b)).heap.size by simp]
  exact aF _ _ _ 1⟩
 r2:=⟨_,by
  rw [show w.heap.size+1+1=((w.alloc (.cells #[ac name] a)).alloc (.cells #[aa ab c] b)).heap.size by simp]
  exact aF _ _ _ 2⟩
 fr:=fun o=>by
  rw [show w.heap.size+1+1=((w.alloc (.cells #[ac name] a)).alloc (.cells #[aa ab c] b)).heap.size by simp]
  exact World.frozen?_alloc_new _ _ _ _
end Hb
namespace Go.Proofs.YtbojljpldcijgaaGreat
open Go.RowKit Hb
theorem BC (o:OpR) (g1 g2:Nat) (name:ByteArray) (c:Int) (w:au) (j:w.cell? ⟨g1,0,none⟩=some (ac name)) (d:w.cell? ⟨g2,0,none⟩=some (aa ab c)) (g:g1<w.heap.size) (i:g2<w.heap.size) :
  aU am 167 #[jK o,ar (some ⟨g1,0,none⟩),ar (some ⟨g2,0,none⟩)] w fun e w'=>e=aD (av (jk name c o))/\aB w.heap.size w w':=by
 have b:=FHeld.start (o:=o) 61 j d g i
 unfold jK
 have a:=dw (show jk name c o=(o.name.toList==name.toList&&dH o.typ==c) from rfl)
 cases h:(o.name.toList==name.toList)
 ·rw [h] at a
  have f:¬o.name.toList=name.toList:=by simpa using h
  go_enter Tryz.func167,Tryz.ntmps167
  go_wp2_with fail
  go_quiet (fail)
  go_wp2_with fail
  go_ret
  exact ⟨bY a.out.symm,dF b.bel _⟩
 ·rw [h] at a
  have f:o.name.toList=name.toList:=by simpa using h
  go_enter Tryz.func167,Tryz.ntmps167
  go_wp2_with fail
  go_region_held3 (fun w'=>w'.cell? ⟨w.heap.size,0,none⟩=some (ac o.name)/\w'.cell? ⟨w.heap.size,1,none⟩=some (aa ab o.typ)/\w'.cell? ⟨g1,0,none⟩=some (ac name)/\w'.cell? ⟨g2,0,none⟩=some (aa ab c)/\FHeld w w' o g1 g2 name c)
   (first | with_reducible exact b.drew.keep | with_reducible exact FHeld.keep (FHeld.of (by with_reducible assumption)) | with_reducible exact FHeld.keep (FHeld.call (by with_reducible assumption) (FHeld.of (by with_reducible assumption))))
   (first | (go_at_call 76;(with_reducible refine (tq o.typ _).mono ?_);rintro e l ⟨rfl,k⟩))
  all_goals go_wp2_with fail
  all_goals go_ret
  all_goals exact ⟨bY a.out.symm,FHeld.bel (FHeld.of (by with_reducible assumption))⟩
theorem xg (A:Option Addr) (n F:Nat) (l:List OpR) (g1 g2:Nat) (name:ByteArray) (c:Int) (w:au) (v:n=l.length) (Q:n<=400) (x:OpsAt w A l) (H:w.cell? ⟨g1,0,none⟩=some (ac name)) (G:w.cell? ⟨g2,0,none⟩=some (aa ab c)) (y:g1<w.heap.size) (z:g2<w.heap.size) :
  aU am 122 #[.slice A n F,.func (.func 167) #[] #[ar (some ⟨g1,0,none⟩),ar (some ⟨g2,0,none⟩)]] w fun e w'=>e=aD (aa ab (yY (jk name c) l))/\aB w.heap.size w w':=by
 have s:=dw v
 have D:=dw x
 clear v x
 go_enter Tryz.func122,Tryz.ntmps122
 go_wp2_with fail
 go_loopw [8] (fun i wr=>∃k:Nat,k<=n/\i=aa ab k/\aB w.heap.size w wr/\Hid (∀j (a:j<l.length),j<k->jk name c l[j]=false)) (fun i _=>n-(intOf i).toNat)
 case atStart=>exact ⟨0,bc _,rfl,ap _ _,fun j _ a=>absurd a (by omega)⟩
 case round=>
  obtain ⟨k,O,rfl,d,m⟩:=hrel
  by_cases P:k<n
  ·have g:=d.size
   have u:k<l.length:=by have:=s.out;omega
   obtain ⟨b,R,rfl,M,J,K,L⟩:=(D.out.below d) k u
   have B:=dw (fun h=>tC (jk name c) l k u h (fun j a=>m.out j (by omega) a))
   have f:=dw (BC l[k] g1 g2 name c wr ((d.cell (p:=⟨g1,0,none⟩) y).trans H) ((d.cell (p:=⟨g2,0,none⟩) z).trans G) (aA y g) (aA z g))
   have E:=dw (fun (h:jk name c l[k]=false)=>(show ∀j (a:j<l.length),j<k+1->jk name c l[j]=false from fun j a N=>by
    rcases dn j k with t | t
    ·exact m.out j a t
    ·have:j=k:=by omega
     subst this;exact h))
   generalize l[k]=o at *
   unfold jK at f
   cases hi:jk name c o
   ·rw [hi] at f
    have q:=dw hi
    clear hi
    go_wp2_with fail
    refine f.out.mono ?_;rintro e I ⟨rfl,r⟩
    go_wp2_with fail
    go_roundw
    case rel=>exact ⟨k+1,by omega,by go_num,d.trans (r.mono g),E.out q.out⟩
    case measure=>simp [intOf] <;> omega
   ·rw [hi] at f
    have q:=dw hi
    clear hi
    go_wp2_with fail
    refine f.out.mono ?_;rintro e I ⟨rfl,r⟩
    go_wp2_with fail
    go_ret
    exact ⟨dl (B.out q.out).symm,d.trans (r.mono g)⟩
  ·obtain rfl:k=n:=by omega
   have C:=dw (rj (jk name c) l (fun j a=>m.out j a (by have:=s.out;omega)))
   go_wp2_with fail
   go_ret
   exact ⟨dl C.out.symm,d⟩
theorem pF (A:Option Addr) (n C:Nat) (l:List OpR) (name:ByteArray) (c:Int) (w:au) (L:n=l.length) (R:n<=400) (S:OpsAt w A l) :
  aU am 121 #[.slice A n C,ac name,aa ab c] w fun e w'=>e=aD (aJ #[jK ((dK l name c).getD jL),av (dK l name c).isSome])/\aB w.heap.size w w':=by
 have B:=dw S
 have O:=dw L
 clear S
 have y:=RHeld.start w name c 9 3 61
 have h:=dw (qT A n C l _ L R (B.out.below y.bel))
 clear L
 cases hv:ea l
 ·rw [hv] at h
  have u:=dw (show dK l name c=none by unfold dK;rw [hv];rfl)
  clear hv
  go_enter Tryz.func121,Tryz.ntmps121
  go_wp2_with fail
  refine h.out.mono ?_;rintro e g ⟨rfl,q⟩
  have a:=y.call q
  obtain ⟨f,T,U,P,⟨Y,r⟩,⟨Z,s⟩,⟨v2,t⟩,m⟩:=id a
  have Q:=m 0
  go_wp2_with fail
  refine aw (v:=aJ #[jK jL,av false]) (by simp [jK,jL,results,Tryz.results121,go_sem,r,s,t]) rfl ⟨by rw [u.out];rfl,by
   have d:w.heap.size<=w.heap.size+1+1:=by omega
   exact ((f.setCell (p:=⟨_,_,none⟩) d _).setCell (p:=⟨_,_,none⟩) d _).setCell (p:=⟨_,_,none⟩) d _⟩
 ·rw [hv] at h
  have u:=dw (show dK l name c=l.find? (jk name c) by unfold dK;rw [hv];rfl)
  clear hv
  have x:=dw (fun (g:au) (a:RHeld w g name c)=>xg A n C l w.heap.size (w.heap.size+1) name c g O.out R (B.out.below a.bel) a.n0 a.f0 (by have:=a.lt;omega) (by have:=a.lt;omega))
  by_cases I:∃k,∃hk:k<l.length,jk name c l[k]=true/\∀j (J:j<k),jk name c (l[j]'(by omega))=false
  ·obtain ⟨k,K,D,E⟩:=I
   have a0:k<n:=by have:=O.out;omega
   have z:=dw (u.out.trans (tF _ l k K D E))
   rw [tC _ l k K D E] at x
   obtain ⟨b,N,rfl,H,V,W,X⟩:=B.out k K
   generalize l[k]=o at *
   clear D E
   go_enter Tryz.func121,Tryz.ntmps121
   go_wp2_with fail
   refine h.out.mono ?_;rintro e g ⟨rfl,q⟩
   have a:=y.call q
   go_wp2_with fail
   refine (x.out g a).mono ?_;rintro e w2 ⟨rfl,F⟩
   have G:=a.call F
   obtain ⟨f,T,U,P,⟨Y,r⟩,⟨Z,s⟩,⟨v2,t⟩,m⟩:=id G
   have Q:=m 0
   have a1:=(f.cell (p:=⟨b,N+k * 3,none⟩) H).trans V
   have a2:=(f.cell (p:=⟨b,N+k * 3+1,none⟩) H).trans W
   have a3:=(f.cell (p:=⟨b,N+k * 3+2,none⟩) H).trans X
   clear V W X
   go_wp2_with fail
   refine aw (v:=aJ #[jK o,av true]) (by simp [jK,results,Tryz.results121,go_sem,r,s,t]) rfl ⟨by rw [z.out];rfl,by
    have d:w.heap.size<=w.heap.size+1+1:=by omega
    exact ((f.setCell (p:=⟨_,_,none⟩) d _).setCell (p:=⟨_,_,none⟩) d _).setCell (p:=⟨_,_,none⟩) d _⟩
  ·have M:∀j (J:j<l.length),jk name c l[j]=false:=by
    intro j
    induction j using Nat.strongRecOn with
    | ind j ih=>
     intro J
     cases hc:jk name c l[j] with
     | false=>rfl
     | true=>exact absurd ⟨j,J,hc,fun i hi=>ih i hi (by omega)⟩ I
   have z:=dw (u.out.trans (rm _ l M))
   rw [rj _ l M] at x
   clear M I
   go_enter Tryz.func121,Tryz.ntmps121
   go_wp2_with fail
   refine h.out.mono ?_;rintro e g ⟨rfl,q⟩
   have a:=y.call q
   go_wp2_with fail
   refine (x.out g a).mono ?_;rintro e w2 ⟨rfl,F⟩
   have G:=a.call F
   obtain ⟨f,T,U,P,⟨Y,r⟩,⟨Z,s⟩,⟨v2,t⟩,m⟩:=id G
   have Q:=m 0
   go_wp2_with fail
   refine aw (v:=aJ #[jK jL,av false]) (by simp [jK,jL,results,Tryz.results121,go_sem,r,s,t]) rfl ⟨by rw [z.out];rfl,by
    have d:w.heap.size<=w.heap.size+1+1:=by omega
    exact ((f.setCell (p:=⟨_,_,none⟩) d _).setCell (p:=⟨_,_,none⟩) d _).setCell (p:=⟨_,_,none⟩) d _⟩
end Go.Proofs.YtbojljpldcijgaaGreat
namespace Hb
open Go Go.RowKit
structure R3 (w0 w:au):Prop where
 bel:aB w0.heap.size w0 w
 lt:w0.heap.size<w.heap.size
 r0:∃v,w.cell? ⟨w0.heap.size,0,none⟩=some v
 r1:∃v,w.cell? ⟨w0.heap.size,1,none⟩=some v
 r2:∃v,w.cell? ⟨w0.heap.size,2,none⟩=some v
 fr:∀o,w.frozen? ⟨w0.heap.size,o,none⟩=false
theorem R3.call {w0 w w':au} (h:R3 w0 w) (a:aB w.heap.size w w'):R3 w0 w' where
 bel:=h.bel.trans (a.mono (eX h.lt))
 lt:=aA h.lt a.size
 r0:=h.r0.imp fun _ b=>(a.cell (p:=⟨_,_,none⟩) h.lt).trans b
 r1:=h.r1.imp fun _ b=>(a.cell (p:=⟨_,_,none⟩) h.lt).trans b
 r2:=h.r2.imp fun _ b=>(a.cell (p:=⟨_,_,none⟩) h.lt).trans b
 fr:=fun o=>(a.frozen (p:=⟨_,o,none⟩) h.lt).trans (h.fr o)
theorem R3.start (w:au) (e:cH):R3 w (w.alloc (.cells #[ac ⟨#[]⟩,aa ab 0,aa ab 0] e)) where
 bel:=(ap _ _).alloc (ae _) _
 lt:=by simp
 r0:=⟨_,aF _ _ _ 0⟩
 r1:=⟨_,aF _ _ _ 1⟩
 r2:=⟨_,aF _ _ _ 2⟩
 fr:=fun o=>World.frozen?_alloc_new _ _ _ _
theorem R3.put {w0 w:au} (h:R3 w0 w) (x y z:aC):aB w0.heap.size w0 (((w.setCell ⟨w0.heap.size,0,none⟩ x).setCell ⟨w0.heap.size,1,none⟩ y).setCell ⟨w0.heap.size,2,none⟩ z) :=
 ((h.bel.setCell (p:=⟨_,_,none⟩) (ae _) _).setCell (p:=⟨_,_,none⟩) (ae _) _).setCell (p:=⟨_,_,none⟩) (ae _) _
def kL (o:OpR):Int:=if o.prec<1\/1200<o.prec then 0 else if o.typ=1\/o.typ=2\/o.typ=6 then o.prec-1 else if o.typ=3\/o.typ=7 then o.prec else 0
def ig (o:OpR):Int:=if o.prec<1\/1200<o.prec then 0 else if o.typ=1\/o.typ=3\/o.typ=5 then o.prec-1 else if o.typ=2\/o.typ=4 then o.prec else 0
end Hb
namespace Go.Proofs.YtbojljpldcijgaaGreat
open Go.RowKit Hb
theorem pE (A:Option Addr) (n a:Nat) (l:List OpR) (name:ByteArray) (w:au) (f:n=l.length) (k:n<=400) (g:OpsAt w A l) :
  aU am 181 #[.slice A n a,ac name] w fun e w'=>e=aD (aJ #[jK ((dK l name 1).getD jL),av (dK l name 1).isSome])/\aB w.heap.size w w':=by
 have c:=R3.start w 61
 have h:=dw (pF A n a l name 1 _ f k (g.below c.bel))
 clear f g
 generalize (dK l name 1).getD jL=r at *
 generalize (dK l name 1).isSome=b at *
 unfold jK at *
 go_enter Tryz.func181,Tryz.ntmps181
 go_wp2_with fail
 refine h.out.mono ?_;rintro e z ⟨rfl,j⟩
 have d:=c.call j
 obtain ⟨s,t,⟨u,m⟩,⟨x,o⟩,⟨y,p⟩,i⟩:=id d
 have q:=i 0
 go_wp2_with fail
 exact aw (v:=aJ #[.agg #[ac r.name,aa ab r.typ,aa ab r.prec],av b]) (by simp [results,Tryz.results181,go_sem,m,o,p]) rfl ⟨rfl,d.put _ _ _⟩
theorem qV (A:Option Addr) (n a:Nat) (l:List OpR) (name:ByteArray) (w:au) (f:n=l.length) (k:n<=400) (g:OpsAt w A l) :
  aU am 145 #[.slice A n a,ac name] w fun e w'=>e=aD (aJ #[jK ((dK l name 2).getD jL),av (dK l name 2).isSome])/\aB w.heap.size w w':=by
 have c:=R3.start w 61
 have h:=dw (pF A n a l name 2 _ f k (g.below c.bel))
 clear f g
 generalize (dK l name 2).getD jL=r at *
 generalize (dK l name 2).isSome=b at *
 unfold jK at *
 go_enter Tryz.func145,Tryz.ntmps145
 go_wp2_with fail
 refine h.out.mono ?_;rintro e z ⟨rfl,j⟩
 have d:=c.call j
 obtain ⟨s,t,⟨u,m⟩,⟨x,o⟩,⟨y,p⟩,i⟩:=id d
 have q:=i 0
 go_wp2_with fail
 exact aw (v:=aJ #[.agg #[ac r.name,aa ab r.typ,aa ab r.prec],av b]) (by simp [results,Tryz.results145,go_sem,m,o,p]) rfl ⟨rfl,d.put _ _ _⟩
theorem ox (A:Option Addr) (n a:Nat) (l:List OpR) (name:ByteArray) (w:au) (f:n=l.length) (k:n<=400) (g:OpsAt w A l) :
  aU am 146 #[.slice A n a,ac name] w fun e w'=>e=aD (aJ #[jK ((dK l name 3).getD jL),av (dK l name 3).isSome])/\aB w.heap.size w w':=by
 have c:=R3.start w 61
 have h:=dw (pF A n a l name 3 _ f k (g.below c.bel))
 clear f g
 generalize (dK l name 3).getD jL=r at *
 generalize (dK l name 3).isSome=b at *
 unfold jK at *
 go_enter Tryz.func146,Tryz.ntmps146
 go_wp2_with fail
 refine h.out.mono ?_;rintro e z ⟨rfl,j⟩
 have d:=c.call j
 obtain ⟨s,t,⟨u,m⟩,⟨x,o⟩,⟨y,p⟩,i⟩:=id d
 have q:=i 0
 go_wp2_with fail
 exact aw (v:=aJ #[.agg #[ac r.name,aa ab r.typ,aa ab r.prec],av b]) (by simp [results,Tryz.results146,go_sem,m,o,p]) rfl ⟨rfl,d.put _ _ _⟩
theorem qU (o:OpR) (w:au) (m:-9223372036854775808<=o.prec/\o.prec<=9223372036854775807):aU am 96 #[jK o] w fun e w'=>e=aD (aJ #[aa ab (kL o),aa ab (ig o)])/\aB w.heap.size w w':=by
 unfold jK
 generalize c:kL o=x
 generalize d:ig o=y
 have f:=dw c
 have g:=dw d
 clear c d
 obtain ⟨name,a,b⟩:=o
 have hd:b<1\/1200<b\/((1<=b/\b<=1200)/\(a=1\/a=2\/a=3\/a=4\/a=5\/a=6\/a=7\/(¬a=1/\¬a=2/\¬a=3/\¬a=4/\¬a=5/\¬a=6/\¬a=7))):=by omega
 rcases hd with h | h | ⟨⟨k,l⟩,rfl|rfl|rfl|rfl|rfl|rfl|rfl | ⟨n,p,q,r,s,t,u⟩⟩
 all_goals
  go_enter Tryz.func96,Tryz.ntmps96
  go_wp2_with fail
  try (go_quiet (fail);go_wp2_with fail)
  refine aw (v:=aJ #[aa ab x,aa ab y]) ?_ rfl ⟨rfl,by first | exact (ap _ _).alloc (ae _) _ | exact dF ((ap _ _).alloc (ae _) _) _⟩
  have i:=f.out
  have j:=g.out
  unfold kL at i
  unfold ig at j
  simp [results,Tryz.results96,go_sem]
  grind
end Go.Proofs.YtbojljpldcijgaaGreat
namespace Hb
def jn (l:List UInt8) (k:Nat):Int:=((l.getD k 0).toNat:Int)
theorem kj (l:List UInt8) (k:Nat):0<=jn l k:=by unfold jn;omega
theorem lD (l:List UInt8) (k:Nat):jn l k<=255:=by unfold jn;have:=(l.getD k 0).toNat_lt;omega
theorem ja (l:List UInt8) (k:Nat) (h:k<l.length):(l[k].toNat:Int)=jn l k:=by
 unfold jn;rw [bt,bi h];rfl
theorem lC (s:ByteArray) (k:Nat) (h:k<s.size):(s[k].toNat:Int)=jn s.data.toList k:=by
 have a:k<s.data.toList.length:=by simpa using h
 rw [<-ja _ _ a];rfl
def iM (c:Int):Bool:=decide (0<=c)&&decide (c<=255)
theorem iG (c:Int):iM c=true↔0<=c/\c<=255:=by simp [iM]
def gG (l:List UInt8) (c:Int):Bool:=l.any fun b=>(b.toNat:Int)==c
theorem qe (l:List UInt8) (k:Nat) (c:Int) (h:k<l.length):gG (l.take (k+1)) c=(gG (l.take k) c||(jn l k==c)):=by
 unfold gG;rw [List.take_succ_eq_append_getElem h,List.any_append,<-ja _ _ h];simp
theorem vr (l:List UInt8) (k:Nat) (c:Int) (h:k<l.length) (e:jn l k=c):gG l c=true:=by
 unfold gG;rw [List.any_eq_true];exact ⟨l[k],bW h,by rw [ja _ _ h,e];simp⟩
theorem ru (l:List UInt8) (k:Nat) (c:Int) (h:l.length<=k) (e:gG (l.take k) c=false):gG l c=false:=by
 rwa [List.take_of_length_le h] at e
def cls (c:Int):Int :=
 if ¬(0<=c/\c<=255) then 0
 else if (9<=c/\c<=13)\/c=32 then 1
 else if 97<=c/\c<=122 then 2
 else if (65<=c/\c<=90)\/c=95 then 3
 else if 48<=c/\c<=57 then 4
 else if gG [35,36,38,42,43,45,46,47,58,60,61,62,63,64,94,126,92] c then 5
 else if gG [33,40,41,44,59,91,93,123,125,37,124] c then 6
 else if gG [39,34,96] c then 7
 else 8
theorem wg (P:Int->Prop) (c:Prop) [Decidable c] (a b:Int) (d:P a) (e:P b):P (if c then a else b):=by split <;> assumption
theorem BE (c:Int):0<=cls c:=by
 unfold cls;repeat' (refine wg (0 <= ·) _ _ _ (by omega) ?_)
 omega
theorem BF (c:Int):cls c<=8:=by
 unfold cls;repeat' (refine wg (· <= 8) _ _ _ (by omega) ?_)
 omega
theorem Ay (c:Int) (h:¬(0<=c/\c<=255)):cls c=0:=by unfold cls;rw [if_pos h]
def cL (c:Int):Bool:=cls c==2||(cls c==3||cls c==4)
def rowOf:List (List UInt8):=[[9,10,11,12,13,32],
 [97,98,99,100,101,102,103,104,105,106,107,108,109,110,111,112,113,114,115,116,117,118,119,120,121,122],
 [65,66,67,68,69,70,71,72,73,74,75,76,77,78,79,80,81,82,83,84,85,86,87,88,89,90,95],
 [48,49,50,51,52,53,54,55,56,57],[35,36,38,42,43,45,46,47,58,60,61,62,63,64,94,126,92],
 [33,40,41,44,59,91,93,123,125,37,124],[39,34,96]]
def jc (c:Int):Nat:=rowOf.findIdx fun l=>gG l c
theorem wX:∀n:Nat,n<256->cls (n:Int)=(jc (n:Int):Int)+1:=by decide +kernel
theorem sT (c:Int):jc c<=7:=List.findIdx_le_length
def zy (c a:Int):Option Int :=
 if a<2\/36<a then none
 else
  let v:=if 48<=c/\c<=57 then c-48 else if 97<=c/\c<=122 then c-97+10 else if 65<=c/\c<=90 then c-65+10 else 36
  if v<a then some v else none
def cG (c a:Int):Int:=(zy c a).getD 0
def fq (c a:Int):Bool:=(zy c a).isSome
def xC (c:Int):Option Int :=
 if c=92\/c=39\/c=34\/c=96 then some c
 else if c=97 then some 7 else if c=98 then some 8 else if c=116 then some 9 else if c=110 then some 10
 else if c=118 then some 11 else if c=102 then some 12 else if c=114 then some 13 else none
def mX (c:Int):Int:=(xC c).getD 0
def iD (c:Int):Bool:=(xC c).isSome
def letters:List UInt8:=[97,98,116,110,118,102,114]
theorem AW (k:Nat) (h:k<7) (c:Int) (e:jn letters k=c):xC c=some (7+k):=by
 subst e
 match k,h with
 | 0,_=>rfl
 | 1,_=>rfl
 | 2,_=>rfl
 | 3,_=>rfl
 | 4,_=>rfl
 | 5,_=>rfl
 | 6,_=>rfl
theorem AU (c:Int) (h:gG letters c=false):xC c=if gG [92,39,34,96] c then some c else none:=by
 simp only [gG,letters,List.any_cons,List.any_nil,Bool.or_eq_false_iff,beq_eq_false_iff_ne,ne_eq,Bool.or_eq_true,beq_iff_eq] at h |-
 obtain ⟨a,b,d,f,g,i,j,_⟩:=h
 simp at a b d f g i j
 unfold xC
 by_cases e:c=92\/c=39\/c=34\/c=96
 ·rw [if_pos e,if_pos (by simp;omega)]
 ·rw [if_neg e,if_neg (by omega),if_neg (by omega),if_neg (by omega),if_neg (by omega),if_neg (by omega),if_neg (by omega),if_neg (by omega),if_neg (by simp;omega)]
def mt (l:List (Int×Int)) (j:Nat):Int:=(l.getD j (0,0)).1
def mm (l:List (Int×Int)) (j:Nat):Int:=(l.getD j (0,0)).2
theorem li (l:List (Int×Int)) (j:Nat) (h:j<l.length):l[j].1=mt l j:=by
 unfold mt;rw [bt,bi h];rfl
theorem ng (l:List (Int×Int)) (j:Nat) (h:j<l.length):l[j].2=mm l j:=by
 unfold mm;rw [bt,bi h];rfl
def kE (l:List (Int×Int)) (j:Nat):Bool:=iM (mt l j)&&(iM (mm l j)&&(!(mt l j==mm l j)&&(j==0||decide (mt l (j-1)<mt l j))))
theorem yI (l k) (h:iM (mt l k)=false):kE l k=false:=by unfold kE;rw [h];rfl
theorem yH (l k) (h:iM (mt l k)=true) (a:iM (mm l k)=false):kE l k=false:=by unfold kE;rw [h,a];rfl
theorem yG (l k) (h:iM (mt l k)=true) (a:iM (mm l k)=true) (b:(mt l k==mm l k)=true):kE l k=false:=by unfold kE;rw [h,a,b];rfl
theorem yF (l k) (a:k=0) (h:iM (mt l k)=true) (b:iM (mm l k)=true) (c:(mt l k==mm l k)=false):kE l k=true:=by unfold kE;rw [h,b,c,a];rfl
theorem yE (l k) (h:iM (mt l k)=true) (a:iM (mm l k)=true) (b:(mt l k==mm l k)=false) (c:mt l (k-1)<mt l k):kE l k=true:=by unfold kE;rw [h,a,b];simp [c]
theorem yD (l k) (h:iM (mt l k)=true) (a:iM (mm l k)=true) (b:(mt l k==mm l k)=false) (c:0<k) (d:¬mt l (k-1)<mt l k):kE l k=false:=by unfold kE;rw [h,a,b];simp;omega
def gq (l:List (Int×Int)):Bool:=(aM l.length).all (kE l)
theorem pC (l:List (Int×Int)) (h:∀j,j<l.length->kE l j=true):gq l=true:=by
 unfold gq;rw [cx];intro x a;exact h x (dG.1 a)
theorem qR (l:List (Int×Int)) (j:Nat) (a:j<l.length) (h:kE l j=false):gq l=false:=by
 unfold gq;rw [List.all_eq_false];exact ⟨j,dG.2 a,by simp [h]⟩
theorem nU (l:List (Int×Int)) (h:gq l=true) (j:Nat) (a:j<l.length):kE l j=true:=by
 unfold gq at h;rw [cx] at h;exact h j (dG.2 a)
def fj (l:List (Int×Int)) (c:Int):Int:=l.foldl (fun t p=>if p.1=c then p.2 else t) c
def ak (l:List UInt8) (i:Nat):Int:=if i<l.length then jn l i else -1
theorem eB (l:List UInt8) (i:Nat) (h:i<l.length):ak l i=jn l i:=by unfold ak;rw [if_pos h]
theorem ga (l:List UInt8) (i:Nat) (h:l.length<=i):ak l i=-1:=by unfold ak;rw [if_neg (by omega)]
theorem dS (l:List UInt8) (i:Nat):ak l i<=255:=by
 unfold ak;split
 ·exact lD l i
 ·omega
theorem bX (l:List UInt8) (i:Nat):ak l i<0↔l.length<=i:=by
 unfold ak;split
 ·have:=kj l i;omega
 ·omega
theorem tS (l:List UInt8) (i j:Nat):jn (l.drop i) j=jn l (i+j):=by
 unfold jn;simp [bt,List.getElem?_drop]
theorem bQ (l:List UInt8) (i j:Nat):ak (l.drop i) j=ak l (i+j):=by
 unfold ak;rw [tS,aN]
 by_cases h:j<l.length-i
 ·rw [if_pos h,if_pos (by omega)]
 ·rw [if_neg h,if_neg (by omega)]
theorem mK (b:UInt8) (l:List UInt8):ak (b::l) 0=(b.toNat:Int):=by
 unfold ak jn;simp
theorem pz (b:UInt8) (l:List UInt8) (i:Nat):ak (b::l) (i+1)=ak l i:=by
 unfold ak jn;simp
def ba (a:Int->Int) (l:List UInt8):List UInt8:=l.map fun b=>(a (b.toNat:Int)).toNat.toUInt8
theorem bL (a:Int->Int) (l:List UInt8):(ba a l).length=l.length:=by simp [ba]
def ex (a:Int->Int):Prop:=∀c,0<=c->c<=255->0<=a c/\a c<=255
theorem zg (a:Int->Int) (c:ex a) (l:List UInt8) (i:Nat) (h:i<l.length):a (jn l i)=jn (ba a l) i:=by
 have b:i<(ba a l).length:=by rw [bL];exact h
 have d:=c (jn l i) (kj l i) (lD l i)
 rw [<-ja _ _ b,<-ja _ _ h] at *
 simp only [ba,List.getElem_map]
 simp;omega
def cJ (c:Int):Bool:=cls c==5
def br (q:Int->Bool):List UInt8->Nat
 | []=>0
 | b::l=>if q (b.toNat:Int) then br q l+1 else 0
theorem bS (q : Int -> Bool) : ∀ l, br q l <= l.length
  | [] => ae _
  | b :: l => by unfold br; split; · have := bS q l; simp; omega
                 · exact bc _
theorem kX (l:List UInt8) (k:Nat) (h:k<l.length):l.drop k=l[k]::l.drop (k+1):=eC h
theorem kK (q:Int->Bool) (l:List UInt8) (k:Nat) (h:k<l.length) (a:q (jn l k)=true):br q (l.drop k)=br q (l.drop (k+1))+1:=by
 rw [kX l k h,br,ja _ _ h,if_pos a]
theorem lf (q:Int->Bool) (l:List UInt8) (k:Nat) (h:k<l.length) (a:q (jn l k)=false):br q (l.drop k)=0:=by
 rw [kX l k h,br,ja _ _ h,a];rfl
theorem jY (q:Int->Bool) (l:List UInt8) (k:Nat) (h:l.length<=k):br q (l.drop k)=0:=by
 rw [fG h];rfl
def dW:List UInt8->Option Nat
 | []=>none
 | b::l=>if b=42/\ak l 0=47 then some 0 else (dW l).map (· + 1)
def eh (c:Int):Bool:=!(c==10)
def mz:Nat->List UInt8->Nat
 | 0,_=>0
 | f+1,l=>
  if l.isEmpty then 0
  else if cls (ak l 0)=1 then 1+mz f (l.drop 1)
  else if ak l 0=37 then br eh l+mz f (l.drop (br eh l))
  else if ak l 0=47/\ak l 1=42 then
   match dW (l.drop 2) with
   | none=>0
   | some k=>(k+4)+mz f (l.drop (k+4))
  else 0
theorem jX (q:Int->Bool) (l:List UInt8) (h:0<l.length) (a:q (ak l 0)=true):1<=br q l:=by
 match l,h with
 | b::l,_=>rw [mK] at a;rw [br,if_pos a];omega
theorem iJ:∀(f g:Nat) (l:List UInt8),l.length<=f->l.length<=g->mz f l=mz g l
 | 0,0,_,_,_=>rfl
 | 0,g+1,l,h,_=>by
  have:l=[]:=cU (by omega)
  subst this;rfl
 | f+1,0,l,_,h=>by
  have:l=[]:=cU (by omega)
  subst this;rfl
 | f+1,g+1,l,h1,h2=>by
  unfold mz
  by_cases a:l.isEmpty
  ·rw [if_pos a,if_pos a]
  ·rw [if_neg a,if_neg a]
   have c:0<l.length:=by
    cases l with
    | nil=>simp at a
    | cons=>simp
   rw [iJ f g (l.drop 1) (by simp;omega) (by simp;omega)]
   by_cases b:ak l 0=37
   ·have:=jX eh l c (by rw [b];rfl)
    rw [iJ f g (l.drop (br eh l)) (by simp;omega) (by simp;omega)]
    simp only [if_pos b]
   ·simp only [if_neg b]
    cases dW (l.drop 2) with
    | none=>rfl
    | some k=>simp only [];rw [iJ f g (l.drop (k+4)) (by simp;omega) (by simp;omega)]
def cd (l:List UInt8):Nat:=mz l.length l
theorem sR (l:List UInt8):cd l =
  if l.isEmpty then 0
  else if cls (ak l 0)=1 then 1+cd (l.drop 1)
  else if ak l 0=37 then br eh l+cd (l.drop (br eh l))
  else if ak l 0=47/\ak l 1=42 then
   match dW (l.drop 2) with
   | none=>0
   | some k=>(k+4)+cd (l.drop (k+4))
  else 0:=by
 unfold cd
 rw [iJ l.length (l.length+1) l (ae _) (by omega),mz]
 rw [iJ l.length (l.drop 1).length (l.drop 1) (by simp) (ae _),iJ l.length (l.drop (br eh l)).length (l.drop (br eh l)) (by simp) (ae _)]
 cases dW (l.drop 2) with
 | none=>rfl
 | some k=>simp only [];rw [iJ l.length (l.drop (k+4)).length (l.drop (k+4)) (by simp) (ae _)]
theorem qb:∀(l:List UInt8) (k:Nat),dW l=some k->k+2<=l.length
 | [],k,h=>by simp [dW] at h
 | b::l,k,h=>by
  unfold dW at h
  split at h
  ·rename_i a
   injection h with h
   subst h
   have:=bX l 0
   simp;omega
  ·cases hc:dW l with
   | none=>rw [hc] at h;simp at h
   | some j=>
    rw [hc] at h
    have:=qb l j hc
    simp at h;simp;omega
theorem nd:∀(f:Nat) (l:List UInt8),mz f l<=l.length
 | 0,_=>bc _
 | f+1,l=>by
  unfold mz
  by_cases a:l.isEmpty
  ·rw [if_pos a];omega
  ·rw [if_neg a]
   have j:0<l.length:=by
    cases l with
    | nil=>simp at a
    | cons=>simp
   have e:=nd f (l.drop 1)
   have g:=nd f (l.drop (br eh l))
   have i:=bS eh l
   simp only [aN] at e g
   by_cases b:cls (ak l 0)=1
   ·rw [if_pos b];omega
   rw [if_neg b]
   by_cases c:ak l 0=37
   ·rw [if_pos c];omega
   rw [if_neg c]
   by_cases d:ak l 0=47/\ak l 1=42
   ·rw [if_pos d]
    cases hc:dW (l.drop 2) with
    | none=>simp
    | some k=>
     have:=qb _ _ hc
     have h:=nd f (l.drop (k+4))
     simp only [aN] at this h |-
     omega
   ·rw [if_neg d];omega
theorem fQ (l:List UInt8):cd l<=l.length:=nd _ _
theorem oF (l:List UInt8) (k:Nat) (h:k<l.length) (a:ak l k=42) (b:ak l (k+1)=47):dW (l.drop k)=some 0:=by
 rw [eB _ _ h] at a
 rw [<-ja _ _ h] at a
 have e:l[k]=42:=UInt8.toNat_inj.1 (by show l[k].toNat=42;omega)
 rw [kX l k h,dW,bQ,bj,if_pos ⟨e,b⟩]
theorem lA (l:List UInt8) (k:Nat) (h:k<l.length) (c:¬(ak l k=42/\ak l (k+1)=47)):dW (l.drop k)=(dW (l.drop (k+1))).map (· + 1):=by
 rw [eB _ _ h] at c
 rw [kX l k h,dW,bQ,bj,if_neg]
 rintro ⟨a,b⟩
 refine c ⟨?_,b⟩
 rw [<-ja _ _ h,a];rfl
theorem oG (l:List UInt8) (k:Nat) (h:l.length<=k):dW (l.drop k)=none:=by
 rw [fG h];rfl
theorem na (l:List UInt8) (k:Nat) (h:k<l.length):cd (l.drop k) =
  if cls (ak l k)=1 then 1+cd (l.drop (k+1))
  else if ak l k=37 then br eh (l.drop k)+cd (l.drop (k+br eh (l.drop k)))
  else if ak l k=47/\ak l (k+1)=42 then
   match dW (l.drop (k+2)) with
   | none=>0
   | some j=>(j+4)+cd (l.drop (k+(j+4)))
  else 0:=by
 rw [sR]
 have:(l.drop k).isEmpty=false:=by
  rw [kX l k h];rfl
 rw [this]
 simp only [Bool.false_eq_true,if_false,bQ,List.drop_drop,bj]
theorem sP (l:List UInt8) (k:Nat) (h:l.length<=k):cd (l.drop k)=0:=by
 rw [fG h];rfl
theorem sO (l:List UInt8) (k:Nat) (h:k<l.length) (a:cls (ak l k)=1):cd (l.drop k)=1+cd (l.drop (k+1)):=by rw [na l k h,if_pos a]
theorem sN (l:List UInt8) (k:Nat) (h:k<l.length) (a:¬cls (ak l k)=1) (b:ak l k=37):cd (l.drop k)=br eh (l.drop k)+cd (l.drop (k+br eh (l.drop k))):=by rw [na l k h,if_neg a,if_pos b]
theorem qK (l:List UInt8) (k:Nat) (h:k<l.length) (a:ak l k=47) (b:ak l (k+1)=42) (c:dW (l.drop (k+2))=none):cd (l.drop k)=0:=by
 rw [na l k h,if_neg (by rw [a];decide),if_neg (by rw [a];decide),if_pos ⟨a,b⟩,c]
theorem sQ (l:List UInt8) (k j:Nat) (h:k<l.length) (a:ak l k=47) (b:ak l (k+1)=42) (c:dW (l.drop (k+2))=some j):cd (l.drop k)=(j+4)+cd (l.drop (k+(j+4))):=by
 rw [na l k h,if_neg (by rw [a];decide),if_neg (by rw [a];decide),if_pos ⟨a,b⟩,c]
theorem oS (l:List UInt8) (k:Nat) (h:k<l.length) (a:¬cls (ak l k)=1) (b:¬ak l k=37) (c:¬(ak l k=47/\ak l (k+1)=42)):cd (l.drop k)=0:=by
 rw [na l k h,if_neg a,if_neg b,if_neg c]
theorem zq {p:Prop} (h:p):Go.RowKit.Hid p:=Go.Lib.hid h
theorem bz {a w w':Go.World} (h:Go.RowKit.Hid (Go.RowKit.Below a.heap.size a w)) (b:Go.RowKit.Below w.heap.size w w'):Go.RowKit.Hid (Go.RowKit.Below a.heap.size a w'):=zq (h.out.trans (b.mono h.out.size))
theorem lz {α:Type} (a:α):∃x,Go.RowKit.Hid (x=a):=⟨_,zq rfl⟩
theorem oz {p:Prop} [Decidable p] (h:decide p=true):p:=of_decide_eq_true h
end Hb
