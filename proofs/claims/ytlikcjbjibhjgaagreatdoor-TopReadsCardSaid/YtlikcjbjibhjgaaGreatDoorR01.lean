/- Parts of the proof. -/
import Derived.WalkKit
import Derived.WalkSpells
import Derived.WalkLawsBesides
import Derived.LoopTactic
import Derived.Outline
import Derived.Lib.Hide
import Derived.Deep.QuietTactic
import Derived.BigQuiet
import Derived.Laws.Strings
import Derived.Maps.AppendAt
import Derived.Deep.DeepMust
import Derived.Test.YtlikcjbjibhjgaaGreatDoorProg
import Derived.RegionTactic
import Derived.Deep.RegionWith
import Derived.Laws.EntriesVeiled
import Derived.Deep.CutBlock
import Derived.Sort.Walk0
import Derived.Test.YtlikcjbjibhjgaaGreatDoorChecked
import Derived.LoopN
import Derived.Deep.RegionHeld3
set_option maxHeartbeats 12800000
set_option maxRecDepth 100000
open Bool renaming and_eq_false_iff -> gx, and_eq_true -> aF, true_and -> dl
open ByteArray.toList renaming loop -> ft
open Go renaming Calls -> aJ, Program -> dz, TypeId -> bD, Value -> az, World -> ai, bodyPost_ret -> ay, maxLen -> be, rounds_succ -> iy, run_convert_bytes_back -> iM, wpList -> cH
open Go.Ending renaming returned -> aw, returned -> eA
open Go.IntKind renaming i64 -> ae
open Go.Lib renaming hid -> bi
open Go.Proofs.Tryz renaming prog -> ah
open Go.RowKit renaming Below -> ax
open Go.RowKit.Below renaming refl -> aj
open Go.Value renaming bool -> am, int -> ab, ownBlock -> ew, pointer -> au, string -> aa, tuple -> aK
open Go.World renaming cell?_alloc_new -> aq, cell?_of_block -> bG, grownBy_alloc -> dw
open List renaming all_eq_true -> bh, getElem?_eq_getElem -> ba, getElem_mem -> aR, getElem_of_mem -> cI, mem_range -> dx, take_of_length_le -> bA, take_succ_eq_append_getElem -> aO
open Nat renaming le_of_lt -> fd, le_refl -> ag, le_trans -> aI, lt_of_lt_of_le -> aC, lt_or_ge -> cS, lt_trans -> gc, zero_le -> bp
namespace Hb
open Go Go.RowKit
theorem dn {k:IntKind} {a b:Int} (h:a=b):eA (ab k a)=aw (ab k b):=by rw [h]
theorem bN {a b:Bool} (h:a=b):eA (am a)=aw (am b):=by rw [h]
theorem oM {a b:ByteArray} (h:a=b):eA (aa a)=aw (aa b):=by rw [h]
theorem xj {k:IntKind} {a c:Int} {b d:Bool} (h:a=c) (e:b=d):eA (aK #[ab k a,am b])=aw (aK #[ab k c,am d]):=by rw [h,e]
theorem xi {a c:ByteArray} {b d:Bool} (h:a=c) (e:b=d):eA (aK #[aa a,am b])=aw (aK #[aa c,am d]):=by rw [h,e]
theorem xh {a b:az} (h:a=b):eA a=aw b:=by rw [h]
theorem kR {P:dz} {f:FuncId} {args:Array az} {w:ai} {n:Nat} {v:az}
  (h:aJ P f args (w.drewN n) fun e w'=>e=aw v/\w.drewN n=w'):aJ P f args (w.drewN n) fun e a=>e=aw v/\∃m,a=w.drewN m :=
 h.mono fun _ _ ⟨he,hm⟩=>⟨he,n,hm.symm⟩
theorem dS {B:Nat} {a w:ai} (h:ax B a w) (n:Nat):ax B a (w.drewN n):=h.trans ⟨rfl,rfl,rfl,ag _,fun _ _=>rfl⟩
theorem size_data (s:ByteArray):s.data.toList.length=s.size:=by simp
def byteCells (l:List UInt8):List az:=l.map fun b=>ab .u8 (b.toNat:Int)
theorem uH (l:List UInt8) (b:UInt8):byteCells (l++[b])=byteCells l++[ab .u8 (b.toNat:Int)]:=by simp [byteCells]
theorem pl (l:List UInt8):(byteCells l).length=l.length:=by simp [byteCells]
theorem qM {P:dz} (w:ai) (b a e:bD) (h:P.underlying b=some (.slice e)) (c:P.underlying e=some (.int .u8)) (hd:P.underlying a=some .string)
  (i:Nat) (v:az) (n:Nat) (l:List UInt8) (f:w.ownsRow i e 1 v n (byteCells l)) :
  (convert b a v).run P w=.ok (aa ⟨l.toArray⟩) w:=by
 have d:=f.1
 rw [pl,Nat.mul_one] at d
 rcases f.2 with ⟨rfl,t⟩ | ⟨g,k,m,rfl,_,q,u,_,x,s⟩
 ·have:l=[]:=List.eq_nil_of_length_eq_zero (by omega)
  subst this
  exact run_convert_bytes_nil w b e h c _ _ a hd
 ·subst d
  refine iM w b a e ⟨g,0,none⟩ k l h c hd fun j r=>?_
  have o:(⟨g,0,none⟩:Addr).add j=⟨g,j,none⟩:=by unfold Addr.add;split <;> simp_all
  rw [o]
  have p:m.toList[j]? = some (ab .u8 (l[j].toNat:Int)):=by
   have:(byteCells l)[j]? = some (ab .u8 (l[j].toNat:Int)):=by simp [byteCells,ba r]
   rw [<-s,List.getElem?_take_of_lt (by omega)] at this
   exact this
  show World.cell? w _=_
  unfold World.cell?
  simp only [q]
  simpa using p
theorem rN {P:dz} (b a e:bD) (f:P.underlying b=some (.slice e)) (c:P.underlying e=some (.int .u8)) (hd:P.underlying a=some .string)
  (n:Int) (g:0<=n) (h:n<=255) (w:ai):(convert b a (.slice (some ⟨w.heap.size,0,none⟩) 1 1)).run P (w.alloc (.cells #[ab .u8 n] e))=.ok (aa ⟨#[n.toNat.toUInt8]⟩) (w.alloc (.cells #[ab .u8 n] e)):=by
 refine iM (w.alloc (.cells #[ab .u8 n] e)) b a e ⟨w.heap.size,0,none⟩ 1 [n.toNat.toUInt8] f c hd fun j d=>?_
 have:j=0:=by simp at d;omega
 subst this
 show (w.alloc (.cells #[ab .u8 n] e)).cell? ⟨w.heap.size,0,none⟩=_
 rw [aq]
 simp;omega
theorem dO {P:dz} {w:ai} {q:Array Oper} {rest:List Oper} {o:Oper} {a:Act} {Q:Exit->Act->ai->Prop} (D:o.guard=none) (s x:Operand) (t e:bD)
  (G:o.op=.call { callee:=.builtin .append,args:=#[s,x],argTypes:=#[t,t] }) (K:P.underlying t=some (.slice e)) (z:az) (size f:Nat)
  (F:(P.info? e).map (fun i=>(i.zero,i.size,i.bytes))=some (some z,size,f)) (T:z.cells.size=size) (J:0<size)
  (b:Nat) (v:az) (n:Nat) (xs:List az) (I:a.eval s=v) (W:ai) (p:W.ownsRow b e size v n xs) (c:Array az) (C:c.size=size) (y:∀u∈c.toList,u.oneCell'=true)
  (M:w=W.alloc (.cells c e)) (N:a.eval x=.slice (some ⟨W.heap.size,0,none⟩) 1 1) (X:n+1<=4611686018427387904) (B:(n+1) * f<=140737488355328) (A:b<=W.heap.size)
  (h:∀d w',w'.ownsRow b e size d (n+1) (xs++c.toList)->ax b W w'->w.grownBy w' v.ownBlock->cH P q Q rest (a.put o.dst d) w'):cH P q Q (o::rest) a w:=by
 subst M
 obtain ⟨i,E,O,R,S⟩:=info_parts F
 refine wpList_append_own _ D s x t G b e i z size f K E O R S T J v n xs I (p.alloc _) ⟨W.heap.size,0,none⟩ 1 1 c.toList N (by simp [C]) ?_ y (by unfold be;omega) B (by simp;omega) ?_
 ·intro j u L
  have r:(⟨W.heap.size,0,none⟩:Addr).add j=⟨W.heap.size,j,none⟩:=by unfold Addr.add;split <;> simp_all
  rw [r,aq]
  simpa using L
 ·intro d w' H l _
  refine h d w' H ?_ l
  refine (((aj b W).alloc A _).grown l (by simp;omega) ?_)
  intro k m
  rcases p.2 with ⟨rfl,_⟩ | ⟨g,U,V,rfl,Y,_⟩
  ·simp [ew] at m
  ·simp [ew] at m;omega
theorem eV {P:dz} {w:ai} {f:Array Oper} {rest:List Oper} {o:Oper} {a:Act} {Q:Exit->Act->ai->Prop} (k:o.guard=none) (s x:Operand) (t e:bD)
  (p:o.op=.call { callee:=.builtin .append,args:=#[s,x],argTypes:=#[t,t] }) (y:P.underlying t=some (.slice e))
  (m:(P.info? e).map (fun i=>(i.zero,i.size,i.bytes))=some (some (ab .u8 0),1,1))
  (b:Nat) (v:az) (n:Nat) (l:List UInt8) (u:a.eval s=v) (W:ai) (r:W.ownsRow b e 1 v n (byteCells l)) (c:Int) (B:0<=c) (C:c<=255)
  (z:w=W.alloc (.cells #[ab .u8 c] e)) (A:a.eval x=.slice (some ⟨W.heap.size,0,none⟩) 1 1) (D:n<=70368744177664) (j:b<=W.heap.size)
  (h:∀d w',w'.ownsRow b e 1 d (n+1) (byteCells (l++[c.toNat.toUInt8]))->ax b W w'->cH P f Q rest (a.put o.dst d) w'):cH P f Q (o::rest) a w:=by
 refine dO k s x t e p y _ 1 1 m rfl (by decide) b v n _ u W r #[ab .u8 c] rfl (by simp [Value.oneCell']) z A (by omega) (by omega) j fun d w' q g _=>h d w' ?_ g
 rw [uH]
 have:((c.toNat.toUInt8).toNat:Int)=c:=by simp;omega
 rw [this];exact q
def Pairs (w:ai) (A:Option Addr) (l:List (Int×Int)):Prop :=
 ∀j (h:j<l.length),∃b off,A=some ⟨b,off,none⟩/\b<w.heap.size/\w.cell? ⟨b,off+j * 2,none⟩=some (ab ae l[j].1)/\w.cell? ⟨b,off+j * 2+1,none⟩=some (ab ae l[j].2)
theorem Pairs.below {w w':ai} {A:Option Addr} {l:List (Int×Int)} (h:Pairs w A l) (a:ax w.heap.size w w'):Pairs w' A l:=fun j g=>by
 obtain ⟨b,i,e,c,d,f⟩:=h j g
 exact ⟨b,i,e,aC c a.size,(a.cell (p:=⟨b,_,none⟩) c).trans d,(a.cell (p:=⟨b,_,none⟩) c).trans f⟩
theorem Pairs.nil (w:ai) (A:Option Addr):Pairs w A []:=fun j h=>absurd h (by simp)
inductive Tm where
 | mk (kind num:Int) (name:ByteArray) (args:List Tm)
def Tm.kind:Tm->Int | .mk k _ _ _=>k
def Tm.num:Tm->Int | .mk _ n _ _=>n
def Tm.name:Tm->ByteArray | .mk _ _ s _=>s
def Tm.args:Tm->List Tm | .mk _ _ _ l=>l
theorem Tm.ind {P:Tm->Prop} (h:∀t:Tm,(∀a∈t.args,P a)->P t):∀t,P t :=
 Tm.rec (motive_1:=P) (motive_2:=fun l=>∀a∈l,P a) (fun k n s l g=>h (.mk k n s l) g) (fun a f=>by cases f) (fun a l d e b c=>by
  rcases List.mem_cons.1 c with rfl | c
  ·exact d
  ·exact e b c)
inductive TmsK (K:Nat->Prop) (w:ai):Option Addr->List Tm->Prop
 | mk (A:Option Addr) (l:List Tm) (F:Nat->Option Addr) (C:Nat->Nat) (hl:l.length<=be)
  (hc:∀j (hj:j<l.length),∃b off,A=some ⟨b,off,none⟩/\K b/\w.cell? ⟨b,off+j * 4,none⟩=some (ab ae l[j].kind)/\w.cell? ⟨b,off+j * 4+1,none⟩=some (ab ae l[j].num)/\w.cell? ⟨b,off+j * 4+2,none⟩=some (aa l[j].name)/\w.cell? ⟨b,off+j * 4+3,none⟩=some (.slice (F j) l[j].args.length (C j)))
  (hs:∀j (hj:j<l.length),TmsK K w (F j) l[j].args):TmsK K w A l
theorem TmsK.len {K:Nat->Prop} {w:ai} {A:Option Addr} {l:List Tm} (h:TmsK K w A l):l.length<=be:=by cases h;assumption
theorem TmsK.get {K:Nat->Prop} {w:ai} {A:Option Addr} {l:List Tm} (h:TmsK K w A l) (j:Nat) (c:j<l.length) :
  ∃b a A' cap',A=some ⟨b,a,none⟩/\K b/\w.cell? ⟨b,a+j * 4,none⟩=some (ab ae l[j].kind)/\w.cell? ⟨b,a+j * 4+1,none⟩=some (ab ae l[j].num)/\w.cell? ⟨b,a+j * 4+2,none⟩=some (aa l[j].name)/\w.cell? ⟨b,a+j * 4+3,none⟩=some (.slice A' l[j].args.length cap')/\TmsK K w A' l[j].args:=by
 cases h with
 | mk A l F C hl hc hs=>
  obtain ⟨b,a,e,k,d,f,g,i⟩:=hc j c
  exact ⟨b,a,F j,C j,e,k,d,f,g,i,hs j c⟩
theorem TmsK.keep {K K':Nat->Prop} {w w':ai} {A:Option Addr} {l:List Tm} (h:TmsK K w A l) (k:∀b,K b->w'.heap[b]? = w.heap[b]?) (m:∀b,K b->K' b):TmsK K' w' A l:=by
 induction h with
 | mk A l F C hl hc _ ih=>
  refine .mk A l F C hl (fun j n=>?_) ih
  obtain ⟨b,p,e,c,d,f,g,i⟩:=hc j n
  have a:∀o,w'.cell? ⟨b,o,none⟩=w.cell? ⟨b,o,none⟩:=fun o=>bG (k b c)
  exact ⟨b,p,e,m b c,(a _).trans d,(a _).trans f,(a _).trans g,(a _).trans i⟩
theorem TmsK.nil {K:Nat->Prop} {w:ai} {A:Option Addr}:TmsK K w A []:=.mk A [] (fun _=>.none) (fun _=>0) (by decide) (fun j a=>absurd a (by simp)) (fun j a=>absurd a (by simp))
def TmsAt (B:Nat) (w:ai) (A:Option Addr) (l:List Tm):Prop:=TmsK (fun b=>b<B) w A l
theorem TmsAt.len {B:Nat} {w:ai} {A:Option Addr} {l:List Tm} (h:TmsAt B w A l):l.length<=be:=TmsK.len h
theorem TmsAt.get {B:Nat} {w:ai} {A:Option Addr} {l:List Tm} (h:TmsAt B w A l) (j:Nat) (a:j<l.length) :
  ∃b off A' cap',A=some ⟨b,off,none⟩/\b<B/\w.cell? ⟨b,off+j * 4,none⟩=some (ab ae l[j].kind)/\w.cell? ⟨b,off+j * 4+1,none⟩=some (ab ae l[j].num)/\w.cell? ⟨b,off+j * 4+2,none⟩=some (aa l[j].name)/\w.cell? ⟨b,off+j * 4+3,none⟩=some (.slice A' l[j].args.length cap')/\TmsAt B w A' l[j].args:=TmsK.get h j a
theorem TmsAt.keep {B:Nat} {w w':ai} {A:Option Addr} {l:List Tm} (h:TmsAt B w A l) (a:ax B w w'):TmsAt B w' A l:=TmsK.keep h (fun b c=>a.block b c) (fun _ h=>h)
theorem TmsAt.mono {B a:Nat} {w:ai} {A:Option Addr} {l:List Tm} (h:TmsAt B w A l) (b:B<=a):TmsAt a w A l:=TmsK.keep h (fun _ _=>rfl) (fun _ h=>aC h b)
theorem TmsK.at {K:Nat->Prop} {w:ai} {A:Option Addr} {l:List Tm} (h:TmsK K w A l) (a:∀b,K b->b<w.heap.size):TmsAt w.heap.size w A l:=TmsK.keep h (fun _ _=>rfl) a
def er (t:Tm) (A:Option Addr) (a:Nat):az:=.agg #[ab ae t.kind,ab ae t.num,aa t.name,.slice A t.args.length a]
def Tm.nodes:Tm->Nat
 | .mk _ _ _ l=>1+(l.attach.map fun ⟨a,_⟩=>a.nodes).sum
theorem Tm.nodes_eq (t:Tm):t.nodes=1+(t.args.map Tm.nodes).sum:=by
 cases t with
 | mk k n s l=>unfold Tm.nodes Tm.args;simp
theorem Tm.nodes_pos (t:Tm):1<=t.nodes:=by rw [Tm.nodes_eq];omega
def dH (t:Tm):Bool :=
 if t.kind=0 then decide (0<=t.num)&&decide (t.num<=1099511627776)&&t.name.toList==[]&&t.args.length==0
 else if t.kind=1 then t.name.toList==[]&&t.args.length==0
 else if t.kind=2 then t.num==0&&decide (t.name.size<=100)&&t.args.length==0
 else if t.kind=3 then t.num==0&&decide (t.name.size<=100)&&decide (0<t.args.length)&&decide (t.args.length<=8)
 else false
def Tm.allOk:Tm->Bool
 | .mk k n s l=>dH (.mk k n s l)&&l.attach.all fun ⟨a,_⟩=>a.allOk
theorem Tm.allOk_eq (t:Tm):t.allOk=(dH t&&t.args.all Tm.allOk):=by
 cases t with
 | mk k n s l=> 
  have h:l.attach.all (fun x=>x.1.allOk)=(l.attach.map Subtype.val).all Tm.allOk:=by rw [List.all_map];rfl
  rw [List.attach_map_subtype_val] at h
  unfold Tm.allOk
  show (_&&l.attach.all fun x=>x.1.allOk)=(dH _&&l.all Tm.allOk)
  rw [h]
def cd (t:Tm):Bool:=decide (t.nodes<=2000)&&t.allOk
structure Only (g:Nat) (w w':ai):Prop where
 os:w'.os=w.os
 tape:w'.tape=w.tape
 output:w'.output=w.output
 size:w.heap.size<=w'.heap.size
 block:∀k,k<w.heap.size->k≠g->w'.heap[k]? = w.heap[k]?
theorem Only.refl (g:Nat) (w:ai):Only g w w:=⟨rfl,rfl,rfl,ag _,fun _ _ _=>rfl⟩
theorem Only.trans {g:Nat} {a b c:ai} (h:Only g a b) (k:Only g b c):Only g a c :=
 ⟨k.os.trans h.os,k.tape.trans h.tape,k.output.trans h.output,aI h.size k.size,fun i e d=>(k.block i (aC e h.size) d).trans (h.block i e d)⟩
theorem Only.of {g:Nat} {a b:ai} (h:ax a.heap.size a b):Only g a b:=⟨h.os,h.tape,h.output,h.size,fun k c _=>h.block k c⟩
theorem Only.below {g B:Nat} {a b:ai} (h:Only g a b) (c:B<=g) (e:B<=a.heap.size):ax B a b:=⟨h.os,h.tape,h.output,h.size,fun k d=>h.block k (by omega) (by omega)⟩
theorem Only.cell {g:Nat} {a b:ai} (h:Only g a b) {p:Addr} (d:p.block<a.heap.size) (c:p.block≠g):b.cell? p=a.cell? p:=bG (h.block _ d c)
theorem Only.set (g o:Nat) (w:ai) (v:az):Only g w (w.setCell ⟨g,o,none⟩ v):=⟨rfl,rfl,rfl,by simp,fun k _ a=>heap_setCell_other w ⟨g,o,none⟩ k v (fun e=>a (by simp [e]))⟩
theorem Only.alloc (g:Nat) (w:ai) (o:Obj):Only g w (w.alloc o):=.of ((aj _ _).alloc (ag _) o)
def ro (l:List Tm) (k:Nat):Nat:=((l.take k).map Tm.nodes).sum
theorem vx (l:List Tm):ro l 0=0:=rfl
theorem rn (l:List Tm) (k:Nat) (a:k<l.length):ro l (k+1)=ro l k+l[k].nodes:=by
 unfold ro
 rw [aO a,List.map_append,List.sum_append]
 simp
theorem CJ (l:List Tm):∀d k,ro l k<=ro l (k+d):=by
 intro d
 induction d with
 | zero=>intro k;exact ag _
 | succ d ih=>
  intro k
  refine aI (ih k) ?_
  rcases cS (k+d) l.length with h | h
  ·rw [show k+(d+1)=(k+d)+1 by omega,rn l (k+d) h];omega
  ·unfold ro
   rw [bA h,bA (by omega)]
   exact ag _
theorem yB (t:Tm):t.nodes=1+ro t.args t.args.length:=by
 rw [Tm.nodes_eq];unfold ro;rw [List.take_length]
structure TBoxT (w0 w:ai) (t:Tm) (A:Option Addr) (cap:Nat):Prop where
 bel:ax w0.heap.size w0 w
 lt:w0.heap.size<w.heap.size
 c0:w.cell? ⟨w0.heap.size,0,none⟩=some (ab ae t.kind)
 c1:w.cell? ⟨w0.heap.size,1,none⟩=some (ab ae t.num)
 c2:w.cell? ⟨w0.heap.size,2,none⟩=some (aa t.name)
 c3:w.cell? ⟨w0.heap.size,3,none⟩=some (.slice A t.args.length cap)
theorem TBoxT.call {w0 w w':ai} {t:Tm} {A:Option Addr} {b:Nat} (h:TBoxT w0 w t A b) (a:ax w.heap.size w w'):TBoxT w0 w' t A b where
 bel:=h.bel.trans (a.mono (fd h.lt))
 lt:=aC h.lt a.size
 c0:=(a.cell (p:=⟨_,_,none⟩) h.lt).trans h.c0
 c1:=(a.cell (p:=⟨_,_,none⟩) h.lt).trans h.c1
 c2:=(a.cell (p:=⟨_,_,none⟩) h.lt).trans h.c2
 c3:=(a.cell (p:=⟨_,_,none⟩) h.lt).trans h.c3
theorem TBoxT.start (w:ai) (t:Tm) (A:Option Addr) (a:Nat) (e:bD):TBoxT w (w.alloc (.cells #[ab ae t.kind,ab ae t.num,aa t.name,.slice A t.args.length a] e)) t A a where
 bel:=(aj _ _).alloc (ag _) _
 lt:=by simp
 c0:=aq _ _ _ 0
 c1:=aq _ _ _ 1
 c2:=aq _ _ _ 2
 c3:=aq _ _ _ 3
end Hb
namespace Go.Proofs.YtlikcjbjibhjgaaGreatDoor
open Go.RowKit Hb
theorem ED:∀(t:Tm) (A:Option Addr) (g most:Nat) (w:ai),TmsAt w.heap.size w A t.args->1<=most->most<=2001 ->
  aJ ah 54 #[er t A g,ab ae most] w fun e w'=>e=aw (ab ae (min t.nodes most:Nat))/\ax w.heap.size w w':=by
 refine Tm.ind fun t F=>?_
 intro A g most w m V W
 have K:=bi (TBoxT.start w t A g 25)
 have J:=bi m
 have y:=m.len
 unfold be at y
 have r:=bi (yB t)
 have I:=bi F
 clear m F
 obtain ⟨L,d⟩:∃L,Hid (L=t.args.length):=⟨_,bi rfl⟩
 unfold er
 rw [<-d.out] at y |-
 go_enter Tryz.func54,Tryz.ntmps54
 go_wp2_with fail
 go_loopw [5,6] (fun c i wr=>∃k n:Nat,k<=L/\c=ab ae n/\i=ab ae k/\n=min (1+ro t.args k) most/\Hid (TBoxT w wr t A g)) (fun _ i _=>L-(intOf i).toNat)
 case atStart=>exact ⟨0,1,bp _,rfl,rfl,by rw [vx];omega,by rw [d.out];exact K⟩
 case round=>
  obtain ⟨k,n,Y,rfl,rfl,h,a⟩:=hrel
  have u:=a.out.c3
  rw [<-d.out] at u
  by_cases Z:k<L
  ·by_cases a5:n<most
   ·have p:k<t.args.length:=by have:=d.out;omega
    obtain ⟨b,a8,G,Q,rfl,X,M,N,O,P,C⟩:=(J.out.keep a.out.bel).get k p
    have D:=C.mono a.out.bel.size
    have l:=bi (I.out t.args[k] (aR p) G Q (most-n) wr D (by omega) (by omega))
    have E:=rn t.args k p
    unfold er at l
    have a4:((most:Int)-(n:Int))=((most-n:Nat):Int):=by omega
    obtain ⟨q,z⟩:∃q,q=min t.args[k].nodes (most-n):=⟨_,rfl⟩
    rw [<-z] at l
    have B:n+q=min (1+ro t.args (k+1)) most:=by rw [E];omega
    clear C D z E h
    generalize t.args[k].kind=a0 at *
    generalize t.args[k].num=S at *
    generalize t.args[k].name=T at *
    generalize t.args[k].args.length=U at *
    have s:=bi B
    clear B
    go_wp2_with fail
    refine l.out.mono ?_;rintro e w1 ⟨rfl,x⟩
    have H:=bi (a.out.call x)
    have a7:n+q<=2001:=by have:=s.out;omega
    clear u M N O P x
    go_wp2_with fail
    go_roundw
    case rel=>exact ⟨k+1,n+q,by omega,by go_num,by go_num,s.out,H⟩
    case measure=>simp [intOf] <;> omega
   ·have f:n=min t.nodes most:=by
     have R:=CJ t.args (t.args.length-k) k
     have v:=d.out
     rw [show k+(t.args.length-k)=t.args.length by omega] at R
     rw [r.out];omega
    have j:=bi f
    have o:=a.out.bel
    have a6:¬(n:Int)<(most:Int):=by omega
    clear f h
    go_wp2_with fail
    go_ret
    exact ⟨dn (by rw [j.out]),o⟩
  ·have f:n=min t.nodes most:=by
    have v:=d.out
    rw [r.out,<-v,h,show k=L by omega]
   have j:=bi f
   have o:=a.out.bel
   clear f h
   go_wp2_with fail
   go_ret
   exact ⟨dn (by rw [j.out]),o⟩
theorem GN (t:Tm) (A:Option Addr) (a:Nat) (w:ai) (d:TmsAt w.heap.size w A t.args):aJ ah 30 #[er t A a] w fun e w'=>e=aw (ab ae (min t.nodes 2001:Nat))/\ax w.heap.size w w':=by
 have c:=bi (TBoxT.start w t A a 25)
 have f:=bi (fun (b:ai) (h:TBoxT w b t A a)=>ED t A a 2001 b ((d.keep h.bel).mono h.bel.size) (by decide) (by decide))
 unfold er at *
 clear d
 generalize min t.nodes 2001=m at *
 generalize t.kind=a0 at *
 generalize t.num=j at *
 generalize t.name=k at *
 generalize t.args.length=l at *
 go_enter Tryz.func30,Tryz.ntmps30
 go_wp2_with fail
 refine (f.out _ c.out).mono ?_;rintro e b ⟨rfl,g⟩
 have i:=(c.out.call g).bel
 go_wp2_with fail
 go_ret
 exact ⟨rfl,i⟩
theorem GO (t:Tm) (A:Option Addr) (a:Nat) (w:ai) (_hm:t.args.length<=be):aJ ah 55 #[er t A a] w fun e w'=>e=aw (am (dH t))/\ax w.heap.size w w':=by
 unfold er
 go_enter Tryz.func55,Tryz.ntmps55
 go_wp2_with fail
 all_goals go_ret
 all_goals refine ⟨bN ?_,(aj _ _).alloc (ag _) _⟩
 all_goals unfold dH
 all_goals grind
theorem EC:∀(t:Tm) (A:Option Addr) (c:Nat) (w:ai),TmsAt w.heap.size w A t.args ->
  aJ ah 31 #[er t A c] w fun e w'=>e=aw (am t.allOk)/\ax w.heap.size w w':=by
 refine Tm.ind fun t E=>?_
 intro A c w u
 have o:=bi (TBoxT.start w t A c 25)
 have K:=bi u
 have x:=u.len
 have m:=bi (fun r (h:TBoxT w r t A c)=>(GO t A c r x).mono fun _ _ C=>(⟨C.1,h.call C.2⟩:_/\TBoxT w _ t A c))
 unfold be at x
 have I:=bi E
 have l:=bi (Tm.allOk_eq t)
 clear u E
 obtain ⟨L,g⟩:∃L,Hid (L=t.args.length):=⟨_,bi rfl⟩
 unfold er at *
 rw [<-g.out] at x m |-
 cases hno:dH t
 ·rw [hno] at m l
  clear hno
  go_enter Tryz.func31,Tryz.ntmps31
  go_wp2_with fail
  rw [<-g.out] at o
  refine (m.out _ o.out).mono ?_;rintro e r ⟨rfl,p⟩
  have n:=p.bel
  go_wp2_with fail
  go_ret
  exact ⟨bN (by rw [l.out];rfl),n⟩
 ·rw [hno] at m l
  clear hno
  rw [<-g.out] at o
  go_enter Tryz.func31,Tryz.ntmps31
  go_wp2_with fail
  refine (m.out _ o.out).mono ?_;rintro e r ⟨rfl,p⟩
  have M:=bi p
  clear p
  go_wp2_with fail
  go_loopw [3] (fun i wr=>∃k:Nat,k<=L/\i=ab ae k/\Hid (TBoxT w wr t A c)/\Hid (∀j (d:j<t.args.length),j<k->t.args[j].allOk=true)) (fun i _=>L-(intOf i).toNat)
  case atStart=>exact ⟨0,bp _,rfl,M,bi fun j _ d=>absurd d (by omega)⟩
  case round=>
   obtain ⟨k,hk,rfl,f,y⟩:=hrel
   have O:=f.out.c3
   rw [<-g.out] at O
   by_cases a5:k<L
   ·have v:k<t.args.length:=by have:=g.out;omega
    obtain ⟨b,a6,F,P,rfl,Z,V,W,X,Y,D⟩:=(K.out.keep f.out.bel).get k v
    have B:=bi (I.out t.args[k] (aR v) F P wr (D.mono f.out.bel.size))
    have J:Hid (t.args[k].allOk=false->t.allOk=false):=bi fun h=>by
     rw [l.out,dl,List.all_eq_false]
     exact ⟨_,aR v,by rw [h];simp⟩
    have N:Hid (t.args[k].allOk=true->∀j (d:j<t.args.length),j<k+1->t.args[j].allOk=true):=bi fun h j d a4=>by
     rcases cS j k with z | z
     ·exact y.out j d z
     ·have:j=k:=by omega
      subst this;exact h
    clear D
    generalize t.args[k].kind=a0 at *
    generalize t.args[k].num=S at *
    generalize t.args[k].name=T at *
    generalize t.args[k].args.length=U at *
    generalize t.args[k].allOk=q at *
    cases q
    ·go_wp2_with fail
     refine B.out.mono ?_;rintro e R ⟨rfl,s⟩
     have n:=(f.out.call s).bel
     go_wp2_with fail
     go_ret
     exact ⟨bN (J.out (by first | rfl | trivial)).symm,n⟩
    ·go_wp2_with fail
     refine B.out.mono ?_;rintro e R ⟨rfl,s⟩
     have G:=bi (f.out.call s)
     go_wp2_with fail
     go_roundw
     case rel=>exact ⟨k+1,by omega,by go_num,G,bi (N.out (by first | rfl | trivial))⟩
     case measure=>simp [intOf] <;> omega
   ·have H:Hid (t.allOk=true):=bi (by
     rw [l.out,dl,bh]
     intro a Q
     obtain ⟨j,d,rfl⟩:=cI Q
     exact y.out j d (by have:=g.out;omega))
    have n:=f.out.bel
    go_wp2_with fail
    go_ret
    exact ⟨bN H.out.symm,n⟩
theorem pC (t:Tm) (A:Option Addr) (a:Nat) (w:ai) (i:TmsAt w.heap.size w A t.args):aJ ah 8 #[er t A a] w fun e w'=>e=aw (am (cd t))/\ax w.heap.size w w':=by
 have l:=bi (TBoxT.start w t A a 25)
 have f:=bi (fun (c:ai) (h:TBoxT w c t A a)=>(GN t A a c ((i.keep h.bel).mono h.bel.size)).mono fun _ _ d=>(⟨d.1,h.call d.2⟩:_/\TBoxT w _ t A a))
 have n:=bi (fun (c:ai) (h:TBoxT w c t A a)=>(EC t A a c ((i.keep h.bel).mono h.bel.size)).mono fun _ _ d=>(⟨d.1,h.call d.2⟩:_/\TBoxT w _ t A a))
 unfold er at *
 clear i
 by_cases m:t.nodes<=2000
 ·have g:Hid (cd t=t.allOk):=bi (by unfold cd;simp [m])
  have k:min t.nodes 2001=t.nodes:=by omega
  rw [k] at f
  have p:decide ((t.nodes:Int)<=2000)=true:=by simp;omega
  go_enter Tryz.func8,Tryz.ntmps8
  go_wp2_with fail
  refine (f.out _ l.out).mono ?_;rintro e c ⟨rfl,b⟩
  have q:=b.c0
  have r:=b.c1
  have s:=b.c2
  have u:=b.c3
  go_wp2_with fail
  refine (n.out _ b).mono ?_;rintro e v ⟨rfl,o⟩
  have j:=o.bel
  go_wp2_with fail
  go_ret
  exact ⟨bN g.out.symm,j⟩
 ·have g:Hid (cd t=false):=bi (by unfold cd;simp [m])
  have k:min t.nodes 2001=2001:=by omega
  rw [k] at f
  go_enter Tryz.func8,Tryz.ntmps8
  go_wp2_with fail
  refine (f.out _ l.out).mono ?_;rintro e c ⟨rfl,b⟩
  have j:=b.bel
  go_wp2_with fail
  go_ret
  exact ⟨bN g.out.symm,j⟩
end Go.Proofs.YtlikcjbjibhjgaaGreatDoor
namespace Hb
open Go Go.RowKit
structure WalkH (w0 w:ai) (t:Tm) (A:Option Addr) (cap gl M:Nat):Prop where
 only:Hb.Only gl w0 w
 lt:w0.heap.size<w.heap.size
 b3:w.cell? ⟨w0.heap.size,3,none⟩=some (.slice A t.args.length cap)
 cell:w.cell? ⟨gl,0,none⟩=some (ab ae M)
 fr:∀o,w.frozen? ⟨gl,o,none⟩=false
structure LeftN (w0 w:ai) (gl:Nat) (M:Nat):Prop where
 only:Hb.Only gl w0 w
 cell:w.cell? ⟨gl,0,none⟩=some (ab ae M)
 fr:∀o,w.frozen? ⟨gl,o,none⟩=false
theorem WalkH.left {w0 w:ai} {t:Tm} {A:Option Addr} {b a M:Nat} (h:WalkH w0 w t A b a M):LeftN w0 w a M:=⟨h.only,h.cell,h.fr⟩
theorem WalkH.call {w0 w w':ai} {t:Tm} {A:Option Addr} {d a M c:Nat} (h:WalkH w0 w t A d a M) (e:a<w0.heap.size) (b:LeftN w w' a c):WalkH w0 w' t A d a c where
 only:=h.only.trans b.only
 lt:=aC h.lt b.only.size
 b3:=(b.only.cell (p:=⟨w0.heap.size,3,none⟩) h.lt (by show w0.heap.size≠a;omega)).trans h.b3
 cell:=b.cell
 fr:=b.fr
theorem WalkH.start (w:ai) (t:Tm) (A:Option Addr) (c a M b:Nat) (e:bD) (g:b=t.args.length) (f:a<w.heap.size) {u:az} (i:w.cell? ⟨a,0,none⟩=some u) (j:∀o,w.frozen? ⟨a,o,none⟩=false) :
  WalkH w ((w.setCell ⟨a,0,none⟩ (ab ae M)).alloc (.cells #[ab ae t.kind,ab ae t.num,aa t.name,.slice A b c] e)) t A c a M where
 only:=(Hb.Only.set a 0 w _).trans (Hb.Only.alloc a _ _)
 lt:=by simp
 b3:=by
  have h:=aq (w.setCell ⟨a,0,none⟩ (ab ae M)) #[ab ae t.kind,ab ae t.num,aa t.name,.slice A b c] e 3
  have k:(w.setCell ⟨a,0,none⟩ (ab ae M)).heap.size=w.heap.size:=by simp
  rw [k] at h
  rw [h,g];rfl
 cell:=by
  have d:=(aj (w.setCell ⟨a,0,none⟩ (ab ae M)).heap.size (w.setCell ⟨a,0,none⟩ (ab ae M))).alloc (ag _) (.cells #[ab ae t.kind,ab ae t.num,aa t.name,.slice A b c] e)
  rw [d.cell (p:=⟨a,0,none⟩) (by simpa using f)]
  exact World.cell?_setCell_same _ _ _ i
 fr:=fun o=>by
  have d:=(aj (w.setCell ⟨a,0,none⟩ (ab ae M)).heap.size (w.setCell ⟨a,0,none⟩ (ab ae M))).alloc (ag _) (.cells #[ab ae t.kind,ab ae t.num,aa t.name,.slice A b c] e)
  rw [d.frozen (p:=⟨a,o,none⟩) (by simpa using f),World.frozen?_setCell]
  exact j o
structure SizeH (w W:ai) (F:az):Prop where
 bel:ax w.heap.size w W
 lt1:w.heap.size+1<W.heap.size
 lt2:w.heap.size+1+1<W.heap.size
 left:LeftN W W (w.heap.size+1) 2001
 fn:W.cell? ⟨w.heap.size+1+1,0,none⟩=some F
theorem AU (w:ai) (o:Obj) (a d:bD) (F:az):SizeH w (((w.alloc o).alloc (.cells #[ab ae 2001] a)).alloc (.cells #[F] d)) F where
 bel:=(((aj _ _).alloc (ag _) _).alloc (by simp) _).alloc (by simp;omega) _
 lt1:=by simp
 lt2:=by simp
 left:=by
  have b:=aq (w.alloc o) #[ab ae 2001] a 0
  have c:(w.alloc o).heap.size=w.heap.size+1:=by simp
  rw [c] at b
  have e:=(aj ((w.alloc o).alloc (.cells #[ab ae 2001] a)).heap.size ((w.alloc o).alloc (.cells #[ab ae 2001] a))).alloc (ag _) (.cells #[F] d)
  refine ⟨Hb.Only.refl _ _,(e.cell (p:=⟨w.heap.size+1,0,none⟩) (by simp)).trans b,fun k=>?_⟩
  rw [e.frozen (p:=⟨w.heap.size+1,k,none⟩) (by simp)]
  exact World.frozen?_alloc_at (w:=w.alloc o) #[ab ae 2001] a (w.heap.size+1) k c.symm
 fn:=by
  have b:=aq ((w.alloc o).alloc (.cells #[ab ae 2001] a)) #[F] d 0
  have c:((w.alloc o).alloc (.cells #[ab ae 2001] a)).heap.size=w.heap.size+1+1:=by simp
  rw [c] at b
  exact b
end Hb
namespace Go.Proofs.YtlikcjbjibhjgaaGreatDoor
open Go.RowKit Hb
def yr (a b:Nat):az:=.func (.func 93) #[] #[au (some ⟨a,0,none⟩),au (some ⟨b,0,none⟩)]
theorem Es:∀(t:Tm) (A:Option Addr) (m B a c L:Nat) (w:ai),TmsAt B w A t.args->B<=a->B<=c->a≠c->a<w.heap.size->c<w.heap.size->1<=L->L<=2001->LeftN w w a L->w.cell? ⟨c,0,none⟩=some (yr a c) ->
  aJ ah 93 #[er t A m,au (some ⟨a,0,none⟩),au (some ⟨c,0,none⟩)] w fun e w'=>e=aw (aK #[])/\LeftN w w' a (L-t.nodes):=by
 refine Tm.ind fun t S=>?_
 intro A m B a c L w z J a6 P N a9 h1 h2 y K
 have O:=z.len
 unfold be at O
 have Y:=bi z
 have E:=bi (yB t)
 have W:=bi S
 have j:=y.cell
 have s:=y.fr
 have a5:=s 0
 have b0:(L:Int)-1=((L-1:Nat):Int):=by omega
 obtain ⟨f,g⟩:∃f,Hid (f=t.args.length):=⟨_,bi rfl⟩
 clear z S
 unfold er
 rw [<-g.out] at O |-
 have G:=bi (WalkH.start w t A m a (L-1) f 25 g.out N j s)
 have V:=bi K
 go_enter Tryz.func93,Tryz.ntmps93
 go_wp2_with fail
 clear y K j s a5 b0
 go_loopw [4] (fun i wr=>∃k M:Nat,k<=f/\i=ab ae k/\M=L-(1+ro t.args k)/\Hid (WalkH w wr t A m a M)) (fun i _=>f-(intOf i).toNat)
 case atStart=>exact ⟨0,L-1,bp _,rfl,by rw [vx],G⟩
 case round=>
  clear G
  obtain ⟨k,M,hk,rfl,o,d⟩:=hrel
  have H:=d.out.b3
  rw [<-g.out] at H
  have j:=d.out.cell
  by_cases b5:k<f
  ·by_cases b1:0<M
   ·have C:k<t.args.length:=by have:=g.out;omega
    have a7:ax B w wr:=d.out.only.below J (by omega)
    obtain ⟨b,b7,T,a4,rfl,hb,Z,c1,c2,c3,Q⟩:=(Y.out.keep a7).get k C
    have u:wr.cell? ⟨c,0,none⟩=some (yr a c):=(d.out.only.cell (p:=⟨c,0,none⟩) a9 (fun h=>P h.symm)).trans V.out
    have b6:=d.out.only.size
    have F:=bi (W.out t.args[k] (aR C) T a4 B a c M wr.drew (Q.keep (aj B wr).drew) J a6 P (by show a<wr.heap.size;omega) (by show c<wr.heap.size;omega) b1 (by omega) ⟨Hb.Only.refl _ _,j,d.out.fr⟩ u)
    have R:=rn t.args k C
    have X:Hid (M-t.args[k].nodes=L-(1+ro t.args (k+1))):=bi (by rw [R];omega)
    unfold er at F
    unfold yr at u
    clear Q R o
    have b2:(0:Int)<=(k:Int):=by omega
    have b4:(k:Int)<(f:Int):=by omega
    generalize t.args[k].kind=a0 at *
    generalize t.args[k].num=a1 at *
    generalize t.args[k].name=a2 at *
    generalize t.args[k].args.length=a3 at *
    generalize t.args[k].nodes=q at *
    go_wp2_with fail
    go_region_with (first | (go_at_call 93;(with_reducible refine F.out.mono ?_);rintro e w2 ⟨rfl,n⟩))
    all_goals
     have U:=bi (d.out.call N (⟨(Hb.Only.of (aj wr.heap.size wr).drew).trans n.only,n.cell,n.fr⟩:LeftN wr w2 a (M-q)))
     clear H j Z c1 c2 c3 u n
     go_wp2_with fail
     go_roundw
     case rel=>exact ⟨k+1,M-q,by omega,by go_num,X.out,U⟩
     case measure=>simp [intOf] <;> omega
   ·have a8:M=0:=by omega
    subst a8
    have I:=CJ t.args (t.args.length-k) k
    have x:=g.out
    rw [show k+(t.args.length-k)=t.args.length by omega] at I
    have l:L-t.nodes=0:=by rw [E.out];omega
    have r:=bi l
    have D:=d.out.left
    clear l I x o
    go_wp2_with fail
    refine bodyPost_end (v:=aK #[]) (by simp [results,Tryz.results93,go_sem]) rfl ⟨rfl,by rw [r.out];exact D⟩
  ·have l:M=L-t.nodes:=by
    have x:=g.out
    rw [E.out,<-x,o,show k=f by omega]
   have r:=bi l
   have D:=d.out.left
   clear l o
   go_wp2_with fail
   refine bodyPost_end (v:=aK #[]) (by simp [results,Tryz.results93,go_sem]) rfl ⟨rfl,by rw [<-r.out];exact D⟩
theorem Et (t:Tm) (A:Option Addr) (b:Nat) (w:ai) (h:TmsAt w.heap.size w A t.args):aJ ah 63 #[er t A b] w fun e w'=>e=aw (ab ae (min t.nodes 2001:Nat))/\ax w.heap.size w w':=by
 have a:=bi (fun (o:Obj)=>AU w o 3 154 (yr (w.heap.size+1) (w.heap.size+1+1)))
 have k:=bi (fun (o:Obj)=>Es t A b w.heap.size (w.heap.size+1) (w.heap.size+1+1) 2001 _ (h.keep (a.out o).bel) (by omega) (by omega) (by omega) (a.out o).lt1 (a.out o).lt2 (by decide) (by decide) (a.out o).left (a.out o).fn)
 clear h
 have i:(2001:Int)-((2001-t.nodes:Nat):Int)=((min t.nodes 2001:Nat):Int):=by omega
 have j:=bi i
 clear i
 unfold er yr at *
 generalize t.kind=a0 at *
 generalize t.num=c at *
 generalize t.name=d at *
 generalize t.args.length=f at *
 go_enter Tryz.func63,Tryz.ntmps63
 go_wp2_with fail
 refine (k.out _).mono ?_;rintro e q ⟨rfl,g⟩
 have m:=g.cell
 have l:=(a.out (.cells #[ab ae a0,ab ae c,aa d,.slice A f b] 25)).bel.trans (g.only.below (by omega) (a.out (.cells #[ab ae a0,ab ae c,aa d,.slice A f b] 25)).bel.size)
 have n:(0:Int)<=((2001-t.nodes:Nat):Int):=by omega
 have p:((2001-t.nodes:Nat):Int)<=2001:=by omega
 go_wp2_with fail
 go_ret
 exact ⟨dn (by rw [<-j.out]),l⟩
end Go.Proofs.YtlikcjbjibhjgaaGreatDoor
namespace Hb
open Go Go.RowKit
def uT (t:Tm) (k:Nat):Bool:=dH t&&(t.args.take k).all Tm.allOk
theorem ET (t:Tm):uT t 0=dH t:=by unfold uT;simp
theorem EU (t:Tm) (k:Nat) (h:k<t.args.length):uT t (k+1)=(uT t k&&t.args[k].allOk):=by
 unfold uT;rw [aO h,List.all_append,Bool.and_assoc];simp
theorem Ie (t:Tm) (k:Nat) (h:t.args.length<=k):uT t k=t.allOk:=by
 rw [Tm.allOk_eq];unfold uT;rw [bA h]
theorem Ky (t:Tm) (k:Nat) (h:uT t k=false):t.allOk=false:=by
 rw [Tm.allOk_eq]
 unfold uT at h
 cases h1:dH t
 ·rfl
 ·rw [h1,dl] at h
  rw [dl,List.all_eq_false] at *
  obtain ⟨x,a,b⟩:=h
  exact ⟨x,List.mem_of_mem_take a,b⟩
end Hb
namespace Go.Proofs.YtlikcjbjibhjgaaGreatDoor
open Go.RowKit Hb
theorem IF:∀(t:Tm) (A:Option Addr) (c:Nat) (w:ai),TmsAt w.heap.size w A t.args ->
  aJ ah 64 #[er t A c] w fun e w'=>e=aw (am t.allOk)/\ax w.heap.size w w':=by
 refine Tm.ind fun t u=>?_
 intro A c w l
 have o:=bi (TBoxT.start w t A c 25)
 have z:=bi l
 have r:=l.len
 unfold be at r
 have y:=bi u
 have x:=bi (ET t)
 clear l u
 obtain ⟨L,d⟩:∃L,Hid (L=t.args.length):=⟨_,bi rfl⟩
 unfold er at *
 rw [<-d.out] at r |- o
 go_enter Tryz.func64,Tryz.ntmps64
 go_upto_block 0 with fail
 go_cut [0,3] from 4 (fun p q wc=>p=.agg #[ab ae t.kind,ab ae t.num,aa t.name,.slice A L c]/\q=am (dH t)/\wc=w.alloc (.cells #[ab ae t.kind,ab ae t.num,aa t.name,.slice A L c] 25))
 case first=>
  go_wp2_with fail
  all_goals
   go_meet
   case rel=>
    refine ⟨?_,?_,?_⟩
    ·first | rfl | simp only [*]
    ·unfold dH
     rw [<-d.out]
     congr 1
     grind
    ·first | rfl | simp only [*]
 case rest=>
  obtain ⟨rfl,rfl,rfl⟩:=hcut
  go_wp2_with fail
  go_loopw [3,4] (fun b i wr=>∃k:Nat,∃q:Bool,k<=L/\b=am q/\i=ab ae k/\Hid (TBoxT w wr t A c)/\Hid (q=uT t k)) (fun b i _=>L-(intOf i).toNat)
  case atStart=>exact ⟨0,_,bp _,rfl,rfl,o,bi x.out.symm⟩
  case round=>
   obtain ⟨k,q,P,rfl,rfl,a,j⟩:=hrel
   have B:=a.out.c3
   rw [<-d.out] at B
   cases q
   ·have f:=bi (Ky t k j.out.symm)
    have m:=a.out.bel
    by_cases F:k<L
    all_goals
     go_wp2_with fail
     go_ret
     exact ⟨bN f.out.symm,m⟩
   ·by_cases F:k<L
    ·have n:k<t.args.length:=by have:=d.out;omega
     obtain ⟨b,Q,v,C,rfl,O,J,K,M,N,s⟩:=(z.out.keep a.out.bel).get k n
     have E:=bi (y.out t.args[k] (aR n) v C wr (s.mono a.out.bel.size))
     have g:=bi (EU t k n)
     rw [<-j.out,dl] at g
     clear s
     generalize t.args[k].kind=a0 at *
     generalize t.args[k].num=G at *
     generalize t.args[k].name=H at *
     generalize t.args[k].args.length=I at *
     generalize t.args[k].allOk=q at *
     go_wp2_with fail
     refine E.out.mono ?_;rintro e R ⟨rfl,D⟩
     have h:=bi (a.out.call D)
     go_wp2_with fail
     go_roundw
     case rel=>first | exact ⟨k+1,by omega,q,rfl,by go_num,h,bi g.out.symm⟩ | exact ⟨k+1,q,by omega,rfl,by go_num,h,bi g.out.symm⟩ | exact ⟨k+1,by omega,by go_num,h,bi g.out.symm⟩ 
     case measure=>simp [intOf] <;> omega
    ·have f:=bi (Ie t k (by have:=d.out;omega))
     rw [<-j.out] at f
     have m:=a.out.bel
     go_wp2_with fail
     go_ret
     exact ⟨bN f.out,m⟩
theorem mT (t:Tm) (A:Option Addr) (a:Nat) (w:ai) (i:TmsAt w.heap.size w A t.args):aJ ah 35 #[er t A a] w fun e w'=>e=aw (am (cd t))/\ax w.heap.size w w':=by
 have l:=bi (TBoxT.start w t A a 25)
 have f:=bi (fun (c:ai) (h:TBoxT w c t A a)=>(Et t A a c ((i.keep h.bel).mono h.bel.size)).mono fun _ _ d=>(⟨d.1,h.call d.2⟩:_/\TBoxT w _ t A a))
 have n:=bi (fun (c:ai) (h:TBoxT w c t A a)=>(IF t A a c ((i.keep h.bel).mono h.bel.size)).mono fun _ _ d=>(⟨d.1,h.call d.2⟩:_/\TBoxT w _ t A a))
 unfold er at *
 clear i
 by_cases m:t.nodes<=2000
 ·have g:Hid (cd t=t.allOk):=bi (by unfold cd;simp [m])
  have k:min t.nodes 2001=t.nodes:=by omega
  rw [k] at f
  have p:decide ((t.nodes:Int)<=2000)=true:=by simp;omega
  go_enter Tryz.func35,Tryz.ntmps35
  go_wp2_with fail
  refine (f.out _ l.out).mono ?_;rintro e c ⟨rfl,b⟩
  have q:=b.c0
  have r:=b.c1
  have s:=b.c2
  have u:=b.c3
  go_wp2_with fail
  refine (n.out _ b).mono ?_;rintro e v ⟨rfl,o⟩
  have j:=o.bel
  go_wp2_with fail
  go_ret
  exact ⟨bN g.out.symm,j⟩
 ·have g:Hid (cd t=false):=bi (by unfold cd;simp [m])
  have k:min t.nodes 2001=2001:=by omega
  rw [k] at f
  go_enter Tryz.func35,Tryz.ntmps35
  go_wp2_with fail
  refine (f.out _ l.out).mono ?_;rintro e c ⟨rfl,b⟩
  have j:=b.bel
  go_wp2_with fail
  go_ret
  exact ⟨bN g.out.symm,j⟩
end Go.Proofs.YtlikcjbjibhjgaaGreatDoor
namespace Hb
open Go Go.RowKit
theorem yz (s:ByteArray):∀(d i:Nat) (r:List UInt8),s.size-i=d->ft s i r=r.reverse++s.data.toList.drop i
 | 0,i,r,h=>by
  unfold ft
  rw [if_neg (by omega),List.drop_of_length_le (by simp;omega)];simp
 | d+1,i,r,h=>by
  have a:i<s.size:=by omega
  have b:i<s.data.toList.length:=by simpa using a
  unfold ft
  rw [if_pos a,yz s d (i+1) _ (by omega),List.drop_eq_getElem_cons b]
  simp [ByteArray.get!,a]
  first | rfl | (have:s.data[i]! = s.data[i]:=getElem!_pos s.data i a;simp [this]) | skip
theorem Gk (s:ByteArray):s.toList=s.data.toList:=by
 unfold ByteArray.toList
 rw [yz s _ 0 [] rfl];simp
structure OpR where
 name:ByteArray
 typ:Int
 prec:Int
deriving Inhabited,DecidableEq
def dj (o:OpR):List az:=[aa o.name,ab ae o.typ,ab ae o.prec]
def kZ (o:OpR):az:=.agg #[aa o.name,ab ae o.typ,ab ae o.prec]
def bX (t:Int):Int:=if t<1 then 0 else if t<=3 then 2 else if t<=5 then 1 else if t<=7 then 3 else 0
def Cp (a b:ByteArray):Int:=if Op.bytesLess a.toList b.toList=true then -1 else if (!a.toList==b.toList)=true then 1 else 0
def ye (a b:Int):Int:=if a<b then -1 else if b<a then 1 else 0
def Me (a b:Int):Int:=if a=0 then b else a
def gz (a b:OpR):Int:=Me (Cp a.name b.name) (ye (bX a.typ) (bX b.typ))
def Iu (o:OpR) (l:List UInt8):Bool:=o.name.toList==l
def nK (o:OpR):Bool :=
 if decide (100<(o.name.size:Int))||(bX o.typ==0||(decide (o.prec<1)||decide (1200<o.prec))) then false
 else if Iu o [91,93]||Iu o [123,125] then false
 else if Iu o [44] then o.typ==2&&o.prec==1000
 else if Iu o [124] then bX o.typ==2&&decide (1001<=o.prec)
 else true
def sA (a b:OpR):Bool:=decide (gz a b<0) && !(a.name.toList==b.name.toList&&bX a.typ==2)
def Dg (l:List OpR) (j:Nat):Bool:=nK (l.getD j default)&&(j==0||sA (l.getD (j-1) default) (l.getD j default))
def bB (l:List OpR):Bool:=decide (l.length<=100)&&(List.range l.length).all (Dg l)
theorem zx (l:List OpR) (k:Nat) (a:k<l.length) (h:Dg l k=false):bB l=false:=by
 unfold bB
 rw [gx]
 refine .inr ?_
 rw [List.all_eq_false]
 exact ⟨k,dx.2 a,by simp [h]⟩
theorem kE (l:List OpR) (h:100<l.length):bB l=false:=by
 unfold bB
 rw [gx]
 exact .inl (by simpa using h)
theorem qs (l:List OpR) (b:l.length<=100) (h:∀j,j<l.length->Dg l j=true):bB l=true:=by
 unfold bB
 rw [aF,bh]
 exact ⟨by simpa using b,fun j a=>h j (dx.1 a)⟩
theorem ma (l:List OpR) (h:bB l=true):l.length<=100/\∀j,j<l.length->Dg l j=true:=by
 unfold bB at h
 rw [aF,bh] at h
 exact ⟨by simpa using h.1,fun j a=>h.2 j (dx.2 a)⟩
theorem lh (l:List OpR) (j:Nat) (h:j<l.length):l.getD j default=l[j]:=by rw [List.getD_eq_getElem?_getD,ba h];rfl
def gT (a b:OpR):Bool:=if (a.name.toList==b.name.toList)=true then decide (bX a.typ<bX b.typ) else Op.bytesLess a.name.toList b.name.toList
theorem IU (a b:Int):ye a b<0↔a<b:=by unfold ye;grind
theorem Fo (a b:Int):ye a b=0↔a=b:=by unfold ye;grind
theorem mP:∀(l:List UInt8),Op.bytesLess l l=false:=by
 intro l
 rw [Go.Proofs.bytesLess_eq]
 simp
theorem mQ (a b:OpR):gT a b=decide (gz a b<0):=by
 unfold gT gz Me Cp
 by_cases h:a.name.toList=b.name.toList
 ·rw [h,mP]
  simp [IU]
 ·have c:(a.name.toList==b.name.toList)=false:=by simpa using h
  rw [c]
  cases h3:Op.bytesLess a.name.toList b.name.toList <;> simp
theorem zA (a b:OpR):sA a b=(gT a b && !(a.name.toList==b.name.toList&&(bX a.typ==2&&bX b.typ==3))):=by
 rw [mQ]
 unfold sA
 cases h:decide (gz a b<0)
 ·rfl
 ·rw [<-mQ] at h
  unfold gT at h
  cases h2:(a.name.toList==b.name.toList)
  ·rfl
  ·rw [h2,if_pos rfl] at h
   have c:bX a.typ<bX b.typ:=by simpa using h
   have d:bX b.typ<=3:=by unfold bX;grind
   cases h5:(bX a.typ==2)
   ·rfl
   ·have:bX a.typ=2:=by simpa using h5
    have:bX b.typ=3:=by omega
    simp [this]
end Hb
namespace Hb
theorem ML (t:Int):(t<1/\bX t=0)\/(8<=t/\bX t=0)\/(t=1/\bX t=2)\/(t=2/\bX t=2)\/(t=3/\bX t=2)\/(t=4/\bX t=1)\/(t=5/\bX t=1)\/(t=6/\bX t=3)\/(t=7/\bX t=3):=by
 unfold bX
 grind
end Hb
namespace Go.Proofs.YtlikcjbjibhjgaaGreatDoor
open Go.RowKit Hb
theorem Di (a:ByteArray) (w:ai):aJ ah 72 #[aa a] w fun e w'=>e=aw (am false)/\w'=w:=by
 go_enter Tryz.func72,Tryz.ntmps72
 go_wp2_with fail
 go_ret
 exact ⟨rfl,rfl⟩
theorem Dj (a:Int) (w:ai):aJ ah 73 #[ab ae a] w fun e w'=>e=aw (am false)/\w'=w:=by
 go_enter Tryz.func73,Tryz.ntmps73
 go_wp2_with fail
 go_ret
 exact ⟨rfl,rfl⟩
theorem KS (a b:ByteArray) (w:ai):aJ ah 46 #[aa a,aa b] w fun e w'=>e=aw (ab ae (Cp a b))/\w'=w:=by
 go_enter Tryz.func46,Tryz.ntmps46
 go_wp2_with (first | (go_at_call 72;first | ((with_reducible refine (Di a _).mono ?_);rintro e c ⟨rfl,rfl⟩) | ((with_reducible refine (Di b _).mono ?_);rintro e c ⟨rfl,rfl⟩)))
 all_goals go_ret
 all_goals refine ⟨dn ?_,rfl⟩
 all_goals unfold Cp
 all_goals simp_all
theorem KT (a b:Int) (w:ai):aJ ah 47 #[ab ae a,ab ae b] w fun e w'=>e=aw (ab ae (ye a b))/\w'=w:=by
 go_enter Tryz.func47,Tryz.ntmps47
 go_wp2_with (first | (go_at_call 73;first | ((with_reducible refine (Dj a _).mono ?_);rintro e c ⟨rfl,rfl⟩) | ((with_reducible refine (Dj b _).mono ?_);rintro e c ⟨rfl,rfl⟩)))
 all_goals go_ret
 all_goals refine ⟨dn ?_,rfl⟩
 all_goals unfold ye
 all_goals grind
theorem oe (t:Int) (w:ai):aJ ah 19 #[ab ae t] w fun e w'=>e=aw (ab ae (bX t))/\ax w.heap.size w w'/\w.drawn<=w'.drawn:=by
 rcases ML t with ⟨h,e⟩ | ⟨h,e⟩ | ⟨rfl,e⟩ | ⟨rfl,e⟩ | ⟨rfl,e⟩ | ⟨rfl,e⟩ | ⟨rfl,e⟩ | ⟨rfl,e⟩ | ⟨rfl,e⟩
 all_goals rw [e]
 all_goals clear e
 all_goals go_enter Tryz.func19,Tryz.ntmps19
 all_goals go_wp2_with fail
 all_goals go_ret
 all_goals exact ⟨rfl,(aj _ _).alloc (ag _) _,ag _⟩
theorem og (t:Int) (w:ai):aJ ah 19 #[ab ae t] w fun e w'=>e=aw (ab ae (bX t))/\ax w.heap.size w w' :=
 (oe t w).mono fun _ _ ⟨he,hb,_⟩=>⟨he,hb⟩
theorem MG (a b:Int) (w:ai) (W:ai) (e:bD) (f:W=w.alloc (.cells #[ab ae a,ab ae b] e)):aJ ah 45 #[.slice (some ⟨w.heap.size,0,none⟩) 2 2] W fun e w'=>e=aw (ab ae (Me a b))/\w'=W:=by
 have i:W.cell? ⟨w.heap.size,0,none⟩=some (ab ae a):=by rw [f];exact aq _ _ _ 0
 have j:W.cell? ⟨w.heap.size,1,none⟩=some (ab ae b):=by rw [f];exact aq _ _ _ 1
 clear f
 by_cases c:a=0
 ·subst c
  by_cases g:b=0
  ·subst g
   go_enter Tryz.func45,Tryz.ntmps45
   go_wp2_with fail
   refine wp_loop_rounds 3 ?_
   iterate 3
    rw [iy]
    go_wp2_with fail
   go_ret
   exact ⟨dn rfl,rfl⟩
  ·have h:(b==0)=false:=by simpa using g
   have d:Me 0 b=b:=rfl
   go_enter Tryz.func45,Tryz.ntmps45
   go_wp2_with fail
   refine wp_loop_rounds 2 ?_
   iterate 2
    rw [iy]
    go_wp2_with fail
   go_ret
   exact ⟨dn d.symm,rfl⟩
 ·have h:(a==0)=false:=by simpa using c
  have d:Me a b=a:=if_neg c
  go_enter Tryz.func45,Tryz.ntmps45
  go_wp2_with fail
  refine wp_loop_rounds 1 ?_
  rw [iy]
  go_wp2_with fail
  go_ret
  exact ⟨dn d.symm,rfl⟩
end Go.Proofs.YtlikcjbjibhjgaaGreatDoor
namespace Hb
open Go Go.RowKit
structure CmpHeld (w0 w:ai) (a b:OpR):Prop where
 bel:ax w0.heap.size w0 w
 lt:w0.heap.size+1<w.heap.size
 dr:w0.drawn<=w.drawn
 a0:w.cell? ⟨w0.heap.size,0,none⟩=some (aa a.name)
 a1:w.cell? ⟨w0.heap.size,1,none⟩=some (ab ae a.typ)
 b0:w.cell? ⟨w0.heap.size+1,0,none⟩=some (aa b.name)
 b1:w.cell? ⟨w0.heap.size+1,1,none⟩=some (ab ae b.typ)
section
variable {w0 w w':ai} {a b:OpR}
theorem CmpHeld.keep (h:CmpHeld w0 w a b):w.cell? ⟨w0.heap.size,0,none⟩=some (aa a.name)/\w.cell? ⟨w0.heap.size,1,none⟩=some (ab ae a.typ)/\w.cell? ⟨w0.heap.size+1,0,none⟩=some (aa b.name)/\w.cell? ⟨w0.heap.size+1,1,none⟩=some (ab ae b.typ)/\CmpHeld w0 w a b:=⟨h.a0,h.a1,h.b0,h.b1,h⟩
theorem CmpHeld.of (h:w.cell? ⟨w0.heap.size,0,none⟩=some (aa a.name)/\w.cell? ⟨w0.heap.size,1,none⟩=some (ab ae a.typ)/\w.cell? ⟨w0.heap.size+1,0,none⟩=some (aa b.name)/\w.cell? ⟨w0.heap.size+1,1,none⟩=some (ab ae b.typ)/\CmpHeld w0 w a b):CmpHeld w0 w a b:=h.2.2.2.2
theorem CmpHeld.call (c:ax w.heap.size w w') (d:w.drawn<=w'.drawn) (h:CmpHeld w0 w a b):CmpHeld w0 w' a b where
 bel:=h.bel.trans (c.mono (by have:=h.lt;omega))
 lt:=aC h.lt c.size
 dr:=aI h.dr d
 a0:=(c.cell (p:=⟨_,_,none⟩) (by have:=h.lt;show w0.heap.size<_;omega)).trans h.a0
 a1:=(c.cell (p:=⟨_,_,none⟩) (by have:=h.lt;show w0.heap.size<_;omega)).trans h.a1
 b0:=(c.cell (p:=⟨_,_,none⟩) h.lt).trans h.b0
 b1:=(c.cell (p:=⟨_,_,none⟩) h.lt).trans h.b1
theorem CmpHeld.drew (h:CmpHeld w0 w a b):CmpHeld w0 w.drew a b:=h.call (aj w.heap.size w).drew (Nat.le_succ _)
theorem CmpHeld.alloc (h:CmpHeld w0 w a b) (o:Obj):CmpHeld w0 (w.alloc o) a b:=h.call ((aj w.heap.size w).alloc (ag _) o) (ag _)
theorem CmpHeld.start (w:ai) (a b:OpR) (e:bD):CmpHeld w ((w.alloc (.cells #[aa a.name,ab ae a.typ,ab ae a.prec] e)).alloc (.cells #[aa b.name,ab ae b.typ,ab ae b.prec] e)) a b where
 bel:=((aj _ _).alloc (ag _) _).alloc (by simp) _
 lt:=by simp
 dr:=ag _
 a0:=(dw _ _ none).cell (aq _ _ _ 0) (by simp)
 a1:=(dw _ _ none).cell (aq _ _ _ 1) (by simp)
 b0:=by
  rw [show w.heap.size+1=(w.alloc (.cells #[aa a.name,ab ae a.typ,ab ae a.prec] e)).heap.size by simp]
  exact aq _ _ _ 0
 b1:=by
  rw [show w.heap.size+1=(w.alloc (.cells #[aa a.name,ab ae a.typ,ab ae a.prec] e)).heap.size by simp]
  exact aq _ _ _ 1
end
end Hb
namespace Go.Proofs.YtlikcjbjibhjgaaGreatDoor
open Go.RowKit Hb
theorem pj (a b:OpR) (w:ai):aJ ah 24 #[kZ a,kZ b] w fun e w'=>e=aw (ab ae (gz a b))/\ax w.heap.size w w'/\w.drawn<=w'.drawn:=by
 unfold kZ
 have f:=bi (show gz a b=Me (Cp a.name b.name) (ye (bX a.typ) (bX b.typ)) from rfl)
 have d:=CmpHeld.start w a b 39
 go_enter Tryz.func24,Tryz.ntmps24
 go_wp2_with fail
 go_region_held3 (fun w'=>w'.cell? ⟨w.heap.size,0,none⟩=some (aa a.name)/\w'.cell? ⟨w.heap.size,1,none⟩=some (ab ae a.typ)/\w'.cell? ⟨w.heap.size+1,0,none⟩=some (aa b.name)/\w'.cell? ⟨w.heap.size+1,1,none⟩=some (ab ae b.typ)/\CmpHeld w w' a b)
  (first | with_reducible exact d.drew.keep | with_reducible exact CmpHeld.keep (CmpHeld.of (by with_reducible assumption)) | with_reducible exact CmpHeld.keep (CmpHeld.call (by with_reducible assumption) (by with_reducible assumption) (CmpHeld.of (by with_reducible assumption))) | with_reducible exact CmpHeld.keep (CmpHeld.alloc (CmpHeld.of (by with_reducible assumption)) _))
  (first
   | (go_at_call 46;(with_reducible refine (KS a.name b.name _).mono ?_);rintro e c ⟨rfl,rfl⟩)
   | (go_at_call 19;first | ((with_reducible refine (oe a.typ _).mono ?_);rintro e c ⟨rfl,g,h⟩) | ((with_reducible refine (oe b.typ _).mono ?_);rintro e c ⟨rfl,g,h⟩))
   | (go_at_call 47;(with_reducible refine (KT (bX a.typ) (bX b.typ) _).mono ?_);rintro e c ⟨rfl,rfl⟩)
   | (go_at_call 45;(with_reducible refine (MG (Cp a.name b.name) (ye (bX a.typ) (bX b.typ)) _ _ _ rfl).mono ?_);rintro e c ⟨rfl,rfl⟩))
 all_goals go_wp2_with fail
 all_goals go_ret
 all_goals exact ⟨dn f.out.symm,CmpHeld.bel (CmpHeld.of (by with_reducible assumption)),CmpHeld.dr (CmpHeld.of (by with_reducible assumption))⟩
theorem pJ (a b:OpR) (w:ai):aJ ah 24 #[kZ a,kZ b] w fun e w'=>e=aw (ab ae (gz a b))/\ax w.heap.size w w' :=
 (pj a b w).mono fun _ _ ⟨he,hb,_⟩=>⟨he,hb⟩
end Go.Proofs.YtlikcjbjibhjgaaGreatDoor
namespace Hb
open Go Go.RowKit
structure BoxAt (w0 w:ai) (o:OpR):Prop where
 bel:ax w0.heap.size w0 w
 lt:w0.heap.size<w.heap.size
 c0:w.cell? ⟨w0.heap.size,0,none⟩=some (aa o.name)
 c1:w.cell? ⟨w0.heap.size,1,none⟩=some (ab ae o.typ)
 c2:w.cell? ⟨w0.heap.size,2,none⟩=some (ab ae o.prec)
theorem BoxAt.call {w0 w w':ai} {o:OpR} (h:BoxAt w0 w o) (a:ax w.heap.size w w'):BoxAt w0 w' o where
 bel:=h.bel.trans (a.mono (fd h.lt))
 lt:=aC h.lt a.size
 c0:=(a.cell (p:=⟨_,_,none⟩) h.lt).trans h.c0
 c1:=(a.cell (p:=⟨_,_,none⟩) h.lt).trans h.c1
 c2:=(a.cell (p:=⟨_,_,none⟩) h.lt).trans h.c2
theorem BoxAt.start (w:ai) (o:OpR) (e:bD):BoxAt w (w.alloc (.cells #[aa o.name,ab ae o.typ,ab ae o.prec] e)) o where
 bel:=(aj _ _).alloc (ag _) _
 lt:=by simp
 c0:=aq _ _ _ 0
 c1:=aq _ _ _ 1
 c2:=aq _ _ _ 2
end Hb
namespace Go.Proofs.YtlikcjbjibhjgaaGreatDoor
open Go.RowKit Hb
theorem kY {w0 w:ai} {o:OpR} (h:BoxAt w0 w o) (t:Int):aJ ah 19 #[ab ae t] w fun e w'=>e=aw (ab ae (bX t))/\BoxAt w0 w' o :=
 (og t w).mono fun _ _ ⟨he,hb⟩=>⟨he,h.call hb⟩
theorem zz (o:OpR) (w:ai):aJ ah 42 #[kZ o] w fun e w'=>e=aw (am (nK o))/\ax w.heap.size w w':=by
 have g:=BoxAt.start w o 39
 have b:=bi (show nK o=_ from rfl)
 unfold kZ
 go_enter Tryz.func42,Tryz.ntmps42
 go_wp2_with (first | (go_at_call 19;(with_reducible refine (kY (by with_reducible assumption) o.typ).mono ?_);rintro e h ⟨rfl,a⟩;have c:=a.c0;have d:=a.c1;have f:=a.c2))
 all_goals go_ret
 all_goals refine ⟨bN ?_,BoxAt.bel (o:=o) (by with_reducible assumption)⟩
 all_goals unfold nK Iu
 all_goals grind
end Go.Proofs.YtlikcjbjibhjgaaGreatDoor
namespace Hb
open Go Go.RowKit
def OpsAt (w:ai) (A:Option Addr) (l:List OpR):Prop :=
 ∀j (h:j<l.length),∃b off,A=some ⟨b,off,none⟩/\b<w.heap.size/\w.cell? ⟨b,off+j * 3,none⟩=some (aa l[j].name)/\w.cell? ⟨b,off+j * 3+1,none⟩=some (ab ae l[j].typ)/\w.cell? ⟨b,off+j * 3+2,none⟩=some (ab ae l[j].prec)
theorem OpsAt.nil (w:ai) (A:Option Addr):OpsAt w A []:=fun _ h=>absurd h (by simp)
theorem OpsAt.below {w w':ai} {A:Option Addr} {l:List OpR} (h:OpsAt w A l) (a:ax w.heap.size w w'):OpsAt w' A l:=fun j i=>by
 obtain ⟨b,k,e,c,d,f,g⟩:=h j i
 exact ⟨b,k,e,aC c a.size,(a.cell (p:=⟨b,_,none⟩) c).trans d,(a.cell (p:=⟨b,_,none⟩) c).trans f,(a.cell (p:=⟨b,_,none⟩) c).trans g⟩
end Hb
namespace Hb
theorem Ns (l:List OpR) (k:Nat) (a:k<l.length) (h:nK l[k]=false):Dg l k=false:=by unfold Dg;rw [lh l k a,h];rfl
theorem Nt (l:List OpR) (k:Nat) (b:k<l.length) (a:k=0) (h:nK l[k]=true):Dg l k=true:=by subst a;unfold Dg;rw [lh l 0 b,h];rfl
theorem Nr (l:List OpR) (k:Nat) (a:k<l.length) (b:0<k) (h:nK l[k]=true):Dg l k=sA (l[k-1]'(by omega)) l[k]:=by
 unfold Dg;rw [lh l k a,lh l (k-1) (by omega),h]
 have:(k==0)=false:=by simp;omega
 rw [this];rfl
end Hb
namespace Go.Proofs.YtlikcjbjibhjgaaGreatDoor
open Go.RowKit Hb
theorem mG (A:Option Addr) (n a0:Nat) (l:List OpR) (w:ai) (P:n=l.length) (hm:n<=400) (Q:OpsAt w A l) :
  aJ ah 18 #[.slice A n a0] w fun e w'=>e=aw (am (bB l))/\ax w.heap.size w w':=by
 by_cases I:100<n
 ·have b1:decide ((100:Int)<n)=true:=by simp;omega
  have Y:=bi (kE l (by omega))
  clear P Q I
  go_enter Tryz.func18,Tryz.ntmps18
  go_wp2_with fail
  go_ret
  exact ⟨bN Y.out.symm,aj _ _⟩
 have b1:decide ((100:Int)<n)=false:=by simp;omega
 have a6:n<=100:=by omega
 have G:=bi P
 have R:=bi Q
 clear P Q I
 go_enter Tryz.func18,Tryz.ntmps18
 go_wp2_with fail
 go_loopw [11] (fun i wr=>∃k:Nat,k<=n/\i=ab ae k/\ax w.heap.size w wr/\Hid (∀j,j<k->Dg l j=true)) (fun i _=>n-(intOf i).toNat)
 case atStart=>exact ⟨0,bp _,rfl,aj _ _,fun j v=>absurd v (by omega)⟩
 case round=>
  obtain ⟨k,hk,rfl,a,z⟩:=hrel
  by_cases a7:k<n
  ·have u:=a.size
   have x:k<l.length:=by have:=G.out;omega
   obtain ⟨b,r,rfl,O,c0,I,c2⟩:=(R.out.below a) k x
   have W:0<k->wr.cell? ⟨b,r+(k-1) * 3,none⟩=some (aa (l[k-1]'(by omega)).name)/\wr.cell? ⟨b,r+(k-1) * 3+1,none⟩=some (ab ae (l[k-1]'(by omega)).typ)/\wr.cell? ⟨b,r+(k-1) * 3+2,none⟩=some (ab ae (l[k-1]'(by omega)).prec):=fun q=>by
    obtain ⟨b',a8,J,_,C,D,E⟩:=(R.out.below a) (k-1) (by omega)
    injection J with J
    injection J with s g _
    subst s g
    exact ⟨C,D,E⟩
   have X:=bi W
   have J1:=bi (Ns l k x)
   have J0:=bi (Nt l k x)
   have JS:=bi (Nr l k x)
   have H:=bi (zx l k x)
   generalize l[k]=o at *
   have M:=BoxAt.start wr o 39
   clear W
   cases hok:nK o
   ·have B:=bi hok
    have c:=bi (zz o (wr.alloc (.cells #[aa o.name,ab ae o.typ,ab ae o.prec] 39)))
    rw [hok] at c
    clear hok
    unfold kZ at c
    go_wp2_with fail
    refine c.out.mono ?_;rintro e y ⟨rfl,t⟩
    go_wp2_with fail
    go_ret
    exact ⟨bN (H.out (J1.out B.out)).symm,a.trans ((M.call t).bel.mono u)⟩
   ·have B:=bi hok
    have c:=bi (zz o (wr.alloc (.cells #[aa o.name,ab ae o.typ,ab ae o.prec] 39)))
    rw [hok] at c
    clear hok
    unfold kZ at c
    by_cases q:k=0
    ·have b0:((k:Int)==0)=true:=by simp [q]
     have m:=bi (J0.out q B.out)
     clear q
     go_wp2_with fail
     refine c.out.mono ?_;rintro e y ⟨rfl,t⟩
     go_wp2_with fail
     go_roundw
     case rel=>exact ⟨k+1,by omega,by go_num,a.trans ((M.call t).bel.mono u),fun j v=>by
       rcases cS j k with h | h
       ·exact z.out j h
       ·have:j=k:=by omega
        subst this;exact m.out⟩
     case measure=>simp [intOf] <;> omega
    ·have b0:((k:Int)==0)=false:=by simpa using q
     have T:0<k:=by omega
     have m:=bi (JS.out T B.out)
     obtain ⟨C,D,E⟩:=X.out T
     generalize l[k-1]'(by omega)=p at *
     clear q
     go_wp2_with fail
     refine c.out.mono ?_;rintro e y ⟨rfl,t⟩
     have d:=M.call t
     have xl:=d.lt
     have x0:=d.c0
     have x1:=d.c1
     have x2:=d.c2
     have a1:=(d.bel.cell (p:=⟨b,r+(k-1) * 3,none⟩) O).trans C
     have a2:=(d.bel.cell (p:=⟨b,r+(k-1) * 3+1,none⟩) O).trans D
     have a3:=(d.bel.cell (p:=⟨b,r+(k-1) * 3+2,none⟩) O).trans E
     clear C D E
     go_wp2_with fail
     refine (pJ p o _).mono ?_;rintro e w2 ⟨rfl,L⟩
     have V:=(BoxAt.start y p 39).call L
     have F:=(d.call ((aj y.heap.size y).alloc (ag _) (.cells #[aa p.name,ab ae p.typ,ab ae p.prec] 39))).call L
     have y0:=V.c0
     have y1:=V.c1
     have z0:=F.c0
     have U:=a.trans (F.bel.mono u)
     clear x0 x1 x2 a1 a2 a3 L
     have a5:(decide (0<=gz p o)=true/\Hid (sA p o=false))\/(decide (0<=gz p o)=false/\(p.name.toList==o.name.toList)=false/\Hid (sA p o=true))\/(decide (0<=gz p o)=false/\(p.name.toList==o.name.toList)=true/\(bX p.typ==2)=true/\Hid (sA p o=false))\/(decide (0<=gz p o)=false/\(p.name.toList==o.name.toList)=true/\(bX p.typ==2)=false/\Hid (sA p o=true)):=by
      unfold Hid sA
      grind
     rcases a5 with ⟨s,f⟩ | ⟨s,g,f⟩ | ⟨s,g,K,f⟩ | ⟨s,g,K,f⟩
     ·go_wp2_with fail
      go_ret
      exact ⟨bN (H.out (m.out.trans f.out)).symm,U⟩
     ·have S:¬p.name.toList=o.name.toList:=by simpa using g
      go_wp2_with fail
      go_roundw
      case rel=>exact ⟨k+1,by omega,by go_num,U,fun j v=>by
       rcases cS j k with h | h
       ·exact z.out j h
       ·have:j=k:=by omega
        subst this;exact m.out.trans f.out⟩
      case measure=>simp [intOf] <;> omega
     ·have S:p.name.toList=o.name.toList:=by simpa using g
      have a4:bX p.typ=2:=by simpa using K
      go_wp2_with fail
      refine (kY F p.typ).mono ?_;rintro e w3 ⟨rfl,N⟩
      go_wp2_with fail
      go_ret
      exact ⟨bN (H.out (m.out.trans f.out)).symm,a.trans (N.bel.mono u)⟩
     ·have S:p.name.toList=o.name.toList:=by simpa using g
      have a4:¬bX p.typ=2:=by simpa using K
      go_wp2_with fail
      refine (kY F p.typ).mono ?_;rintro e w3 ⟨rfl,N⟩
      go_wp2_with fail
      go_roundw
      case rel=>exact ⟨k+1,by omega,by go_num,a.trans (N.bel.mono u),fun j v=>by
       rcases cS j k with h | h
       ·exact z.out j h
       ·have:j=k:=by omega
        subst this;exact m.out.trans f.out⟩
      case measure=>simp [intOf] <;> omega
  ·obtain rfl:k=n:=by omega
   have Z:=bi (qs l (by have:=G.out;omega) (fun j v=>z.out j (by have:=G.out;omega)))
   go_wp2_with fail
   go_ret
   exact ⟨bN Z.out.symm,a⟩
end Go.Proofs.YtlikcjbjibhjgaaGreatDoor
namespace Hb
open Go Go.RowKit
def uW (p:OpR->Bool) (l:List OpR):Int:=if l.any p=true then (l.findIdx p:Int) else -1
theorem ox (p:OpR->Bool) (l:List OpR) (k:Nat) (a:k<l.length) (h:p l[k]=true) (b:∀j (c:j<k),p (l[j]'(by omega))=false):uW p l=k:=by
 unfold uW
 rw [if_pos (List.any_eq_true.2 ⟨l[k],aR a,h⟩),(List.findIdx_eq a).2 ⟨h,b⟩]
theorem mN (p:OpR->Bool) (l:List OpR) (b:∀j (a:j<l.length),p l[j]=false):uW p l=-1:=by
 unfold uW
 rw [if_neg]
 rw [Bool.not_eq_true,List.any_eq_false]
 intro x c
 obtain ⟨j,a,rfl⟩:=cI c
 simp [b j a]
theorem IH (p:OpR->Bool) (l:List OpR) (k:Nat) (c:k<l.length) (h:p l[k]=true) (b:∀j (a:j<k),p (l[j]'(by omega))=false):l.find? p=some l[k]:=by
 rw [List.find?_eq_some_iff_getElem]
 exact ⟨h,k,c,rfl,fun j a=>by simp [b j a]⟩
theorem Fh (p:OpR->Bool) (l:List OpR) (b:∀j (a:j<l.length),p l[j]=false):l.find? p=none:=by
 rw [List.find?_eq_none]
 intro x c
 obtain ⟨j,a,rfl⟩:=cI c
 simp [b j a]
def lN (name:ByteArray) (c:Int) (o:OpR):Bool:=o.name.toList==name.toList&&bX o.typ==c
def op0:OpR:=⟨⟨#[]⟩,0,0⟩
def dt (l:List OpR) (name:ByteArray) (c:Int):Option OpR:=if bB l=true then l.find? (lN name c) else none
structure FHeld (w0 w:ai) (o:OpR) (g1 g2:Nat) (name:ByteArray) (c:Int):Prop where
 bel:ax w0.heap.size w0 w
 lt:w0.heap.size<w.heap.size
 a0:w.cell? ⟨w0.heap.size,0,none⟩=some (aa o.name)
 a1:w.cell? ⟨w0.heap.size,1,none⟩=some (ab ae o.typ)
 n0:w.cell? ⟨g1,0,none⟩=some (aa name)
 f0:w.cell? ⟨g2,0,none⟩=some (ab ae c)
 l1:g1<w0.heap.size
 l2:g2<w0.heap.size
section
variable {w0 w w':ai} {o:OpR} {g1 g2:Nat} {name:ByteArray} {c:Int}
theorem FHeld.keep (h:FHeld w0 w o g1 g2 name c):w.cell? ⟨w0.heap.size,0,none⟩=some (aa o.name)/\w.cell? ⟨w0.heap.size,1,none⟩=some (ab ae o.typ)/\w.cell? ⟨g1,0,none⟩=some (aa name)/\w.cell? ⟨g2,0,none⟩=some (ab ae c)/\FHeld w0 w o g1 g2 name c:=⟨h.a0,h.a1,h.n0,h.f0,h⟩
theorem FHeld.of (h:w.cell? ⟨w0.heap.size,0,none⟩=some (aa o.name)/\w.cell? ⟨w0.heap.size,1,none⟩=some (ab ae o.typ)/\w.cell? ⟨g1,0,none⟩=some (aa name)/\w.cell? ⟨g2,0,none⟩=some (ab ae c)/\FHeld w0 w o g1 g2 name c):FHeld w0 w o g1 g2 name c:=h.2.2.2.2
theorem FHeld.call (a:ax w.heap.size w w') (h:FHeld w0 w o g1 g2 name c):FHeld w0 w' o g1 g2 name c where
 bel:=h.bel.trans (a.mono (by have:=h.lt;omega))
 lt:=aC h.lt a.size
 a0:=(a.cell (p:=⟨_,_,none⟩) h.lt).trans h.a0
 a1:=(a.cell (p:=⟨_,_,none⟩) h.lt).trans h.a1
 n0:=(a.cell (p:=⟨_,_,none⟩) (gc h.l1 h.lt)).trans h.n0
 f0:=(a.cell (p:=⟨_,_,none⟩) (gc h.l2 h.lt)).trans h.f0
 l1:=h.l1
 l2:=h.l2
theorem FHeld.drew (h:FHeld w0 w o g1 g2 name c):FHeld w0 w.drew o g1 g2 name c:=h.call (aj w.heap.size w).drew
theorem FHeld.start (e:bD) (n0:w.cell? ⟨g1,0,none⟩=some (aa name)) (f0:w.cell? ⟨g2,0,none⟩=some (ab ae c)) (l1:g1<w.heap.size) (l2:g2<w.heap.size):FHeld w (w.alloc (.cells #[aa o.name,ab ae o.typ,ab ae o.prec] e)) o g1 g2 name c where
 bel:=(aj _ _).alloc (ag _) _
 lt:=by simp
 a0:=aq _ _ _ 0
 a1:=aq _ _ _ 1
 n0:=(dw _ _ none).cell n0 (by simp)
 f0:=(dw _ _ none).cell f0 (by simp)
 l1:=l1
 l2:=l2
end
structure RHeld (w0 w:ai) (name:ByteArray) (c:Int):Prop where
 bel:ax w0.heap.size w0 w
 lt:w0.heap.size+1+1<w.heap.size
 n0:w.cell? ⟨w0.heap.size,0,none⟩=some (aa name)
 f0:w.cell? ⟨w0.heap.size+1,0,none⟩=some (ab ae c)
 r0:∃v,w.cell? ⟨w0.heap.size+1+1,0,none⟩=some v
 r1:∃v,w.cell? ⟨w0.heap.size+1+1,1,none⟩=some v
 r2:∃v,w.cell? ⟨w0.heap.size+1+1,2,none⟩=some v
 fr:∀o,w.frozen? ⟨w0.heap.size+1+1,o,none⟩=false
theorem RHeld.call {w0 w w':ai} {name:ByteArray} {c:Int} (h:RHeld w0 w name c) (a:ax w.heap.size w w'):RHeld w0 w' name c where
 bel:=h.bel.trans (a.mono (by have:=h.lt;omega))
 lt:=aC h.lt a.size
 n0:=(a.cell (p:=⟨_,_,none⟩) (by have:=h.lt;show w0.heap.size<_;omega)).trans h.n0
 f0:=(a.cell (p:=⟨_,_,none⟩) (by have:=h.lt;show w0.heap.size+1<_;omega)).trans h.f0
 r0:=h.r0.imp fun _ b=>(a.cell (p:=⟨_,_,none⟩) h.lt).trans b
 r1:=h.r1.imp fun _ b=>(a.cell (p:=⟨_,_,none⟩) h.lt).trans b
 r2:=h.r2.imp fun _ b=>(a.cell (p:=⟨_,_,none⟩) h.lt).trans b
 fr:=fun o=>(a.frozen (p:=⟨_,o,none⟩) h.lt).trans (h.fr o)
theorem RHeld.start (w:ai) (name:ByteArray) (c:Int) (a b d:bD):RHeld w (((w.alloc (.cells #[aa name] a)).alloc (.cells #[ab ae c] b)).alloc (.cells #[aa ⟨#[]⟩,ab ae 0,ab ae 0] d)) name c where
 bel:=(((aj w.heap.size w).alloc (ag _) _).alloc (by simp) _).alloc (by simp;omega) _
 lt:=by simp
 n0:=(dw _ _ none).cell ((dw _ _ none).cell (aq _ _ _ 0) (by simp)) (by simp)
 f0:=(dw _ _ none).cell (by
  rw [show w.heap.size+1=(w.alloc (.cells #[aa name] a)).heap.size by simp]
  exact aq _ _ _ 0) (by simp)
 r0:=⟨_,by
  rw [show w.heap.size+1+1=((w.alloc (.cells #[aa name] a)).alloc (.cells #[ab ae c] b)).heap.size by simp]
  exact aq _ _ _ 0⟩
 r1:=⟨_,by
  rw [show w.heap.size+1+1=((w.alloc (.cells #[aa name] a)).alloc (.cells #[ab ae c] b)).heap.size by simp]
  exact aq _ _ _ 1⟩
 r2:=⟨_,by
  rw [show w.heap.size+1+1=((w.alloc (.cells #[aa name] a)).alloc (.cells #[ab ae c] b)).heap.size by simp]
  exact aq _ _ _ 2⟩
 fr:=fun o=>by
  rw [show w.heap.size+1+1=((w.alloc (.cells #[aa name] a)).alloc (.cells #[ab ae c] b)).heap.size by simp]
  exact World.frozen?_alloc_new _ _ _ _
end Hb
namespace Go.Proofs.YtlikcjbjibhjgaaGreatDoor
open Go.RowKit Hb
theorem MB (o:OpR) (g1 g2:Nat) (name:ByteArray) (c:Int) (w:ai) (j:w.cell? ⟨g1,0,none⟩=some (aa name)) (d:w.cell? ⟨g2,0,none⟩=some (ab ae c)) (g:g1<w.heap.size) (i:g2<w.heap.size) :
  aJ ah 71 #[kZ o,au (some ⟨g1,0,none⟩),au (some ⟨g2,0,none⟩)] w fun e w'=>e=aw (am (lN name c o))/\ax w.heap.size w w':=by
 have b:=FHeld.start (o:=o) 39 j d g i
 unfold kZ
 have a:=bi (show lN name c o=(o.name.toList==name.toList&&bX o.typ==c) from rfl)
 cases h:(o.name.toList==name.toList)
 ·rw [h] at a
  have f:¬o.name.toList=name.toList:=by simpa using h
  go_enter Tryz.func71,Tryz.ntmps71
  go_wp2_with fail
  go_quiet (fail)
  go_wp2_with fail
  go_ret
  exact ⟨bN a.out.symm,dS b.bel _⟩
 ·rw [h] at a
  have f:o.name.toList=name.toList:=by simpa using h
  go_enter Tryz.func71,Tryz.ntmps71
  go_wp2_with fail
  go_region_held3 (fun w'=>w'.cell? ⟨w.heap.size,0,none⟩=some (aa o.name)/\w'.cell? ⟨w.heap.size,1,none⟩=some (ab ae o.typ)/\w'.cell? ⟨g1,0,none⟩=some (aa name)/\w'.cell? ⟨g2,0,none⟩=some (ab ae c)/\FHeld w w' o g1 g2 name c)
   (first | with_reducible exact b.drew.keep | with_reducible exact FHeld.keep (FHeld.of (by with_reducible assumption)) | with_reducible exact FHeld.keep (FHeld.call (by with_reducible assumption) (FHeld.of (by with_reducible assumption))))
   (first | (go_at_call 19;(with_reducible refine (og o.typ _).mono ?_);rintro e l ⟨rfl,k⟩))
  all_goals go_wp2_with fail
  all_goals go_ret
  all_goals exact ⟨bN a.out.symm,FHeld.bel (FHeld.of (by with_reducible assumption))⟩
theorem EP (A:Option Addr) (n F:Nat) (l:List OpR) (g1 g2:Nat) (name:ByteArray) (c:Int) (w:ai) (v:n=l.length) (Q:n<=400) (x:OpsAt w A l) (H:w.cell? ⟨g1,0,none⟩=some (aa name)) (G:w.cell? ⟨g2,0,none⟩=some (ab ae c)) (y:g1<w.heap.size) (z:g2<w.heap.size) :
  aJ ah 44 #[.slice A n F,.func (.func 71) #[] #[au (some ⟨g1,0,none⟩),au (some ⟨g2,0,none⟩)]] w fun e w'=>e=aw (ab ae (uW (lN name c) l))/\ax w.heap.size w w':=by
 have s:=bi v
 have D:=bi x
 clear v x
 go_enter Tryz.func44,Tryz.ntmps44
 go_wp2_with fail
 go_loopw [8] (fun i wr=>∃k:Nat,k<=n/\i=ab ae k/\ax w.heap.size w wr/\Hid (∀j (a:j<l.length),j<k->lN name c l[j]=false)) (fun i _=>n-(intOf i).toNat)
 case atStart=>exact ⟨0,bp _,rfl,aj _ _,fun j _ a=>absurd a (by omega)⟩
 case round=>
  obtain ⟨k,O,rfl,d,m⟩:=hrel
  by_cases P:k<n
  ·have g:=d.size
   have u:k<l.length:=by have:=s.out;omega
   obtain ⟨b,R,rfl,M,J,K,L⟩:=(D.out.below d) k u
   have B:=bi (fun h=>ox (lN name c) l k u h (fun j a=>m.out j (by omega) a))
   have f:=bi (MB l[k] g1 g2 name c wr ((d.cell (p:=⟨g1,0,none⟩) y).trans H) ((d.cell (p:=⟨g2,0,none⟩) z).trans G) (aC y g) (aC z g))
   have E:=bi (fun (h:lN name c l[k]=false)=>(show ∀j (a:j<l.length),j<k+1->lN name c l[j]=false from fun j a N=>by
    rcases cS j k with t | t
    ·exact m.out j a t
    ·have:j=k:=by omega
     subst this;exact h))
   generalize l[k]=o at *
   unfold kZ at f
   cases hi:lN name c o
   ·rw [hi] at f
    have q:=bi hi
    clear hi
    go_wp2_with fail
    refine f.out.mono ?_;rintro e I ⟨rfl,r⟩
    go_wp2_with fail
    go_roundw
    case rel=>exact ⟨k+1,by omega,by go_num,d.trans (r.mono g),E.out q.out⟩
    case measure=>simp [intOf] <;> omega
   ·rw [hi] at f
    have q:=bi hi
    clear hi
    go_wp2_with fail
    refine f.out.mono ?_;rintro e I ⟨rfl,r⟩
    go_wp2_with fail
    go_ret
    exact ⟨dn (B.out q.out).symm,d.trans (r.mono g)⟩
  ·obtain rfl:k=n:=by omega
   have C:=bi (mN (lN name c) l (fun j a=>m.out j a (by have:=s.out;omega)))
   go_wp2_with fail
   go_ret
   exact ⟨dn C.out.symm,d⟩
theorem qr (A:Option Addr) (n C:Nat) (l:List OpR) (name:ByteArray) (c:Int) (w:ai) (L:n=l.length) (R:n<=400) (S:OpsAt w A l) :
  aJ ah 43 #[.slice A n C,aa name,ab ae c] w fun e w'=>e=aw (aK #[kZ ((dt l name c).getD op0),am (dt l name c).isSome])/\ax w.heap.size w w':=by
 have B:=bi S
 have O:=bi L
 clear S
 have y:=RHeld.start w name c 9 3 39
 have h:=bi (mG A n C l _ L R (B.out.below y.bel))
 clear L
 cases hv:bB l
 ·rw [hv] at h
  have u:=bi (show dt l name c=none by unfold dt;rw [hv];rfl)
  clear hv
  go_enter Tryz.func43,Tryz.ntmps43
  go_wp2_with fail
  refine h.out.mono ?_;rintro e g ⟨rfl,q⟩
  have a:=y.call q
  obtain ⟨f,T,U,P,⟨Y,r⟩,⟨Z,s⟩,⟨v2,t⟩,m⟩:=id a
  have Q:=m 0
  go_wp2_with fail
  refine ay (v:=aK #[kZ op0,am false]) (by simp [kZ,op0,results,Tryz.results43,go_sem,r,s,t]) rfl ⟨by rw [u.out];rfl,by
   have d:w.heap.size<=w.heap.size+1+1:=by omega
   exact ((f.setCell (p:=⟨_,_,none⟩) d _).setCell (p:=⟨_,_,none⟩) d _).setCell (p:=⟨_,_,none⟩) d _⟩
 ·rw [hv] at h
  have u:=bi (show dt l name c=l.find? (lN name c) by unfold dt;rw [hv];rfl)
  clear hv
  have x:=bi (fun (g:ai) (a:RHeld w g name c)=>EP A n C l w.heap.size (w.heap.size+1) name c g O.out R (B.out.below a.bel) a.n0 a.f0 (by have:=a.lt;omega) (by have:=a.lt;omega))
  by_cases I:∃k,∃hk:k<l.length,lN name c l[k]=true/\∀j (J:j<k),lN name c (l[j]'(by omega))=false
  ·obtain ⟨k,K,D,E⟩:=I
   have a0:k<n:=by have:=O.out;omega
   have z:=bi (u.out.trans (IH _ l k K D E))
   rw [ox _ l k K D E] at x
   obtain ⟨b,N,rfl,H,V,W,X⟩:=B.out k K
   generalize l[k]=o at *
   clear D E
   go_enter Tryz.func43,Tryz.ntmps43
   go_wp2_with fail
   refine h.out.mono ?_;rintro e g ⟨rfl,q⟩
   have a:=y.call q
   go_wp2_with fail
   refine (x.out g a).mono ?_;rintro e w2 ⟨rfl,F⟩
   have G:=a.call F
   obtain ⟨f,T,U,P,⟨Y,r⟩,⟨Z,s⟩,⟨v2,t⟩,m⟩:=id G
   have Q:=m 0
   have a1:=(f.cell (p:=⟨b,N+k * 3,none⟩) H).trans V
   have a2:=(f.cell (p:=⟨b,N+k * 3+1,none⟩) H).trans W
   have a3:=(f.cell (p:=⟨b,N+k * 3+2,none⟩) H).trans X
   clear V W X
   go_wp2_with fail
   refine ay (v:=aK #[kZ o,am true]) (by simp [kZ,results,Tryz.results43,go_sem,r,s,t]) rfl ⟨by rw [z.out];rfl,by
    have d:w.heap.size<=w.heap.size+1+1:=by omega
    exact ((f.setCell (p:=⟨_,_,none⟩) d _).setCell (p:=⟨_,_,none⟩) d _).setCell (p:=⟨_,_,none⟩) d _⟩
  ·have M:∀j (J:j<l.length),lN name c l[j]=false:=by
    intro j
    induction j using Nat.strongRecOn with
    | ind j ih=>
     intro J
     cases hc:lN name c l[j] with
     | false=>rfl
     | true=>exact absurd ⟨j,J,hc,fun i hi=>ih i hi (by omega)⟩ I
   have z:=bi (u.out.trans (Fh _ l M))
   rw [mN _ l M] at x
   clear M I
   go_enter Tryz.func43,Tryz.ntmps43
   go_wp2_with fail
   refine h.out.mono ?_;rintro e g ⟨rfl,q⟩
   have a:=y.call q
   go_wp2_with fail
   refine (x.out g a).mono ?_;rintro e w2 ⟨rfl,F⟩
   have G:=a.call F
   obtain ⟨f,T,U,P,⟨Y,r⟩,⟨Z,s⟩,⟨v2,t⟩,m⟩:=id G
   have Q:=m 0
   go_wp2_with fail
   refine ay (v:=aK #[kZ op0,am false]) (by simp [kZ,op0,results,Tryz.results43,go_sem,r,s,t]) rfl ⟨by rw [z.out];rfl,by
    have d:w.heap.size<=w.heap.size+1+1:=by omega
    exact ((f.setCell (p:=⟨_,_,none⟩) d _).setCell (p:=⟨_,_,none⟩) d _).setCell (p:=⟨_,_,none⟩) d _⟩
end Go.Proofs.YtlikcjbjibhjgaaGreatDoor
namespace Hb
theorem zq {p:Prop} (h:p):Go.RowKit.Hid p:=Go.Lib.hid h
theorem bz {a w w':Go.World} (h:Go.RowKit.Hid (Go.RowKit.Below a.heap.size a w)) (b:Go.RowKit.Below w.heap.size w w'):Go.RowKit.Hid (Go.RowKit.Below a.heap.size a w'):=zq (h.out.trans (b.mono h.out.size))
theorem lz {α:Type} (a:α):∃x,Go.RowKit.Hid (x=a):=⟨_,zq rfl⟩
theorem oz {p:Prop} [Decidable p] (h:decide p=true):p:=of_decide_eq_true h
end Hb
