/- Parts of the proof. -/
import Derived.WalkKit
import Derived.WalkSpells
import Derived.WalkLawsBesides
import Derived.LoopTactic
import Derived.Outline
import Derived.Lib.Hide
import Derived.Deep.QuietTactic
import Derived.BigQuiet
import Derived.Laws.Strings
import Derived.Maps.AppendAt
import Derived.Deep.DeepMust
import Derived.Test.YtgapnafkelokaaaGreatDoorProg
import Derived.RegionTactic
import Derived.Deep.RegionWith
import Derived.Laws.EntriesVeiled
import Derived.Deep.CutBlock
import Derived.Sort.Walk0
import Derived.Test.YtgapnafkelokaaaGreatDoorChecked
import Derived.LoopN
import Derived.Deep.RegionHeld3
set_option maxHeartbeats 12800000
set_option maxRecDepth 100000
open Bool renaming and_eq_false_iff -> fW, and_eq_true -> aE, true_and -> di
open ByteArray.toList renaming loop -> eX
open Go renaming Calls -> aG, Program -> dJ, TypeId -> bJ, Value -> aA, World -> aj, bodyPost_ret -> aw, maxLen -> bc, rounds_succ -> gU, run_convert_bytes_back -> ii, wpList -> dW
open Go.Ending renaming returned -> av, returned -> em
open Go.IntKind renaming i64 -> ae
open Go.Lib renaming hid -> aZ
open Go.Proofs.Tryz renaming prog -> ah
open Go.RowKit renaming Below -> ay
open Go.RowKit.Below renaming refl -> ak
open Go.Value renaming bool -> an, int -> ab, ownBlock -> fj, pointer -> ax, string -> aa, tuple -> aF
open Go.World renaming cell?_alloc_new -> aq, cell?_of_block -> cG, grownBy_alloc -> dX
open List renaming all_eq_true -> bh, getElem?_eq_getElem -> aT, getElem_mem -> aQ, getElem_of_mem -> dO, mem_range -> dB, take_of_length_le -> bg, take_succ_eq_append_getElem -> aK
open Nat renaming le_of_lt -> fG, le_refl -> ag, le_trans -> aH, lt_of_lt_of_le -> aB, lt_or_ge -> dy, zero_le -> bj
namespace Hb
open Go Go.RowKit
theorem cT {k:IntKind} {a b:Int} (h:a=b):em (ab k a)=av (ab k b):=by rw [h]
theorem bC {a b:Bool} (h:a=b):em (an a)=av (an b):=by rw [h]
theorem nB {a b:ByteArray} (h:a=b):em (aa a)=av (aa b):=by rw [h]
theorem uX {k:IntKind} {a c:Int} {b d:Bool} (h:a=c) (e:b=d):em (aF #[ab k a,an b])=av (aF #[ab k c,an d]):=by rw [h,e]
theorem uW {a c:ByteArray} {b d:Bool} (h:a=c) (e:b=d):em (aF #[aa a,an b])=av (aF #[aa c,an d]):=by rw [h,e]
theorem uV {a b:aA} (h:a=b):em a=av b:=by rw [h]
theorem jC {P:dJ} {f:FuncId} {args:Array aA} {w:aj} {n:Nat} {v:aA}
  (h:aG P f args (w.drewN n) fun e w'=>e=av v/\w.drewN n=w'):aG P f args (w.drewN n) fun e a=>e=av v/\∃m,a=w.drewN m :=
 h.mono fun _ _ ⟨he,hm⟩=>⟨he,n,hm.symm⟩
theorem dF {B:Nat} {a w:aj} (h:ay B a w) (n:Nat):ay B a (w.drewN n):=h.trans ⟨rfl,rfl,rfl,ag _,fun _ _=>rfl⟩
theorem size_data (s:ByteArray):s.data.toList.length=s.size:=by simp
def byteCells (l:List UInt8):List aA:=l.map fun b=>ab .u8 (b.toNat:Int)
theorem tg (l:List UInt8) (b:UInt8):byteCells (l++[b])=byteCells l++[ab .u8 (b.toNat:Int)]:=by simp [byteCells]
theorem nS (l:List UInt8):(byteCells l).length=l.length:=by simp [byteCells]
theorem pw {P:dJ} (w:aj) (b a e:bJ) (h:P.underlying b=some (.slice e)) (c:P.underlying e=some (.int .u8)) (hd:P.underlying a=some .string)
  (i:Nat) (v:aA) (n:Nat) (l:List UInt8) (f:w.ownsRow i e 1 v n (byteCells l)) :
  (convert b a v).run P w=.ok (aa ⟨l.toArray⟩) w:=by
 have d:=f.1
 rw [nS,Nat.mul_one] at d
 rcases f.2 with ⟨rfl,t⟩ | ⟨g,k,m,rfl,_,q,u,_,x,s⟩
 ·have:l=[]:=List.eq_nil_of_length_eq_zero (by omega)
  subst this
  exact run_convert_bytes_nil w b e h c _ _ a hd
 ·subst d
  refine ii w b a e ⟨g,0,none⟩ k l h c hd fun j r=>?_
  have o:(⟨g,0,none⟩:Addr).add j=⟨g,j,none⟩:=by unfold Addr.add;split <;> simp_all
  rw [o]
  have p:m.toList[j]? = some (ab .u8 (l[j].toNat:Int)):=by
   have:(byteCells l)[j]? = some (ab .u8 (l[j].toNat:Int)):=by simp [byteCells,aT r]
   rw [<-s,List.getElem?_take_of_lt (by omega)] at this
   exact this
  show World.cell? w _=_
  unfold World.cell?
  simp only [q]
  simpa using p
theorem qj {P:dJ} (b a e:bJ) (f:P.underlying b=some (.slice e)) (c:P.underlying e=some (.int .u8)) (hd:P.underlying a=some .string)
  (n:Int) (g:0<=n) (h:n<=255) (w:aj):(convert b a (.slice (some ⟨w.heap.size,0,none⟩) 1 1)).run P (w.alloc (.cells #[ab .u8 n] e))=.ok (aa ⟨#[n.toNat.toUInt8]⟩) (w.alloc (.cells #[ab .u8 n] e)):=by
 refine ii (w.alloc (.cells #[ab .u8 n] e)) b a e ⟨w.heap.size,0,none⟩ 1 [n.toNat.toUInt8] f c hd fun j d=>?_
 have:j=0:=by simp at d;omega
 subst this
 show (w.alloc (.cells #[ab .u8 n] e)).cell? ⟨w.heap.size,0,none⟩=_
 rw [aq]
 simp;omega
theorem bK {P:dJ} {w:aj} {q:Array Oper} {rest:List Oper} {o:Oper} {a:Act} {Q:Exit->Act->aj->Prop} (D:o.guard=none) (s x:Operand) (t e:bJ)
  (G:o.op=.call { callee:=.builtin .append,args:=#[s,x],argTypes:=#[t,t] }) (K:P.underlying t=some (.slice e)) (z:aA) (size f:Nat)
  (F:(P.info? e).map (fun i=>(i.zero,i.size,i.bytes))=some (some z,size,f)) (T:z.cells.size=size) (J:0<size)
  (b:Nat) (v:aA) (n:Nat) (xs:List aA) (I:a.eval s=v) (W:aj) (p:W.ownsRow b e size v n xs) (c:Array aA) (C:c.size=size) (y:∀u∈c.toList,u.oneCell'=true)
  (M:w=W.alloc (.cells c e)) (N:a.eval x=.slice (some ⟨W.heap.size,0,none⟩) 1 1) (X:n+1<=4611686018427387904) (B:(n+1) * f<=140737488355328) (A:b<=W.heap.size)
  (h:∀d w',w'.ownsRow b e size d (n+1) (xs++c.toList)->ay b W w'->w.grownBy w' v.ownBlock->dW P q Q rest (a.put o.dst d) w'):dW P q Q (o::rest) a w:=by
 subst M
 obtain ⟨i,E,O,R,S⟩:=info_parts F
 refine wpList_append_own _ D s x t G b e i z size f K E O R S T J v n xs I (p.alloc _) ⟨W.heap.size,0,none⟩ 1 1 c.toList N (by simp [C]) ?_ y (by unfold bc;omega) B (by simp;omega) ?_
 ·intro j u L
  have r:(⟨W.heap.size,0,none⟩:Addr).add j=⟨W.heap.size,j,none⟩:=by unfold Addr.add;split <;> simp_all
  rw [r,aq]
  simpa using L
 ·intro d w' H l _
  refine h d w' H ?_ l
  refine (((ak b W).alloc A _).grown l (by simp;omega) ?_)
  intro k m
  rcases p.2 with ⟨rfl,_⟩ | ⟨g,U,V,rfl,Y,_⟩
  ·simp [fj] at m
  ·simp [fj] at m;omega
theorem ep {P:dJ} {w:aj} {f:Array Oper} {rest:List Oper} {o:Oper} {a:Act} {Q:Exit->Act->aj->Prop} (k:o.guard=none) (s x:Operand) (t e:bJ)
  (p:o.op=.call { callee:=.builtin .append,args:=#[s,x],argTypes:=#[t,t] }) (y:P.underlying t=some (.slice e))
  (m:(P.info? e).map (fun i=>(i.zero,i.size,i.bytes))=some (some (ab .u8 0),1,1))
  (b:Nat) (v:aA) (n:Nat) (l:List UInt8) (u:a.eval s=v) (W:aj) (r:W.ownsRow b e 1 v n (byteCells l)) (c:Int) (B:0<=c) (C:c<=255)
  (z:w=W.alloc (.cells #[ab .u8 c] e)) (A:a.eval x=.slice (some ⟨W.heap.size,0,none⟩) 1 1) (D:n<=70368744177664) (j:b<=W.heap.size)
  (h:∀d w',w'.ownsRow b e 1 d (n+1) (byteCells (l++[c.toNat.toUInt8]))->ay b W w'->dW P f Q rest (a.put o.dst d) w'):dW P f Q (o::rest) a w:=by
 refine bK k s x t e p y _ 1 1 m rfl (by decide) b v n _ u W r #[ab .u8 c] rfl (by simp [Value.oneCell']) z A (by omega) (by omega) j fun d w' q g _=>h d w' ?_ g
 rw [tg]
 have:((c.toNat.toUInt8).toNat:Int)=c:=by simp;omega
 rw [this];exact q
def Pairs (w:aj) (A:Option Addr) (l:List (Int×Int)):Prop :=
 ∀j (h:j<l.length),∃b off,A=some ⟨b,off,none⟩/\b<w.heap.size/\w.cell? ⟨b,off+j * 2,none⟩=some (ab ae l[j].1)/\w.cell? ⟨b,off+j * 2+1,none⟩=some (ab ae l[j].2)
theorem Pairs.below {w w':aj} {A:Option Addr} {l:List (Int×Int)} (h:Pairs w A l) (a:ay w.heap.size w w'):Pairs w' A l:=fun j g=>by
 obtain ⟨b,i,e,c,d,f⟩:=h j g
 exact ⟨b,i,e,aB c a.size,(a.cell (p:=⟨b,_,none⟩) c).trans d,(a.cell (p:=⟨b,_,none⟩) c).trans f⟩
theorem Pairs.nil (w:aj) (A:Option Addr):Pairs w A []:=fun j h=>absurd h (by simp)
inductive Tm where
 | mk (kind num:Int) (name:ByteArray) (args:List Tm)
def Tm.kind:Tm->Int | .mk k _ _ _=>k
def Tm.num:Tm->Int | .mk _ n _ _=>n
def Tm.name:Tm->ByteArray | .mk _ _ s _=>s
def Tm.args:Tm->List Tm | .mk _ _ _ l=>l
theorem Tm.ind {P:Tm->Prop} (h:∀t:Tm,(∀a∈t.args,P a)->P t):∀t,P t :=
 Tm.rec (motive_1:=P) (motive_2:=fun l=>∀a∈l,P a) (fun k n s l g=>h (.mk k n s l) g) (fun a f=>by cases f) (fun a l d e b c=>by
  rcases List.mem_cons.1 c with rfl | c
  ·exact d
  ·exact e b c)
inductive TmsK (K:Nat->Prop) (w:aj):Option Addr->List Tm->Prop
 | mk (A:Option Addr) (l:List Tm) (F:Nat->Option Addr) (C:Nat->Nat) (hl:l.length<=bc)
  (hc:∀j (hj:j<l.length),∃b off,A=some ⟨b,off,none⟩/\K b/\w.cell? ⟨b,off+j * 4,none⟩=some (ab ae l[j].kind)/\w.cell? ⟨b,off+j * 4+1,none⟩=some (ab ae l[j].num)/\w.cell? ⟨b,off+j * 4+2,none⟩=some (aa l[j].name)/\w.cell? ⟨b,off+j * 4+3,none⟩=some (.slice (F j) l[j].args.length (C j)))
  (hs:∀j (hj:j<l.length),TmsK K w (F j) l[j].args):TmsK K w A l
theorem TmsK.len {K:Nat->Prop} {w:aj} {A:Option Addr} {l:List Tm} (h:TmsK K w A l):l.length<=bc:=by cases h;assumption
theorem TmsK.get {K:Nat->Prop} {w:aj} {A:Option Addr} {l:List Tm} (h:TmsK K w A l) (j:Nat) (c:j<l.length) :
  ∃b a A' cap',A=some ⟨b,a,none⟩/\K b/\w.cell? ⟨b,a+j * 4,none⟩=some (ab ae l[j].kind)/\w.cell? ⟨b,a+j * 4+1,none⟩=some (ab ae l[j].num)/\w.cell? ⟨b,a+j * 4+2,none⟩=some (aa l[j].name)/\w.cell? ⟨b,a+j * 4+3,none⟩=some (.slice A' l[j].args.length cap')/\TmsK K w A' l[j].args:=by
 cases h with
 | mk A l F C hl hc hs=>
  obtain ⟨b,a,e,k,d,f,g,i⟩:=hc j c
  exact ⟨b,a,F j,C j,e,k,d,f,g,i,hs j c⟩
theorem TmsK.keep {K K':Nat->Prop} {w w':aj} {A:Option Addr} {l:List Tm} (h:TmsK K w A l) (k:∀b,K b->w'.heap[b]? = w.heap[b]?) (m:∀b,K b->K' b):TmsK K' w' A l:=by
 induction h with
 | mk A l F C hl hc _ ih=>
  refine .mk A l F C hl (fun j n=>?_) ih
  obtain ⟨b,p,e,c,d,f,g,i⟩:=hc j n
  have a:∀o,w'.cell? ⟨b,o,none⟩=w.cell? ⟨b,o,none⟩:=fun o=>cG (k b c)
  exact ⟨b,p,e,m b c,(a _).trans d,(a _).trans f,(a _).trans g,(a _).trans i⟩
theorem TmsK.nil {K:Nat->Prop} {w:aj} {A:Option Addr}:TmsK K w A []:=.mk A [] (fun _=>.none) (fun _=>0) (by decide) (fun j a=>absurd a (by simp)) (fun j a=>absurd a (by simp))
def TmsAt (B:Nat) (w:aj) (A:Option Addr) (l:List Tm):Prop:=TmsK (fun b=>b<B) w A l
theorem TmsAt.len {B:Nat} {w:aj} {A:Option Addr} {l:List Tm} (h:TmsAt B w A l):l.length<=bc:=TmsK.len h
theorem TmsAt.get {B:Nat} {w:aj} {A:Option Addr} {l:List Tm} (h:TmsAt B w A l) (j:Nat) (a:j<l.length) :
  ∃b off A' cap',A=some ⟨b,off,none⟩/\b<B/\w.cell? ⟨b,off+j * 4,none⟩=some (ab ae l[j].kind)/\w.cell? ⟨b,off+j * 4+1,none⟩=some (ab ae l[j].num)/\w.cell? ⟨b,off+j * 4+2,none⟩=some (aa l[j].name)/\w.cell? ⟨b,off+j * 4+3,none⟩=some (.slice A' l[j].args.length cap')/\TmsAt B w A' l[j].args:=TmsK.get h j a
theorem TmsAt.keep {B:Nat} {w w':aj} {A:Option Addr} {l:List Tm} (h:TmsAt B w A l) (a:ay B w w'):TmsAt B w' A l:=TmsK.keep h (fun b c=>a.block b c) (fun _ h=>h)
theorem TmsAt.mono {B a:Nat} {w:aj} {A:Option Addr} {l:List Tm} (h:TmsAt B w A l) (b:B<=a):TmsAt a w A l:=TmsK.keep h (fun _ _=>rfl) (fun _ h=>aB h b)
theorem TmsK.at {K:Nat->Prop} {w:aj} {A:Option Addr} {l:List Tm} (h:TmsK K w A l) (a:∀b,K b->b<w.heap.size):TmsAt w.heap.size w A l:=TmsK.keep h (fun _ _=>rfl) a
def dR (t:Tm) (A:Option Addr) (a:Nat):aA:=.agg #[ab ae t.kind,ab ae t.num,aa t.name,.slice A t.args.length a]
def Tm.nodes:Tm->Nat
 | .mk _ _ _ l=>1+(l.attach.map fun ⟨a,_⟩=>a.nodes).sum
theorem Tm.nodes_eq (t:Tm):t.nodes=1+(t.args.map Tm.nodes).sum:=by
 cases t with
 | mk k n s l=>unfold Tm.nodes Tm.args;simp
theorem Tm.nodes_pos (t:Tm):1<=t.nodes:=by rw [Tm.nodes_eq];omega
def dH (t:Tm):Bool :=
 if t.kind=0 then decide (0<=t.num)&&decide (t.num<=1099511627776)&&t.name.toList==[]&&t.args.length==0
 else if t.kind=1 then t.name.toList==[]&&t.args.length==0
 else if t.kind=2 then t.num==0&&decide (t.name.size<=100)&&t.args.length==0
 else if t.kind=3 then t.num==0&&decide (t.name.size<=100)&&decide (0<t.args.length)&&decide (t.args.length<=8)
 else false
def Tm.allOk:Tm->Bool
 | .mk k n s l=>dH (.mk k n s l)&&l.attach.all fun ⟨a,_⟩=>a.allOk
theorem Tm.allOk_eq (t:Tm):t.allOk=(dH t&&t.args.all Tm.allOk):=by
 cases t with
 | mk k n s l=> 
  have h:l.attach.all (fun x=>x.1.allOk)=(l.attach.map Subtype.val).all Tm.allOk:=by rw [List.all_map];rfl
  rw [List.attach_map_subtype_val] at h
  unfold Tm.allOk
  show (_&&l.attach.all fun x=>x.1.allOk)=(dH _&&l.all Tm.allOk)
  rw [h]
def bu (t:Tm):Bool:=decide (t.nodes<=2000)&&t.allOk
structure Only (g:Nat) (w w':aj):Prop where
 os:w'.os=w.os
 tape:w'.tape=w.tape
 output:w'.output=w.output
 size:w.heap.size<=w'.heap.size
 block:∀k,k<w.heap.size->k≠g->w'.heap[k]? = w.heap[k]?
theorem Only.refl (g:Nat) (w:aj):Only g w w:=⟨rfl,rfl,rfl,ag _,fun _ _ _=>rfl⟩
theorem Only.trans {g:Nat} {a b c:aj} (h:Only g a b) (k:Only g b c):Only g a c :=
 ⟨k.os.trans h.os,k.tape.trans h.tape,k.output.trans h.output,aH h.size k.size,fun i e d=>(k.block i (aB e h.size) d).trans (h.block i e d)⟩
theorem Only.of {g:Nat} {a b:aj} (h:ay a.heap.size a b):Only g a b:=⟨h.os,h.tape,h.output,h.size,fun k c _=>h.block k c⟩
theorem Only.below {g B:Nat} {a b:aj} (h:Only g a b) (c:B<=g) (e:B<=a.heap.size):ay B a b:=⟨h.os,h.tape,h.output,h.size,fun k d=>h.block k (by omega) (by omega)⟩
theorem Only.cell {g:Nat} {a b:aj} (h:Only g a b) {p:Addr} (d:p.block<a.heap.size) (c:p.block≠g):b.cell? p=a.cell? p:=cG (h.block _ d c)
theorem Only.set (g o:Nat) (w:aj) (v:aA):Only g w (w.setCell ⟨g,o,none⟩ v):=⟨rfl,rfl,rfl,by simp,fun k _ a=>heap_setCell_other w ⟨g,o,none⟩ k v (fun e=>a (by simp [e]))⟩
theorem Only.alloc (g:Nat) (w:aj) (o:Obj):Only g w (w.alloc o):=.of ((ak _ _).alloc (ag _) o)
def pK (l:List Tm) (k:Nat):Nat:=((l.take k).map Tm.nodes).sum
theorem tS (l:List Tm):pK l 0=0:=rfl
theorem pJ (l:List Tm) (k:Nat) (a:k<l.length):pK l (k+1)=pK l k+l[k].nodes:=by
 unfold pK
 rw [aK a,List.map_append,List.sum_append]
 simp
theorem Ap (l:List Tm):∀d k,pK l k<=pK l (k+d):=by
 intro d
 induction d with
 | zero=>intro k;exact ag _
 | succ d ih=>
  intro k
  refine aH (ih k) ?_
  rcases dy (k+d) l.length with h | h
  ·rw [show k+(d+1)=(k+d)+1 by omega,pJ l (k+d) h];omega
  ·unfold pK
   rw [bg h,bg (by omega)]
   exact ag _
theorem wJ (t:Tm):t.nodes=1+pK t.args t.args.length:=by
 rw [Tm.nodes_eq];unfold pK;rw [List.take_length]
structure TBoxT (w0 w:aj) (t:Tm) (A:Option Addr) (cap:Nat):Prop where
 bel:ay w0.heap.size w0 w
 lt:w0.heap.size<w.heap.size
 c0:w.cell? ⟨w0.heap.size,0,none⟩=some (ab ae t.kind)
 c1:w.cell? ⟨w0.heap.size,1,none⟩=some (ab ae t.num)
 c2:w.cell? ⟨w0.heap.size,2,none⟩=some (aa t.name)
 c3:w.cell? ⟨w0.heap.size,3,none⟩=some (.slice A t.args.length cap)
theorem TBoxT.call {w0 w w':aj} {t:Tm} {A:Option Addr} {b:Nat} (h:TBoxT w0 w t A b) (a:ay w.heap.size w w'):TBoxT w0 w' t A b where
 bel:=h.bel.trans (a.mono (fG h.lt))
 lt:=aB h.lt a.size
 c0:=(a.cell (p:=⟨_,_,none⟩) h.lt).trans h.c0
 c1:=(a.cell (p:=⟨_,_,none⟩) h.lt).trans h.c1
 c2:=(a.cell (p:=⟨_,_,none⟩) h.lt).trans h.c2
 c3:=(a.cell (p:=⟨_,_,none⟩) h.lt).trans h.c3
theorem TBoxT.start (w:aj) (t:Tm) (A:Option Addr) (a:Nat) (e:bJ):TBoxT w (w.alloc (.cells #[ab ae t.kind,ab ae t.num,aa t.name,.slice A t.args.length a] e)) t A a where
 bel:=(ak _ _).alloc (ag _) _
 lt:=by simp
 c0:=aq _ _ _ 0
 c1:=aq _ _ _ 1
 c2:=aq _ _ _ 2
 c3:=aq _ _ _ 3
end Hb
namespace Go.Proofs.YtgapnafkelokaaaGreatDoor
open Go.RowKit Hb
theorem Ca:∀(t:Tm) (A:Option Addr) (g most:Nat) (w:aj),TmsAt w.heap.size w A t.args->1<=most->most<=2001 ->
  aG ah 66 #[dR t A g,ab ae most] w fun e w'=>e=av (ab ae (min t.nodes most:Nat))/\ay w.heap.size w w':=by
 refine Tm.ind fun t F=>?_
 intro A g most w m V W
 have K:=aZ (TBoxT.start w t A g 24)
 have J:=aZ m
 have y:=m.len
 unfold bc at y
 have r:=aZ (wJ t)
 have I:=aZ F
 clear m F
 obtain ⟨L,d⟩:∃L,Hid (L=t.args.length):=⟨_,aZ rfl⟩
 unfold dR
 rw [<-d.out] at y |-
 go_enter Tryz.func66,Tryz.ntmps66
 go_wp2_with fail
 go_loopw [5,6] (fun c i wr=>∃k n:Nat,k<=L/\c=ab ae n/\i=ab ae k/\n=min (1+pK t.args k) most/\Hid (TBoxT w wr t A g)) (fun _ i _=>L-(intOf i).toNat)
 case atStart=>exact ⟨0,1,bj _,rfl,rfl,by rw [tS];omega,by rw [d.out];exact K⟩
 case round=>
  obtain ⟨k,n,Y,rfl,rfl,h,a⟩:=hrel
  have u:=a.out.c3
  rw [<-d.out] at u
  by_cases Z:k<L
  ·by_cases a5:n<most
   ·have p:k<t.args.length:=by have:=d.out;omega
    obtain ⟨b,a8,G,Q,rfl,X,M,N,O,P,C⟩:=(J.out.keep a.out.bel).get k p
    have D:=C.mono a.out.bel.size
    have l:=aZ (I.out t.args[k] (aQ p) G Q (most-n) wr D (by omega) (by omega))
    have E:=pJ t.args k p
    unfold dR at l
    have a4:((most:Int)-(n:Int))=((most-n:Nat):Int):=by omega
    obtain ⟨q,z⟩:∃q,q=min t.args[k].nodes (most-n):=⟨_,rfl⟩
    rw [<-z] at l
    have B:n+q=min (1+pK t.args (k+1)) most:=by rw [E];omega
    clear C D z E h
    generalize t.args[k].kind=a0 at *
    generalize t.args[k].num=S at *
    generalize t.args[k].name=T at *
    generalize t.args[k].args.length=U at *
    have s:=aZ B
    clear B
    go_wp2_with fail
    refine l.out.mono ?_;rintro e w1 ⟨rfl,x⟩
    have H:=aZ (a.out.call x)
    have a7:n+q<=2001:=by have:=s.out;omega
    clear u M N O P x
    go_wp2_with fail
    go_roundw
    case rel=>exact ⟨k+1,n+q,by omega,by go_num,by go_num,s.out,H⟩
    case measure=>simp [intOf] <;> omega
   ·have f:n=min t.nodes most:=by
     have R:=Ap t.args (t.args.length-k) k
     have v:=d.out
     rw [show k+(t.args.length-k)=t.args.length by omega] at R
     rw [r.out];omega
    have j:=aZ f
    have o:=a.out.bel
    have a6:¬(n:Int)<(most:Int):=by omega
    clear f h
    go_wp2_with fail
    go_ret
    exact ⟨cT (by rw [j.out]),o⟩
  ·have f:n=min t.nodes most:=by
    have v:=d.out
    rw [r.out,<-v,h,show k=L by omega]
   have j:=aZ f
   have o:=a.out.bel
   clear f h
   go_wp2_with fail
   go_ret
   exact ⟨cT (by rw [j.out]),o⟩
theorem Ee (t:Tm) (A:Option Addr) (a:Nat) (w:aj) (d:TmsAt w.heap.size w A t.args):aG ah 39 #[dR t A a] w fun e w'=>e=av (ab ae (min t.nodes 2001:Nat))/\ay w.heap.size w w':=by
 have c:=aZ (TBoxT.start w t A a 24)
 have f:=aZ (fun (b:aj) (h:TBoxT w b t A a)=>Ca t A a 2001 b ((d.keep h.bel).mono h.bel.size) (by decide) (by decide))
 unfold dR at *
 clear d
 generalize min t.nodes 2001=m at *
 generalize t.kind=a0 at *
 generalize t.num=j at *
 generalize t.name=k at *
 generalize t.args.length=l at *
 go_enter Tryz.func39,Tryz.ntmps39
 go_wp2_with fail
 refine (f.out _ c.out).mono ?_;rintro e b ⟨rfl,g⟩
 have i:=(c.out.call g).bel
 go_wp2_with fail
 go_ret
 exact ⟨rfl,i⟩
theorem Ef (t:Tm) (A:Option Addr) (a:Nat) (w:aj) (_hm:t.args.length<=bc):aG ah 67 #[dR t A a] w fun e w'=>e=av (an (dH t))/\ay w.heap.size w w':=by
 unfold dR
 go_enter Tryz.func67,Tryz.ntmps67
 go_wp2_with fail
 all_goals go_ret
 all_goals refine ⟨bC ?_,(ak _ _).alloc (ag _) _⟩
 all_goals unfold dH
 all_goals grind
theorem BZ:∀(t:Tm) (A:Option Addr) (c:Nat) (w:aj),TmsAt w.heap.size w A t.args ->
  aG ah 40 #[dR t A c] w fun e w'=>e=av (an t.allOk)/\ay w.heap.size w w':=by
 refine Tm.ind fun t E=>?_
 intro A c w u
 have o:=aZ (TBoxT.start w t A c 24)
 have K:=aZ u
 have x:=u.len
 have m:=aZ (fun r (h:TBoxT w r t A c)=>(Ef t A c r x).mono fun _ _ C=>(⟨C.1,h.call C.2⟩:_/\TBoxT w _ t A c))
 unfold bc at x
 have I:=aZ E
 have l:=aZ (Tm.allOk_eq t)
 clear u E
 obtain ⟨L,g⟩:∃L,Hid (L=t.args.length):=⟨_,aZ rfl⟩
 unfold dR at *
 rw [<-g.out] at x m |-
 cases hno:dH t
 ·rw [hno] at m l
  clear hno
  go_enter Tryz.func40,Tryz.ntmps40
  go_wp2_with fail
  rw [<-g.out] at o
  refine (m.out _ o.out).mono ?_;rintro e r ⟨rfl,p⟩
  have n:=p.bel
  go_wp2_with fail
  go_ret
  exact ⟨bC (by rw [l.out];rfl),n⟩
 ·rw [hno] at m l
  clear hno
  rw [<-g.out] at o
  go_enter Tryz.func40,Tryz.ntmps40
  go_wp2_with fail
  refine (m.out _ o.out).mono ?_;rintro e r ⟨rfl,p⟩
  have M:=aZ p
  clear p
  go_wp2_with fail
  go_loopw [3] (fun i wr=>∃k:Nat,k<=L/\i=ab ae k/\Hid (TBoxT w wr t A c)/\Hid (∀j (d:j<t.args.length),j<k->t.args[j].allOk=true)) (fun i _=>L-(intOf i).toNat)
  case atStart=>exact ⟨0,bj _,rfl,M,aZ fun j _ d=>absurd d (by omega)⟩
  case round=>
   obtain ⟨k,hk,rfl,f,y⟩:=hrel
   have O:=f.out.c3
   rw [<-g.out] at O
   by_cases a5:k<L
   ·have v:k<t.args.length:=by have:=g.out;omega
    obtain ⟨b,a6,F,P,rfl,Z,V,W,X,Y,D⟩:=(K.out.keep f.out.bel).get k v
    have B:=aZ (I.out t.args[k] (aQ v) F P wr (D.mono f.out.bel.size))
    have J:Hid (t.args[k].allOk=false->t.allOk=false):=aZ fun h=>by
     rw [l.out,di,List.all_eq_false]
     exact ⟨_,aQ v,by rw [h];simp⟩
    have N:Hid (t.args[k].allOk=true->∀j (d:j<t.args.length),j<k+1->t.args[j].allOk=true):=aZ fun h j d a4=>by
     rcases dy j k with z | z
     ·exact y.out j d z
     ·have:j=k:=by omega
      subst this;exact h
    clear D
    generalize t.args[k].kind=a0 at *
    generalize t.args[k].num=S at *
    generalize t.args[k].name=T at *
    generalize t.args[k].args.length=U at *
    generalize t.args[k].allOk=q at *
    cases q
    ·go_wp2_with fail
     refine B.out.mono ?_;rintro e R ⟨rfl,s⟩
     have n:=(f.out.call s).bel
     go_wp2_with fail
     go_ret
     exact ⟨bC (J.out (by first | rfl | trivial)).symm,n⟩
    ·go_wp2_with fail
     refine B.out.mono ?_;rintro e R ⟨rfl,s⟩
     have G:=aZ (f.out.call s)
     go_wp2_with fail
     go_roundw
     case rel=>exact ⟨k+1,by omega,by go_num,G,aZ (N.out (by first | rfl | trivial))⟩
     case measure=>simp [intOf] <;> omega
   ·have H:Hid (t.allOk=true):=aZ (by
     rw [l.out,di,bh]
     intro a Q
     obtain ⟨j,d,rfl⟩:=dO Q
     exact y.out j d (by have:=g.out;omega))
    have n:=f.out.bel
    go_wp2_with fail
    go_ret
    exact ⟨bC H.out.symm,n⟩
theorem lY (t:Tm) (A:Option Addr) (a:Nat) (w:aj) (i:TmsAt w.heap.size w A t.args):aG ah 19 #[dR t A a] w fun e w'=>e=av (an (bu t))/\ay w.heap.size w w':=by
 have l:=aZ (TBoxT.start w t A a 24)
 have f:=aZ (fun (c:aj) (h:TBoxT w c t A a)=>(Ee t A a c ((i.keep h.bel).mono h.bel.size)).mono fun _ _ d=>(⟨d.1,h.call d.2⟩:_/\TBoxT w _ t A a))
 have n:=aZ (fun (c:aj) (h:TBoxT w c t A a)=>(BZ t A a c ((i.keep h.bel).mono h.bel.size)).mono fun _ _ d=>(⟨d.1,h.call d.2⟩:_/\TBoxT w _ t A a))
 unfold dR at *
 clear i
 by_cases m:t.nodes<=2000
 ·have g:Hid (bu t=t.allOk):=aZ (by unfold bu;simp [m])
  have k:min t.nodes 2001=t.nodes:=by omega
  rw [k] at f
  have p:decide ((t.nodes:Int)<=2000)=true:=by simp;omega
  go_enter Tryz.func19,Tryz.ntmps19
  go_wp2_with fail
  refine (f.out _ l.out).mono ?_;rintro e c ⟨rfl,b⟩
  have q:=b.c0
  have r:=b.c1
  have s:=b.c2
  have u:=b.c3
  go_wp2_with fail
  refine (n.out _ b).mono ?_;rintro e v ⟨rfl,o⟩
  have j:=o.bel
  go_wp2_with fail
  go_ret
  exact ⟨bC g.out.symm,j⟩
 ·have g:Hid (bu t=false):=aZ (by unfold bu;simp [m])
  have k:min t.nodes 2001=2001:=by omega
  rw [k] at f
  go_enter Tryz.func19,Tryz.ntmps19
  go_wp2_with fail
  refine (f.out _ l.out).mono ?_;rintro e c ⟨rfl,b⟩
  have j:=b.bel
  go_wp2_with fail
  go_ret
  exact ⟨bC g.out.symm,j⟩
end Go.Proofs.YtgapnafkelokaaaGreatDoor
namespace Hb
open Go Go.RowKit
structure WalkH (w0 w:aj) (t:Tm) (A:Option Addr) (cap gl M:Nat):Prop where
 only:Hb.Only gl w0 w
 lt:w0.heap.size<w.heap.size
 b3:w.cell? ⟨w0.heap.size,3,none⟩=some (.slice A t.args.length cap)
 cell:w.cell? ⟨gl,0,none⟩=some (ab ae M)
 fr:∀o,w.frozen? ⟨gl,o,none⟩=false
structure LeftN (w0 w:aj) (gl:Nat) (M:Nat):Prop where
 only:Hb.Only gl w0 w
 cell:w.cell? ⟨gl,0,none⟩=some (ab ae M)
 fr:∀o,w.frozen? ⟨gl,o,none⟩=false
theorem WalkH.left {w0 w:aj} {t:Tm} {A:Option Addr} {b a M:Nat} (h:WalkH w0 w t A b a M):LeftN w0 w a M:=⟨h.only,h.cell,h.fr⟩
theorem WalkH.call {w0 w w':aj} {t:Tm} {A:Option Addr} {d a M c:Nat} (h:WalkH w0 w t A d a M) (e:a<w0.heap.size) (b:LeftN w w' a c):WalkH w0 w' t A d a c where
 only:=h.only.trans b.only
 lt:=aB h.lt b.only.size
 b3:=(b.only.cell (p:=⟨w0.heap.size,3,none⟩) h.lt (by show w0.heap.size≠a;omega)).trans h.b3
 cell:=b.cell
 fr:=b.fr
theorem WalkH.start (w:aj) (t:Tm) (A:Option Addr) (c a M b:Nat) (e:bJ) (g:b=t.args.length) (f:a<w.heap.size) {u:aA} (i:w.cell? ⟨a,0,none⟩=some u) (j:∀o,w.frozen? ⟨a,o,none⟩=false) :
  WalkH w ((w.setCell ⟨a,0,none⟩ (ab ae M)).alloc (.cells #[ab ae t.kind,ab ae t.num,aa t.name,.slice A b c] e)) t A c a M where
 only:=(Hb.Only.set a 0 w _).trans (Hb.Only.alloc a _ _)
 lt:=by simp
 b3:=by
  have h:=aq (w.setCell ⟨a,0,none⟩ (ab ae M)) #[ab ae t.kind,ab ae t.num,aa t.name,.slice A b c] e 3
  have k:(w.setCell ⟨a,0,none⟩ (ab ae M)).heap.size=w.heap.size:=by simp
  rw [k] at h
  rw [h,g];rfl
 cell:=by
  have d:=(ak (w.setCell ⟨a,0,none⟩ (ab ae M)).heap.size (w.setCell ⟨a,0,none⟩ (ab ae M))).alloc (ag _) (.cells #[ab ae t.kind,ab ae t.num,aa t.name,.slice A b c] e)
  rw [d.cell (p:=⟨a,0,none⟩) (by simpa using f)]
  exact World.cell?_setCell_same _ _ _ i
 fr:=fun o=>by
  have d:=(ak (w.setCell ⟨a,0,none⟩ (ab ae M)).heap.size (w.setCell ⟨a,0,none⟩ (ab ae M))).alloc (ag _) (.cells #[ab ae t.kind,ab ae t.num,aa t.name,.slice A b c] e)
  rw [d.frozen (p:=⟨a,o,none⟩) (by simpa using f),World.frozen?_setCell]
  exact j o
structure SizeH (w W:aj) (F:aA):Prop where
 bel:ay w.heap.size w W
 lt1:w.heap.size+1<W.heap.size
 lt2:w.heap.size+1+1<W.heap.size
 left:LeftN W W (w.heap.size+1) 2001
 fn:W.cell? ⟨w.heap.size+1+1,0,none⟩=some F
theorem yO (w:aj) (o:Obj) (a d:bJ) (F:aA):SizeH w (((w.alloc o).alloc (.cells #[ab ae 2001] a)).alloc (.cells #[F] d)) F where
 bel:=(((ak _ _).alloc (ag _) _).alloc (by simp) _).alloc (by simp;omega) _
 lt1:=by simp
 lt2:=by simp
 left:=by
  have b:=aq (w.alloc o) #[ab ae 2001] a 0
  have c:(w.alloc o).heap.size=w.heap.size+1:=by simp
  rw [c] at b
  have e:=(ak ((w.alloc o).alloc (.cells #[ab ae 2001] a)).heap.size ((w.alloc o).alloc (.cells #[ab ae 2001] a))).alloc (ag _) (.cells #[F] d)
  refine ⟨Hb.Only.refl _ _,(e.cell (p:=⟨w.heap.size+1,0,none⟩) (by simp)).trans b,fun k=>?_⟩
  rw [e.frozen (p:=⟨w.heap.size+1,k,none⟩) (by simp)]
  exact World.frozen?_alloc_at (w:=w.alloc o) #[ab ae 2001] a (w.heap.size+1) k c.symm
 fn:=by
  have b:=aq ((w.alloc o).alloc (.cells #[ab ae 2001] a)) #[F] d 0
  have c:((w.alloc o).alloc (.cells #[ab ae 2001] a)).heap.size=w.heap.size+1+1:=by simp
  rw [c] at b
  exact b
end Hb
namespace Go.Proofs.YtgapnafkelokaaaGreatDoor
open Go.RowKit Hb
def wj (a b:Nat):aA:=.func (.func 77) #[] #[ax (some ⟨a,0,none⟩),ax (some ⟨b,0,none⟩)]
theorem BM:∀(t:Tm) (A:Option Addr) (m B a c L:Nat) (w:aj),TmsAt B w A t.args->B<=a->B<=c->a≠c->a<w.heap.size->c<w.heap.size->1<=L->L<=2001->LeftN w w a L->w.cell? ⟨c,0,none⟩=some (wj a c) ->
  aG ah 77 #[dR t A m,ax (some ⟨a,0,none⟩),ax (some ⟨c,0,none⟩)] w fun e w'=>e=av (aF #[])/\LeftN w w' a (L-t.nodes):=by
 refine Tm.ind fun t S=>?_
 intro A m B a c L w z J a6 P N a9 h1 h2 y K
 have O:=z.len
 unfold bc at O
 have Y:=aZ z
 have E:=aZ (wJ t)
 have W:=aZ S
 have j:=y.cell
 have s:=y.fr
 have a5:=s 0
 have b0:(L:Int)-1=((L-1:Nat):Int):=by omega
 obtain ⟨f,g⟩:∃f,Hid (f=t.args.length):=⟨_,aZ rfl⟩
 clear z S
 unfold dR
 rw [<-g.out] at O |-
 have G:=aZ (WalkH.start w t A m a (L-1) f 24 g.out N j s)
 have V:=aZ K
 go_enter Tryz.func77,Tryz.ntmps77
 go_wp2_with fail
 clear y K j s a5 b0
 go_loopw [4] (fun i wr=>∃k M:Nat,k<=f/\i=ab ae k/\M=L-(1+pK t.args k)/\Hid (WalkH w wr t A m a M)) (fun i _=>f-(intOf i).toNat)
 case atStart=>exact ⟨0,L-1,bj _,rfl,by rw [tS],G⟩
 case round=>
  clear G
  obtain ⟨k,M,hk,rfl,o,d⟩:=hrel
  have H:=d.out.b3
  rw [<-g.out] at H
  have j:=d.out.cell
  by_cases b5:k<f
  ·by_cases b1:0<M
   ·have C:k<t.args.length:=by have:=g.out;omega
    have a7:ay B w wr:=d.out.only.below J (by omega)
    obtain ⟨b,b7,T,a4,rfl,hb,Z,c1,c2,c3,Q⟩:=(Y.out.keep a7).get k C
    have u:wr.cell? ⟨c,0,none⟩=some (wj a c):=(d.out.only.cell (p:=⟨c,0,none⟩) a9 (fun h=>P h.symm)).trans V.out
    have b6:=d.out.only.size
    have F:=aZ (W.out t.args[k] (aQ C) T a4 B a c M wr.drew (Q.keep (ak B wr).drew) J a6 P (by show a<wr.heap.size;omega) (by show c<wr.heap.size;omega) b1 (by omega) ⟨Hb.Only.refl _ _,j,d.out.fr⟩ u)
    have R:=pJ t.args k C
    have X:Hid (M-t.args[k].nodes=L-(1+pK t.args (k+1))):=aZ (by rw [R];omega)
    unfold dR at F
    unfold wj at u
    clear Q R o
    have b2:(0:Int)<=(k:Int):=by omega
    have b4:(k:Int)<(f:Int):=by omega
    generalize t.args[k].kind=a0 at *
    generalize t.args[k].num=a1 at *
    generalize t.args[k].name=a2 at *
    generalize t.args[k].args.length=a3 at *
    generalize t.args[k].nodes=q at *
    go_wp2_with fail
    go_region_with (first | (go_at_call 77;(with_reducible refine F.out.mono ?_);rintro e w2 ⟨rfl,n⟩))
    all_goals
     have U:=aZ (d.out.call N (⟨(Hb.Only.of (ak wr.heap.size wr).drew).trans n.only,n.cell,n.fr⟩:LeftN wr w2 a (M-q)))
     clear H j Z c1 c2 c3 u n
     go_wp2_with fail
     go_roundw
     case rel=>exact ⟨k+1,M-q,by omega,by go_num,X.out,U⟩
     case measure=>simp [intOf] <;> omega
   ·have a8:M=0:=by omega
    subst a8
    have I:=Ap t.args (t.args.length-k) k
    have x:=g.out
    rw [show k+(t.args.length-k)=t.args.length by omega] at I
    have l:L-t.nodes=0:=by rw [E.out];omega
    have r:=aZ l
    have D:=d.out.left
    clear l I x o
    go_wp2_with fail
    refine bodyPost_end (v:=aF #[]) (by simp [results,Tryz.results77,go_sem]) rfl ⟨rfl,by rw [r.out];exact D⟩
  ·have l:M=L-t.nodes:=by
    have x:=g.out
    rw [E.out,<-x,o,show k=f by omega]
   have r:=aZ l
   have D:=d.out.left
   clear l o
   go_wp2_with fail
   refine bodyPost_end (v:=aF #[]) (by simp [results,Tryz.results77,go_sem]) rfl ⟨rfl,by rw [<-r.out];exact D⟩
theorem BO (t:Tm) (A:Option Addr) (b:Nat) (w:aj) (h:TmsAt w.heap.size w A t.args):aG ah 53 #[dR t A b] w fun e w'=>e=av (ab ae (min t.nodes 2001:Nat))/\ay w.heap.size w w':=by
 have a:=aZ (fun (o:Obj)=>yO w o 3 129 (wj (w.heap.size+1) (w.heap.size+1+1)))
 have k:=aZ (fun (o:Obj)=>BM t A b w.heap.size (w.heap.size+1) (w.heap.size+1+1) 2001 _ (h.keep (a.out o).bel) (by omega) (by omega) (by omega) (a.out o).lt1 (a.out o).lt2 (by decide) (by decide) (a.out o).left (a.out o).fn)
 clear h
 have i:(2001:Int)-((2001-t.nodes:Nat):Int)=((min t.nodes 2001:Nat):Int):=by omega
 have j:=aZ i
 clear i
 unfold dR wj at *
 generalize t.kind=a0 at *
 generalize t.num=c at *
 generalize t.name=d at *
 generalize t.args.length=f at *
 go_enter Tryz.func53,Tryz.ntmps53
 go_wp2_with fail
 refine (k.out _).mono ?_;rintro e q ⟨rfl,g⟩
 have m:=g.cell
 have l:=(a.out (.cells #[ab ae a0,ab ae c,aa d,.slice A f b] 24)).bel.trans (g.only.below (by omega) (a.out (.cells #[ab ae a0,ab ae c,aa d,.slice A f b] 24)).bel.size)
 have n:(0:Int)<=((2001-t.nodes:Nat):Int):=by omega
 have p:((2001-t.nodes:Nat):Int)<=2001:=by omega
 go_wp2_with fail
 go_ret
 exact ⟨cT (by rw [<-j.out]),l⟩
end Go.Proofs.YtgapnafkelokaaaGreatDoor
namespace Hb
open Go Go.RowKit
def tB (t:Tm) (k:Nat):Bool:=dH t&&(t.args.take k).all Tm.allOk
theorem Cm (t:Tm):tB t 0=dH t:=by unfold tB;simp
theorem Cn (t:Tm) (k:Nat) (h:k<t.args.length):tB t (k+1)=(tB t k&&t.args[k].allOk):=by
 unfold tB;rw [aK h,List.all_append,Bool.and_assoc];simp
theorem EL (t:Tm) (k:Nat) (h:t.args.length<=k):tB t k=t.allOk:=by
 rw [Tm.allOk_eq];unfold tB;rw [bg h]
theorem He (t:Tm) (k:Nat) (h:tB t k=false):t.allOk=false:=by
 rw [Tm.allOk_eq]
 unfold tB at h
 cases h1:dH t
 ·rfl
 ·rw [h1,di] at h
  rw [di,List.all_eq_false] at *
  obtain ⟨x,a,b⟩:=h
  exact ⟨x,List.mem_of_mem_take a,b⟩
end Hb
namespace Go.Proofs.YtgapnafkelokaaaGreatDoor
open Go.RowKit Hb
theorem Fm:∀(t:Tm) (A:Option Addr) (c:Nat) (w:aj),TmsAt w.heap.size w A t.args ->
  aG ah 54 #[dR t A c] w fun e w'=>e=av (an t.allOk)/\ay w.heap.size w w':=by
 refine Tm.ind fun t u=>?_
 intro A c w l
 have o:=aZ (TBoxT.start w t A c 24)
 have z:=aZ l
 have r:=l.len
 unfold bc at r
 have y:=aZ u
 have x:=aZ (Cm t)
 clear l u
 obtain ⟨L,d⟩:∃L,Hid (L=t.args.length):=⟨_,aZ rfl⟩
 unfold dR at *
 rw [<-d.out] at r |- o
 go_enter Tryz.func54,Tryz.ntmps54
 go_upto_block 0 with fail
 go_cut [0,3] from 4 (fun p q wc=>p=.agg #[ab ae t.kind,ab ae t.num,aa t.name,.slice A L c]/\q=an (dH t)/\wc=w.alloc (.cells #[ab ae t.kind,ab ae t.num,aa t.name,.slice A L c] 24))
 case first=>
  go_wp2_with fail
  all_goals
   go_meet
   case rel=>
    refine ⟨?_,?_,?_⟩
    ·first | rfl | simp only [*]
    ·unfold dH
     rw [<-d.out]
     congr 1
     grind
    ·first | rfl | simp only [*]
 case rest=>
  obtain ⟨rfl,rfl,rfl⟩:=hcut
  go_wp2_with fail
  go_loopw [3,4] (fun b i wr=>∃k:Nat,∃q:Bool,k<=L/\b=an q/\i=ab ae k/\Hid (TBoxT w wr t A c)/\Hid (q=tB t k)) (fun b i _=>L-(intOf i).toNat)
  case atStart=>exact ⟨0,_,bj _,rfl,rfl,o,aZ x.out.symm⟩
  case round=>
   obtain ⟨k,q,P,rfl,rfl,a,j⟩:=hrel
   have B:=a.out.c3
   rw [<-d.out] at B
   cases q
   ·have f:=aZ (He t k j.out.symm)
    have m:=a.out.bel
    by_cases F:k<L
    all_goals
     go_wp2_with fail
     go_ret
     exact ⟨bC f.out.symm,m⟩
   ·by_cases F:k<L
    ·have n:k<t.args.length:=by have:=d.out;omega
     obtain ⟨b,Q,v,C,rfl,O,J,K,M,N,s⟩:=(z.out.keep a.out.bel).get k n
     have E:=aZ (y.out t.args[k] (aQ n) v C wr (s.mono a.out.bel.size))
     have g:=aZ (Cn t k n)
     rw [<-j.out,di] at g
     clear s
     generalize t.args[k].kind=a0 at *
     generalize t.args[k].num=G at *
     generalize t.args[k].name=H at *
     generalize t.args[k].args.length=I at *
     generalize t.args[k].allOk=q at *
     go_wp2_with fail
     refine E.out.mono ?_;rintro e R ⟨rfl,D⟩
     have h:=aZ (a.out.call D)
     go_wp2_with fail
     go_roundw
     case rel=>first | exact ⟨k+1,by omega,q,rfl,by go_num,h,aZ g.out.symm⟩ | exact ⟨k+1,q,by omega,rfl,by go_num,h,aZ g.out.symm⟩ | exact ⟨k+1,by omega,by go_num,h,aZ g.out.symm⟩ 
     case measure=>simp [intOf] <;> omega
    ·have f:=aZ (EL t k (by have:=d.out;omega))
     rw [<-j.out] at f
     have m:=a.out.bel
     go_wp2_with fail
     go_ret
     exact ⟨bC f.out,m⟩
theorem nw (t:Tm) (A:Option Addr) (a:Nat) (w:aj) (i:TmsAt w.heap.size w A t.args):aG ah 30 #[dR t A a] w fun e w'=>e=av (an (bu t))/\ay w.heap.size w w':=by
 have l:=aZ (TBoxT.start w t A a 24)
 have f:=aZ (fun (c:aj) (h:TBoxT w c t A a)=>(BO t A a c ((i.keep h.bel).mono h.bel.size)).mono fun _ _ d=>(⟨d.1,h.call d.2⟩:_/\TBoxT w _ t A a))
 have n:=aZ (fun (c:aj) (h:TBoxT w c t A a)=>(Fm t A a c ((i.keep h.bel).mono h.bel.size)).mono fun _ _ d=>(⟨d.1,h.call d.2⟩:_/\TBoxT w _ t A a))
 unfold dR at *
 clear i
 by_cases m:t.nodes<=2000
 ·have g:Hid (bu t=t.allOk):=aZ (by unfold bu;simp [m])
  have k:min t.nodes 2001=t.nodes:=by omega
  rw [k] at f
  have p:decide ((t.nodes:Int)<=2000)=true:=by simp;omega
  go_enter Tryz.func30,Tryz.ntmps30
  go_wp2_with fail
  refine (f.out _ l.out).mono ?_;rintro e c ⟨rfl,b⟩
  have q:=b.c0
  have r:=b.c1
  have s:=b.c2
  have u:=b.c3
  go_wp2_with fail
  refine (n.out _ b).mono ?_;rintro e v ⟨rfl,o⟩
  have j:=o.bel
  go_wp2_with fail
  go_ret
  exact ⟨bC g.out.symm,j⟩
 ·have g:Hid (bu t=false):=aZ (by unfold bu;simp [m])
  have k:min t.nodes 2001=2001:=by omega
  rw [k] at f
  go_enter Tryz.func30,Tryz.ntmps30
  go_wp2_with fail
  refine (f.out _ l.out).mono ?_;rintro e c ⟨rfl,b⟩
  have j:=b.bel
  go_wp2_with fail
  go_ret
  exact ⟨bC g.out.symm,j⟩
end Go.Proofs.YtgapnafkelokaaaGreatDoor
namespace Hb
open Go Go.RowKit
theorem wI (s:ByteArray):∀(d i:Nat) (r:List UInt8),s.size-i=d->eX s i r=r.reverse++s.data.toList.drop i
 | 0,i,r,h=>by
  unfold eX
  rw [if_neg (by omega),List.drop_of_length_le (by simp;omega)];simp
 | d+1,i,r,h=>by
  have a:i<s.size:=by omega
  have b:i<s.data.toList.length:=by simpa using a
  unfold eX
  rw [if_pos a,wI s d (i+1) _ (by omega),List.drop_eq_getElem_cons b]
  simp [ByteArray.get!,a]
  first | rfl | (have:s.data[i]! = s.data[i]:=getElem!_pos s.data i a;simp [this]) | skip
theorem DH (s:ByteArray):s.toList=s.data.toList:=by
 unfold ByteArray.toList
 rw [wI s _ 0 [] rfl];simp
structure OpR where
 name:ByteArray
 typ:Int
 prec:Int
deriving Inhabited,DecidableEq
def nH (o:OpR):List aA:=[aa o.name,ab ae o.typ,ab ae o.prec]
def kU (o:OpR):aA:=.agg #[aa o.name,ab ae o.typ,ab ae o.prec]
def cO (t:Int):Int:=if t<1 then 0 else if t<=3 then 2 else if t<=5 then 1 else if t<=7 then 3 else 0
def CM (a b:ByteArray):Int:=if Op.bytesLess a.toList b.toList=true then -1 else if (!a.toList==b.toList)=true then 1 else 0
def Ab (a b:Int):Int:=if a<b then -1 else if b<a then 1 else 0
def JZ (a b:Int):Int:=if a=0 then b else a
def ke (a b:OpR):Int:=JZ (CM a.name b.name) (Ab (cO a.typ) (cO b.typ))
def Kc (o:OpR) (l:List UInt8):Bool:=o.name.toList==l
def oj (o:OpR):Bool :=
 if decide (100<(o.name.size:Int))||(cO o.typ==0||(decide (o.prec<1)||decide (1200<o.prec))) then false
 else if Kc o [91,93]||Kc o [123,125] then false
 else if Kc o [44] then o.typ==2&&o.prec==1000
 else if Kc o [124] then cO o.typ==2&&decide (1001<=o.prec)
 else true
def qU (a b:OpR):Bool:=decide (ke a b<0) && !(a.name.toList==b.name.toList&&cO a.typ==2)
def Co (l:List OpR) (j:Nat):Bool:=oj (l.getD j default)&&(j==0||qU (l.getD (j-1) default) (l.getD j default))
def bF (l:List OpR):Bool:=decide (l.length<=100)&&(List.range l.length).all (Co l)
theorem xz (l:List OpR) (k:Nat) (a:k<l.length) (h:Co l k=false):bF l=false:=by
 unfold bF
 rw [fW]
 refine .inr ?_
 rw [List.all_eq_false]
 exact ⟨k,dB.2 a,by simp [h]⟩
theorem jV (l:List OpR) (h:100<l.length):bF l=false:=by
 unfold bF
 rw [fW]
 exact .inl (by simpa using h)
theorem vA (l:List OpR) (b:l.length<=100) (h:∀j,j<l.length->Co l j=true):bF l=true:=by
 unfold bF
 rw [aE,bh]
 exact ⟨by simpa using b,fun j a=>h j (dB.1 a)⟩
theorem mR (l:List OpR) (h:bF l=true):l.length<=100/\∀j,j<l.length->Co l j=true:=by
 unfold bF at h
 rw [aE,bh] at h
 exact ⟨by simpa using h.1,fun j a=>h.2 j (dB.2 a)⟩
theorem mn (l:List OpR) (j:Nat) (h:j<l.length):l.getD j default=l[j]:=by rw [List.getD_eq_getElem?_getD,aT h];rfl
def fp (a b:OpR):Bool:=if (a.name.toList==b.name.toList)=true then decide (cO a.typ<cO b.typ) else Op.bytesLess a.name.toList b.name.toList
theorem FE (a b:Int):Ab a b<0↔a<b:=by unfold Ab;grind
theorem ql:∀(l:List UInt8),Op.bytesLess l l=false:=by
 intro l
 rw [Go.Proofs.bytesLess_eq]
 simp
theorem lT (a b:OpR):fp a b=decide (ke a b<0):=by
 unfold fp ke JZ CM
 by_cases h:a.name.toList=b.name.toList
 ·rw [h,ql]
  simp [FE]
 ·have c:(a.name.toList==b.name.toList)=false:=by simpa using h
  rw [c]
  cases h3:Op.bytesLess a.name.toList b.name.toList <;> simp
theorem EK (a b:OpR):qU a b=(fp a b && !(a.name.toList==b.name.toList&&(cO a.typ==2&&cO b.typ==3))):=by
 rw [lT]
 unfold qU
 cases h:decide (ke a b<0)
 ·rfl
 ·rw [<-lT] at h
  unfold fp at h
  cases h2:(a.name.toList==b.name.toList)
  ·rfl
  ·rw [h2,if_pos rfl] at h
   have c:cO a.typ<cO b.typ:=by simpa using h
   have d:cO b.typ<=3:=by unfold cO;grind
   cases h5:(cO a.typ==2)
   ·rfl
   ·have:cO a.typ=2:=by simpa using h5
    have:cO b.typ=3:=by omega
    simp [this]
end Hb
namespace Hb
theorem JN (t:Int):(t<1/\cO t=0)\/(8<=t/\cO t=0)\/(t=1/\cO t=2)\/(t=2/\cO t=2)\/(t=3/\cO t=2)\/(t=4/\cO t=1)\/(t=5/\cO t=1)\/(t=6/\cO t=3)\/(t=7/\cO t=3):=by
 unfold cO
 grind
end Hb
namespace Go.Proofs.YtgapnafkelokaaaGreatDoor
open Go.RowKit Hb
theorem AQ (a:ByteArray) (w:aj):aG ah 115 #[aa a] w fun e w'=>e=av (an false)/\w'=w:=by
 go_enter Tryz.func115,Tryz.ntmps115
 go_wp2_with fail
 go_ret
 exact ⟨rfl,rfl⟩
theorem AR (a:Int) (w:aj):aG ah 116 #[ab ae a] w fun e w'=>e=av (an false)/\w'=w:=by
 go_enter Tryz.func116,Tryz.ntmps116
 go_wp2_with fail
 go_ret
 exact ⟨rfl,rfl⟩
theorem If (a b:ByteArray) (w:aj):aG ah 79 #[aa a,aa b] w fun e w'=>e=av (ab ae (CM a b))/\w'=w:=by
 go_enter Tryz.func79,Tryz.ntmps79
 go_wp2_with (first | (go_at_call 115;first | ((with_reducible refine (AQ a _).mono ?_);rintro e c ⟨rfl,rfl⟩) | ((with_reducible refine (AQ b _).mono ?_);rintro e c ⟨rfl,rfl⟩)))
 all_goals go_ret
 all_goals refine ⟨cT ?_,rfl⟩
 all_goals unfold CM
 all_goals simp_all
theorem Ig (a b:Int) (w:aj):aG ah 80 #[ab ae a,ab ae b] w fun e w'=>e=av (ab ae (Ab a b))/\w'=w:=by
 go_enter Tryz.func80,Tryz.ntmps80
 go_wp2_with (first | (go_at_call 116;first | ((with_reducible refine (AR a _).mono ?_);rintro e c ⟨rfl,rfl⟩) | ((with_reducible refine (AR b _).mono ?_);rintro e c ⟨rfl,rfl⟩)))
 all_goals go_ret
 all_goals refine ⟨cT ?_,rfl⟩
 all_goals unfold Ab
 all_goals grind
theorem mS (t:Int) (w:aj):aG ah 57 #[ab ae t] w fun e w'=>e=av (ab ae (cO t))/\ay w.heap.size w w'/\w.drawn<=w'.drawn:=by
 rcases JN t with ⟨h,e⟩ | ⟨h,e⟩ | ⟨rfl,e⟩ | ⟨rfl,e⟩ | ⟨rfl,e⟩ | ⟨rfl,e⟩ | ⟨rfl,e⟩ | ⟨rfl,e⟩ | ⟨rfl,e⟩
 all_goals rw [e]
 all_goals clear e
 all_goals go_enter Tryz.func57,Tryz.ntmps57
 all_goals go_wp2_with fail
 all_goals go_ret
 all_goals exact ⟨rfl,(ak _ _).alloc (ag _) _,ag _⟩
theorem xE (t:Int) (w:aj):aG ah 57 #[ab ae t] w fun e w'=>e=av (ab ae (cO t))/\ay w.heap.size w w' :=
 (mS t w).mono fun _ _ ⟨he,hb,_⟩=>⟨he,hb⟩
theorem JK (a b:Int) (w:aj) (W:aj) (e:bJ) (f:W=w.alloc (.cells #[ab ae a,ab ae b] e)):aG ah 78 #[.slice (some ⟨w.heap.size,0,none⟩) 2 2] W fun e w'=>e=av (ab ae (JZ a b))/\w'=W:=by
 have i:W.cell? ⟨w.heap.size,0,none⟩=some (ab ae a):=by rw [f];exact aq _ _ _ 0
 have j:W.cell? ⟨w.heap.size,1,none⟩=some (ab ae b):=by rw [f];exact aq _ _ _ 1
 clear f
 by_cases c:a=0
 ·subst c
  by_cases g:b=0
  ·subst g
   go_enter Tryz.func78,Tryz.ntmps78
   go_wp2_with fail
   refine wp_loop_rounds 3 ?_
   iterate 3
    rw [gU]
    go_wp2_with fail
   go_ret
   exact ⟨cT rfl,rfl⟩
  ·have h:(b==0)=false:=by simpa using g
   have d:JZ 0 b=b:=rfl
   go_enter Tryz.func78,Tryz.ntmps78
   go_wp2_with fail
   refine wp_loop_rounds 2 ?_
   iterate 2
    rw [gU]
    go_wp2_with fail
   go_ret
   exact ⟨cT d.symm,rfl⟩
 ·have h:(a==0)=false:=by simpa using c
  have d:JZ a b=a:=if_neg c
  go_enter Tryz.func78,Tryz.ntmps78
  go_wp2_with fail
  refine wp_loop_rounds 1 ?_
  rw [gU]
  go_wp2_with fail
  go_ret
  exact ⟨cT d.symm,rfl⟩
end Go.Proofs.YtgapnafkelokaaaGreatDoor
namespace Hb
open Go Go.RowKit
structure CmpHeld (w0 w:aj) (a b:OpR):Prop where
 bel:ay w0.heap.size w0 w
 lt:w0.heap.size+1<w.heap.size
 dr:w0.drawn<=w.drawn
 a0:w.cell? ⟨w0.heap.size,0,none⟩=some (aa a.name)
 a1:w.cell? ⟨w0.heap.size,1,none⟩=some (ab ae a.typ)
 b0:w.cell? ⟨w0.heap.size+1,0,none⟩=some (aa b.name)
 b1:w.cell? ⟨w0.heap.size+1,1,none⟩=some (ab ae b.typ)
section
variable {w0 w w':aj} {a b:OpR}
theorem CmpHeld.keep (h:CmpHeld w0 w a b):w.cell? ⟨w0.heap.size,0,none⟩=some (aa a.name)/\w.cell? ⟨w0.heap.size,1,none⟩=some (ab ae a.typ)/\w.cell? ⟨w0.heap.size+1,0,none⟩=some (aa b.name)/\w.cell? ⟨w0.heap.size+1,1,none⟩=some (ab ae b.typ)/\CmpHeld w0 w a b:=⟨h.a0,h.a1,h.b0,h.b1,h⟩
theorem CmpHeld.of (h:w.cell? ⟨w0.heap.size,0,none⟩=some (aa a.name)/\w.cell? ⟨w0.heap.size,1,none⟩=some (ab ae a.typ)/\w.cell? ⟨w0.heap.size+1,0,none⟩=some (aa b.name)/\w.cell? ⟨w0.heap.size+1,1,none⟩=some (ab ae b.typ)/\CmpHeld w0 w a b):CmpHeld w0 w a b:=h.2.2.2.2
theorem CmpHeld.call (c:ay w.heap.size w w') (d:w.drawn<=w'.drawn) (h:CmpHeld w0 w a b):CmpHeld w0 w' a b where
 bel:=h.bel.trans (c.mono (by have:=h.lt;omega))
 lt:=aB h.lt c.size
 dr:=aH h.dr d
 a0:=(c.cell (p:=⟨_,_,none⟩) (by have:=h.lt;show w0.heap.size<_;omega)).trans h.a0
 a1:=(c.cell (p:=⟨_,_,none⟩) (by have:=h.lt;show w0.heap.size<_;omega)).trans h.a1
 b0:=(c.cell (p:=⟨_,_,none⟩) h.lt).trans h.b0
 b1:=(c.cell (p:=⟨_,_,none⟩) h.lt).trans h.b1
theorem CmpHeld.drew (h:CmpHeld w0 w a b):CmpHeld w0 w.drew a b:=h.call (ak w.heap.size w).drew (Nat.le_succ _)
theorem CmpHeld.alloc (h:CmpHeld w0 w a b) (o:Obj):CmpHeld w0 (w.alloc o) a b:=h.call ((ak w.heap.size w).alloc (ag _) o) (ag _)
theorem CmpHeld.start (w:aj) (a b:OpR) (e:bJ):CmpHeld w ((w.alloc (.cells #[aa a.name,ab ae a.typ,ab ae a.prec] e)).alloc (.cells #[aa b.name,ab ae b.typ,ab ae b.prec] e)) a b where
 bel:=((ak _ _).alloc (ag _) _).alloc (by simp) _
 lt:=by simp
 dr:=ag _
 a0:=(dX _ _ none).cell (aq _ _ _ 0) (by simp)
 a1:=(dX _ _ none).cell (aq _ _ _ 1) (by simp)
 b0:=by
  rw [show w.heap.size+1=(w.alloc (.cells #[aa a.name,ab ae a.typ,ab ae a.prec] e)).heap.size by simp]
  exact aq _ _ _ 0
 b1:=by
  rw [show w.heap.size+1=(w.alloc (.cells #[aa a.name,ab ae a.typ,ab ae a.prec] e)).heap.size by simp]
  exact aq _ _ _ 1
end
end Hb
namespace Go.Proofs.YtgapnafkelokaaaGreatDoor
open Go.RowKit Hb
theorem tA (a b:OpR) (w:aj):aG ah 56 #[kU a,kU b] w fun e w'=>e=av (ab ae (ke a b))/\ay w.heap.size w w'/\w.drawn<=w'.drawn:=by
 unfold kU
 have f:=aZ (show ke a b=JZ (CM a.name b.name) (Ab (cO a.typ) (cO b.typ)) from rfl)
 have d:=CmpHeld.start w a b 80
 go_enter Tryz.func56,Tryz.ntmps56
 go_wp2_with fail
 go_region_held3 (fun w'=>w'.cell? ⟨w.heap.size,0,none⟩=some (aa a.name)/\w'.cell? ⟨w.heap.size,1,none⟩=some (ab ae a.typ)/\w'.cell? ⟨w.heap.size+1,0,none⟩=some (aa b.name)/\w'.cell? ⟨w.heap.size+1,1,none⟩=some (ab ae b.typ)/\CmpHeld w w' a b)
  (first | with_reducible exact d.drew.keep | with_reducible exact CmpHeld.keep (CmpHeld.of (by with_reducible assumption)) | with_reducible exact CmpHeld.keep (CmpHeld.call (by with_reducible assumption) (by with_reducible assumption) (CmpHeld.of (by with_reducible assumption))) | with_reducible exact CmpHeld.keep (CmpHeld.alloc (CmpHeld.of (by with_reducible assumption)) _))
  (first
   | (go_at_call 79;(with_reducible refine (If a.name b.name _).mono ?_);rintro e c ⟨rfl,rfl⟩)
   | (go_at_call 57;first | ((with_reducible refine (mS a.typ _).mono ?_);rintro e c ⟨rfl,g,h⟩) | ((with_reducible refine (mS b.typ _).mono ?_);rintro e c ⟨rfl,g,h⟩))
   | (go_at_call 80;(with_reducible refine (Ig (cO a.typ) (cO b.typ) _).mono ?_);rintro e c ⟨rfl,rfl⟩)
   | (go_at_call 78;(with_reducible refine (JK (CM a.name b.name) (Ab (cO a.typ) (cO b.typ)) _ _ _ rfl).mono ?_);rintro e c ⟨rfl,rfl⟩))
 all_goals go_wp2_with fail
 all_goals go_ret
 all_goals exact ⟨cT f.out.symm,CmpHeld.bel (CmpHeld.of (by with_reducible assumption)),CmpHeld.dr (CmpHeld.of (by with_reducible assumption))⟩
theorem zr (a b:OpR) (w:aj):aG ah 56 #[kU a,kU b] w fun e w'=>e=av (ab ae (ke a b))/\ay w.heap.size w w' :=
 (tA a b w).mono fun _ _ ⟨he,hb,_⟩=>⟨he,hb⟩
end Go.Proofs.YtgapnafkelokaaaGreatDoor
namespace Hb
open Go Go.RowKit
structure BoxAt (w0 w:aj) (o:OpR):Prop where
 bel:ay w0.heap.size w0 w
 lt:w0.heap.size<w.heap.size
 c0:w.cell? ⟨w0.heap.size,0,none⟩=some (aa o.name)
 c1:w.cell? ⟨w0.heap.size,1,none⟩=some (ab ae o.typ)
 c2:w.cell? ⟨w0.heap.size,2,none⟩=some (ab ae o.prec)
theorem BoxAt.call {w0 w w':aj} {o:OpR} (h:BoxAt w0 w o) (a:ay w.heap.size w w'):BoxAt w0 w' o where
 bel:=h.bel.trans (a.mono (fG h.lt))
 lt:=aB h.lt a.size
 c0:=(a.cell (p:=⟨_,_,none⟩) h.lt).trans h.c0
 c1:=(a.cell (p:=⟨_,_,none⟩) h.lt).trans h.c1
 c2:=(a.cell (p:=⟨_,_,none⟩) h.lt).trans h.c2
theorem BoxAt.start (w:aj) (o:OpR) (e:bJ):BoxAt w (w.alloc (.cells #[aa o.name,ab ae o.typ,ab ae o.prec] e)) o where
 bel:=(ak _ _).alloc (ag _) _
 lt:=by simp
 c0:=aq _ _ _ 0
 c1:=aq _ _ _ 1
 c2:=aq _ _ _ 2
end Hb
namespace Go.Proofs.YtgapnafkelokaaaGreatDoor
open Go.RowKit Hb
theorem mc {w0 w:aj} {o:OpR} (h:BoxAt w0 w o) (t:Int):aG ah 57 #[ab ae t] w fun e w'=>e=av (ab ae (cO t))/\BoxAt w0 w' o :=
 (xE t w).mono fun _ _ ⟨he,hb⟩=>⟨he,h.call hb⟩
theorem xB (o:OpR) (w:aj):aG ah 55 #[kU o] w fun e w'=>e=av (an (oj o))/\ay w.heap.size w w':=by
 have g:=BoxAt.start w o 80
 have b:=aZ (show oj o=_ from rfl)
 unfold kU
 go_enter Tryz.func55,Tryz.ntmps55
 go_wp2_with (first | (go_at_call 57;(with_reducible refine (mc (by with_reducible assumption) o.typ).mono ?_);rintro e h ⟨rfl,a⟩;have c:=a.c0;have d:=a.c1;have f:=a.c2))
 all_goals go_ret
 all_goals refine ⟨bC ?_,BoxAt.bel (o:=o) (by with_reducible assumption)⟩
 all_goals unfold oj Kc
 all_goals grind
theorem rP (t:Int) (w:aj):aG ah 43 #[ab ae t] w fun e w'=>e=av (ab ae (cO t))/\w'=w:=by
 go_enter Tryz.func43,Tryz.ntmps43
 go_wp2_with fail
 all_goals go_ret
 all_goals refine ⟨cT ?_,rfl⟩
 all_goals unfold cO
 all_goals grind
end Go.Proofs.YtgapnafkelokaaaGreatDoor
namespace Hb
open Go Go.RowKit
def OpsAt (w:aj) (A:Option Addr) (l:List OpR):Prop :=
 ∀j (h:j<l.length),∃b off,A=some ⟨b,off,none⟩/\b<w.heap.size/\w.cell? ⟨b,off+j * 3,none⟩=some (aa l[j].name)/\w.cell? ⟨b,off+j * 3+1,none⟩=some (ab ae l[j].typ)/\w.cell? ⟨b,off+j * 3+2,none⟩=some (ab ae l[j].prec)
theorem OpsAt.nil (w:aj) (A:Option Addr):OpsAt w A []:=fun _ h=>absurd h (by simp)
theorem OpsAt.below {w w':aj} {A:Option Addr} {l:List OpR} (h:OpsAt w A l) (a:ay w.heap.size w w'):OpsAt w' A l:=fun j i=>by
 obtain ⟨b,k,e,c,d,f,g⟩:=h j i
 exact ⟨b,k,e,aB c a.size,(a.cell (p:=⟨b,_,none⟩) c).trans d,(a.cell (p:=⟨b,_,none⟩) c).trans f,(a.cell (p:=⟨b,_,none⟩) c).trans g⟩
end Hb
namespace Hb
theorem KG (l:List OpR) (k:Nat) (a:k<l.length) (h:oj l[k]=false):Co l k=false:=by unfold Co;rw [mn l k a,h];rfl
theorem KH (l:List OpR) (k:Nat) (b:k<l.length) (a:k=0) (h:oj l[k]=true):Co l k=true:=by subst a;unfold Co;rw [mn l 0 b,h];rfl
theorem KF (l:List OpR) (k:Nat) (a:k<l.length) (b:0<k) (h:oj l[k]=true):Co l k=qU (l[k-1]'(by omega)) l[k]:=by
 unfold Co;rw [mn l k a,mn l (k-1) (by omega),h]
 have:(k==0)=false:=by simp;omega
 rw [this];rfl
end Hb
namespace Go.Proofs.YtgapnafkelokaaaGreatDoor
open Go.RowKit Hb
theorem nF (A:Option Addr) (n a0:Nat) (l:List OpR) (w:aj) (P:n=l.length) (hm:n<=400) (Q:OpsAt w A l) :
  aG ah 31 #[.slice A n a0] w fun e w'=>e=av (an (bF l))/\ay w.heap.size w w':=by
 by_cases I:100<n
 ·have b1:decide ((100:Int)<n)=true:=by simp;omega
  have Y:=aZ (jV l (by omega))
  clear P Q I
  go_enter Tryz.func31,Tryz.ntmps31
  go_wp2_with fail
  go_ret
  exact ⟨bC Y.out.symm,ak _ _⟩
 have b1:decide ((100:Int)<n)=false:=by simp;omega
 have a6:n<=100:=by omega
 have G:=aZ P
 have R:=aZ Q
 clear P Q I
 go_enter Tryz.func31,Tryz.ntmps31
 go_wp2_with fail
 go_loopw [11] (fun i wr=>∃k:Nat,k<=n/\i=ab ae k/\ay w.heap.size w wr/\Hid (∀j,j<k->Co l j=true)) (fun i _=>n-(intOf i).toNat)
 case atStart=>exact ⟨0,bj _,rfl,ak _ _,fun j v=>absurd v (by omega)⟩
 case round=>
  obtain ⟨k,hk,rfl,a,z⟩:=hrel
  by_cases a7:k<n
  ·have u:=a.size
   have x:k<l.length:=by have:=G.out;omega
   obtain ⟨b,r,rfl,O,c0,I,c2⟩:=(R.out.below a) k x
   have W:0<k->wr.cell? ⟨b,r+(k-1) * 3,none⟩=some (aa (l[k-1]'(by omega)).name)/\wr.cell? ⟨b,r+(k-1) * 3+1,none⟩=some (ab ae (l[k-1]'(by omega)).typ)/\wr.cell? ⟨b,r+(k-1) * 3+2,none⟩=some (ab ae (l[k-1]'(by omega)).prec):=fun q=>by
    obtain ⟨b',a8,J,_,C,D,E⟩:=(R.out.below a) (k-1) (by omega)
    injection J with J
    injection J with s g _
    subst s g
    exact ⟨C,D,E⟩
   have X:=aZ W
   have J1:=aZ (KG l k x)
   have J0:=aZ (KH l k x)
   have JS:=aZ (KF l k x)
   have H:=aZ (xz l k x)
   generalize l[k]=o at *
   have M:=BoxAt.start wr o 80
   clear W
   cases hok:oj o
   ·have B:=aZ hok
    have c:=aZ (xB o (wr.alloc (.cells #[aa o.name,ab ae o.typ,ab ae o.prec] 80)))
    rw [hok] at c
    clear hok
    unfold kU at c
    go_wp2_with fail
    refine c.out.mono ?_;rintro e y ⟨rfl,t⟩
    go_wp2_with fail
    go_ret
    exact ⟨bC (H.out (J1.out B.out)).symm,a.trans ((M.call t).bel.mono u)⟩
   ·have B:=aZ hok
    have c:=aZ (xB o (wr.alloc (.cells #[aa o.name,ab ae o.typ,ab ae o.prec] 80)))
    rw [hok] at c
    clear hok
    unfold kU at c
    by_cases q:k=0
    ·have b0:((k:Int)==0)=true:=by simp [q]
     have m:=aZ (J0.out q B.out)
     clear q
     go_wp2_with fail
     refine c.out.mono ?_;rintro e y ⟨rfl,t⟩
     go_wp2_with fail
     go_roundw
     case rel=>exact ⟨k+1,by omega,by go_num,a.trans ((M.call t).bel.mono u),fun j v=>by
       rcases dy j k with h | h
       ·exact z.out j h
       ·have:j=k:=by omega
        subst this;exact m.out⟩
     case measure=>simp [intOf] <;> omega
    ·have b0:((k:Int)==0)=false:=by simpa using q
     have T:0<k:=by omega
     have m:=aZ (JS.out T B.out)
     obtain ⟨C,D,E⟩:=X.out T
     generalize l[k-1]'(by omega)=p at *
     clear q
     go_wp2_with fail
     refine c.out.mono ?_;rintro e y ⟨rfl,t⟩
     have d:=M.call t
     have xl:=d.lt
     have x0:=d.c0
     have x1:=d.c1
     have x2:=d.c2
     have a1:=(d.bel.cell (p:=⟨b,r+(k-1) * 3,none⟩) O).trans C
     have a2:=(d.bel.cell (p:=⟨b,r+(k-1) * 3+1,none⟩) O).trans D
     have a3:=(d.bel.cell (p:=⟨b,r+(k-1) * 3+2,none⟩) O).trans E
     clear C D E
     go_wp2_with fail
     refine (zr p o _).mono ?_;rintro e w2 ⟨rfl,L⟩
     have V:=(BoxAt.start y p 80).call L
     have F:=(d.call ((ak y.heap.size y).alloc (ag _) (.cells #[aa p.name,ab ae p.typ,ab ae p.prec] 80))).call L
     have y0:=V.c0
     have y1:=V.c1
     have z0:=F.c0
     have U:=a.trans (F.bel.mono u)
     clear x0 x1 x2 a1 a2 a3 L
     have a5:(decide (0<=ke p o)=true/\Hid (qU p o=false))\/(decide (0<=ke p o)=false/\(p.name.toList==o.name.toList)=false/\Hid (qU p o=true))\/(decide (0<=ke p o)=false/\(p.name.toList==o.name.toList)=true/\(cO p.typ==2)=true/\Hid (qU p o=false))\/(decide (0<=ke p o)=false/\(p.name.toList==o.name.toList)=true/\(cO p.typ==2)=false/\Hid (qU p o=true)):=by
      unfold Hid qU
      grind
     rcases a5 with ⟨s,f⟩ | ⟨s,g,f⟩ | ⟨s,g,K,f⟩ | ⟨s,g,K,f⟩
     ·go_wp2_with fail
      go_ret
      exact ⟨bC (H.out (m.out.trans f.out)).symm,U⟩
     ·have S:¬p.name.toList=o.name.toList:=by simpa using g
      go_wp2_with fail
      go_roundw
      case rel=>exact ⟨k+1,by omega,by go_num,U,fun j v=>by
       rcases dy j k with h | h
       ·exact z.out j h
       ·have:j=k:=by omega
        subst this;exact m.out.trans f.out⟩
      case measure=>simp [intOf] <;> omega
     ·have S:p.name.toList=o.name.toList:=by simpa using g
      have a4:cO p.typ=2:=by simpa using K
      go_wp2_with fail
      refine (mc F p.typ).mono ?_;rintro e w3 ⟨rfl,N⟩
      go_wp2_with fail
      go_ret
      exact ⟨bC (H.out (m.out.trans f.out)).symm,a.trans (N.bel.mono u)⟩
     ·have S:p.name.toList=o.name.toList:=by simpa using g
      have a4:¬cO p.typ=2:=by simpa using K
      go_wp2_with fail
      refine (mc F p.typ).mono ?_;rintro e w3 ⟨rfl,N⟩
      go_wp2_with fail
      go_roundw
      case rel=>exact ⟨k+1,by omega,by go_num,a.trans (N.bel.mono u),fun j v=>by
       rcases dy j k with h | h
       ·exact z.out j h
       ·have:j=k:=by omega
        subst this;exact m.out.trans f.out⟩
      case measure=>simp [intOf] <;> omega
  ·obtain rfl:k=n:=by omega
   have Z:=aZ (vA l (by have:=G.out;omega) (fun j v=>z.out j (by have:=G.out;omega)))
   go_wp2_with fail
   go_ret
   exact ⟨bC Z.out.symm,a⟩
end Go.Proofs.YtgapnafkelokaaaGreatDoor
namespace Hb
open Go Go.RowKit
def vM (p:OpR->Bool) (l:List OpR):Int:=if l.any p=true then (l.findIdx p:Int) else -1
theorem sE (p:OpR->Bool) (l:List OpR) (k:Nat) (a:k<l.length) (h:p l[k]=true) (b:∀j (c:j<k),p (l[j]'(by omega))=false):vM p l=k:=by
 unfold vM
 rw [if_pos (List.any_eq_true.2 ⟨l[k],aQ a,h⟩),(List.findIdx_eq a).2 ⟨h,b⟩]
theorem qd (p:OpR->Bool) (l:List OpR) (b:∀j (a:j<l.length),p l[j]=false):vM p l=-1:=by
 unfold vM
 rw [if_neg]
 rw [Bool.not_eq_true,List.any_eq_false]
 intro x c
 obtain ⟨j,a,rfl⟩:=dO c
 simp [b j a]
theorem Fo (p:OpR->Bool) (l:List OpR) (k:Nat) (c:k<l.length) (h:p l[k]=true) (b:∀j (a:j<k),p (l[j]'(by omega))=false):l.find? p=some l[k]:=by
 rw [List.find?_eq_some_iff_getElem]
 exact ⟨h,k,c,rfl,fun j a=>by simp [b j a]⟩
theorem CF (p:OpR->Bool) (l:List OpR) (b:∀j (a:j<l.length),p l[j]=false):l.find? p=none:=by
 rw [List.find?_eq_none]
 intro x c
 obtain ⟨j,a,rfl⟩:=dO c
 simp [b j a]
def nK (name:ByteArray) (c:Int) (o:OpR):Bool:=o.name.toList==name.toList&&cO o.typ==c
def op0:OpR:=⟨⟨#[]⟩,0,0⟩
def dt (l:List OpR) (name:ByteArray) (c:Int):Option OpR:=if bF l=true then l.find? (nK name c) else none
structure FHeld (w0 w:aj) (o:OpR) (g1 g2:Nat) (name:ByteArray) (c:Int):Prop where
 bel:ay w0.heap.size w0 w
 lt:w0.heap.size<w.heap.size
 a0:w.cell? ⟨w0.heap.size,0,none⟩=some (aa o.name)
 a1:w.cell? ⟨w0.heap.size,1,none⟩=some (ab ae o.typ)
 n0:w.cell? ⟨g1,0,none⟩=some (aa name)
 f0:w.cell? ⟨g2,0,none⟩=some (ab ae c)
 l1:g1<w0.heap.size
 l2:g2<w0.heap.size
section
variable {w0 w w':aj} {o:OpR} {g1 g2:Nat} {name:ByteArray} {c:Int}
theorem FHeld.keep (h:FHeld w0 w o g1 g2 name c):w.cell? ⟨w0.heap.size,0,none⟩=some (aa o.name)/\w.cell? ⟨w0.heap.size,1,none⟩=some (ab ae o.typ)/\w.cell? ⟨g1,0,none⟩=some (aa name)/\w.cell? ⟨g2,0,none⟩=some (ab ae c)/\FHeld w0 w o g1 g2 name c:=⟨h.a0,h.a1,h.n0,h.f0,h⟩
theorem FHeld.of (h:w.cell? ⟨w0.heap.size,0,none⟩=some (aa o.name)/\w.cell? ⟨w0.heap.size,1,none⟩=some (ab ae o.typ)/\w.cell? ⟨g1,0,none⟩=some (aa name)/\w.cell? ⟨g2,0,none⟩=some (ab ae c)/\FHeld w0 w o g1 g2 name c):FHeld w0 w o g1 g2 name c:=h.2.2.2.2
theorem FHeld.call (a:ay w.heap.size w w') (h:FHeld w0 w o g1 g2 name c):FHeld w0 w' o g1 g2 name c where
 bel:=h.bel.trans (a.mono (by have:=h.lt;omega))
 lt:=aB h.lt a.size
 a0:=(a.cell (p:=⟨_,_,none⟩) h.lt).trans h.a0
 a1:=(a.cell (p:=⟨_,_,none⟩) h.lt).trans h.a1
 n0:=(a.cell (p:=⟨_,_,none⟩) (Nat.lt_trans h.l1 h.lt)).trans h.n0
 f0:=(a.cell (p:=⟨_,_,none⟩) (Nat.lt_trans h.l2 h.lt)).trans h.f0
 l1:=h.l1
 l2:=h.l2
theorem FHeld.drew (h:FHeld w0 w o g1 g2 name c):FHeld w0 w.drew o g1 g2 name c:=h.call (ak w.heap.size w).drew
theorem FHeld.start (e:bJ) (n0:w.cell? ⟨g1,0,none⟩=some (aa name)) (f0:w.cell? ⟨g2,0,none⟩=some (ab ae c)) (l1:g1<w.heap.size) (l2:g2<w.heap.size):FHeld w (w.alloc (.cells #[aa o.name,ab ae o.typ,ab ae o.prec] e)) o g1 g2 name c where
 bel:=(ak _ _).alloc (ag _) _
 lt:=by simp
 a0:=aq _ _ _ 0
 a1:=aq _ _ _ 1
 n0:=(dX _ _ none).cell n0 (by simp)
 f0:=(dX _ _ none).cell f0 (by simp)
 l1:=l1
 l2:=l2
end
structure RHeld (w0 w:aj) (name:ByteArray) (c:Int):Prop where
 bel:ay w0.heap.size w0 w
 lt:w0.heap.size+1+1<w.heap.size
 n0:w.cell? ⟨w0.heap.size,0,none⟩=some (aa name)
 f0:w.cell? ⟨w0.heap.size+1,0,none⟩=some (ab ae c)
 r0:∃v,w.cell? ⟨w0.heap.size+1+1,0,none⟩=some v
 r1:∃v,w.cell? ⟨w0.heap.size+1+1,1,none⟩=some v
 r2:∃v,w.cell? ⟨w0.heap.size+1+1,2,none⟩=some v
 fr:∀o,w.frozen? ⟨w0.heap.size+1+1,o,none⟩=false
theorem RHeld.call {w0 w w':aj} {name:ByteArray} {c:Int} (h:RHeld w0 w name c) (a:ay w.heap.size w w'):RHeld w0 w' name c where
 bel:=h.bel.trans (a.mono (by have:=h.lt;omega))
 lt:=aB h.lt a.size
 n0:=(a.cell (p:=⟨_,_,none⟩) (by have:=h.lt;show w0.heap.size<_;omega)).trans h.n0
 f0:=(a.cell (p:=⟨_,_,none⟩) (by have:=h.lt;show w0.heap.size+1<_;omega)).trans h.f0
 r0:=h.r0.imp fun _ b=>(a.cell (p:=⟨_,_,none⟩) h.lt).trans b
 r1:=h.r1.imp fun _ b=>(a.cell (p:=⟨_,_,none⟩) h.lt).trans b
 r2:=h.r2.imp fun _ b=>(a.cell (p:=⟨_,_,none⟩) h.lt).trans b
 fr:=fun o=>(a.frozen (p:=⟨_,o,none⟩) h.lt).trans (h.fr o)
theorem RHeld.start (w:aj) (name:ByteArray) (c:Int) (a b d:bJ):RHeld w (((w.alloc (.cells #[aa name] a)).alloc (.cells #[ab ae c] b)).alloc (.cells #[aa ⟨#[]⟩,ab ae 0,ab ae 0] d)) name c where
 bel:=(((ak w.heap.size w).alloc (ag _) _).alloc (by simp) _).alloc (by simp;omega) _
 lt:=by simp
 n0:=(dX _ _ none).cell ((dX _ _ none).cell (aq _ _ _ 0) (by simp)) (by simp)
 f0:=(dX _ _ none).cell (by
  rw [show w.heap.size+1=(w.alloc (.cells #[aa name] a)).heap.size by simp]
  exact aq _ _ _ 0) (by simp)
 r0:=⟨_,by
  rw [show w.heap.size+1+1=((w.alloc (.cells #[aa name] a)).alloc (.cells #[ab ae c] b)).heap.size by simp]
  exact aq _ _ _ 0⟩
 r1:=⟨_,by
  rw [show w.heap.size+1+1=((w.alloc (.cells #[aa name] a)).alloc (.cells #[ab ae c] b)).heap.size by simp]
  exact aq _ _ _ 1⟩
 r2:=⟨_,by
  rw [show w.heap.size+1+1=((w.alloc (.cells #[aa name] a)).alloc (.cells #[ab ae c] b)).heap.size by simp]
  exact aq _ _ _ 2⟩
 fr:=fun o=>by
  rw [show w.heap.size+1+1=((w.alloc (.cells #[aa name] a)).alloc (.cells #[ab ae c] b)).heap.size by simp]
  exact World.frozen?_alloc_new _ _ _ _
end Hb
namespace Go.Proofs.YtgapnafkelokaaaGreatDoor
open Go.RowKit Hb
theorem JF (o:OpR) (g1 g2:Nat) (name:ByteArray) (c:Int) (w:aj) (j:w.cell? ⟨g1,0,none⟩=some (aa name)) (d:w.cell? ⟨g2,0,none⟩=some (ab ae c)) (g:g1<w.heap.size) (i:g2<w.heap.size) :
  aG ah 211 #[kU o,ax (some ⟨g1,0,none⟩),ax (some ⟨g2,0,none⟩)] w fun e w'=>e=av (an (nK name c o))/\ay w.heap.size w w':=by
 have b:=FHeld.start (o:=o) 80 j d g i
 unfold kU
 have a:=aZ (show nK name c o=(o.name.toList==name.toList&&cO o.typ==c) from rfl)
 cases h:(o.name.toList==name.toList)
 ·rw [h] at a
  have f:¬o.name.toList=name.toList:=by simpa using h
  go_enter Tryz.func211,Tryz.ntmps211
  go_wp2_with fail
  go_quiet (fail)
  go_wp2_with fail
  go_ret
  exact ⟨bC a.out.symm,dF b.bel _⟩
 ·rw [h] at a
  have f:o.name.toList=name.toList:=by simpa using h
  go_enter Tryz.func211,Tryz.ntmps211
  go_wp2_with fail
  go_region_held3 (fun w'=>w'.cell? ⟨w.heap.size,0,none⟩=some (aa o.name)/\w'.cell? ⟨w.heap.size,1,none⟩=some (ab ae o.typ)/\w'.cell? ⟨g1,0,none⟩=some (aa name)/\w'.cell? ⟨g2,0,none⟩=some (ab ae c)/\FHeld w w' o g1 g2 name c)
   (first | with_reducible exact b.drew.keep | with_reducible exact FHeld.keep (FHeld.of (by with_reducible assumption)) | with_reducible exact FHeld.keep (FHeld.call (by with_reducible assumption) (FHeld.of (by with_reducible assumption))))
   (first | (go_at_call 57;(with_reducible refine (xE o.typ _).mono ?_);rintro e l ⟨rfl,k⟩))
  all_goals go_wp2_with fail
  all_goals go_ret
  all_goals exact ⟨bC a.out.symm,FHeld.bel (FHeld.of (by with_reducible assumption))⟩
theorem Ck (A:Option Addr) (n F:Nat) (l:List OpR) (g1 g2:Nat) (name:ByteArray) (c:Int) (w:aj) (v:n=l.length) (Q:n<=400) (x:OpsAt w A l) (H:w.cell? ⟨g1,0,none⟩=some (aa name)) (G:w.cell? ⟨g2,0,none⟩=some (ab ae c)) (y:g1<w.heap.size) (z:g2<w.heap.size) :
  aG ah 169 #[.slice A n F,.func (.func 211) #[] #[ax (some ⟨g1,0,none⟩),ax (some ⟨g2,0,none⟩)]] w fun e w'=>e=av (ab ae (vM (nK name c) l))/\ay w.heap.size w w':=by
 have s:=aZ v
 have D:=aZ x
 clear v x
 go_enter Tryz.func169,Tryz.ntmps169
 go_wp2_with fail
 go_loopw [8] (fun i wr=>∃k:Nat,k<=n/\i=ab ae k/\ay w.heap.size w wr/\Hid (∀j (a:j<l.length),j<k->nK name c l[j]=false)) (fun i _=>n-(intOf i).toNat)
 case atStart=>exact ⟨0,bj _,rfl,ak _ _,fun j _ a=>absurd a (by omega)⟩
 case round=>
  obtain ⟨k,O,rfl,d,m⟩:=hrel
  by_cases P:k<n
  ·have g:=d.size
   have u:k<l.length:=by have:=s.out;omega
   obtain ⟨b,R,rfl,M,J,K,L⟩:=(D.out.below d) k u
   have B:=aZ (fun h=>sE (nK name c) l k u h (fun j a=>m.out j (by omega) a))
   have f:=aZ (JF l[k] g1 g2 name c wr ((d.cell (p:=⟨g1,0,none⟩) y).trans H) ((d.cell (p:=⟨g2,0,none⟩) z).trans G) (aB y g) (aB z g))
   have E:=aZ (fun (h:nK name c l[k]=false)=>(show ∀j (a:j<l.length),j<k+1->nK name c l[j]=false from fun j a N=>by
    rcases dy j k with t | t
    ·exact m.out j a t
    ·have:j=k:=by omega
     subst this;exact h))
   generalize l[k]=o at *
   unfold kU at f
   cases hi:nK name c o
   ·rw [hi] at f
    have q:=aZ hi
    clear hi
    go_wp2_with fail
    refine f.out.mono ?_;rintro e I ⟨rfl,r⟩
    go_wp2_with fail
    go_roundw
    case rel=>exact ⟨k+1,by omega,by go_num,d.trans (r.mono g),E.out q.out⟩
    case measure=>simp [intOf] <;> omega
   ·rw [hi] at f
    have q:=aZ hi
    clear hi
    go_wp2_with fail
    refine f.out.mono ?_;rintro e I ⟨rfl,r⟩
    go_wp2_with fail
    go_ret
    exact ⟨cT (B.out q.out).symm,d.trans (r.mono g)⟩
  ·obtain rfl:k=n:=by omega
   have C:=aZ (qd (nK name c) l (fun j a=>m.out j a (by have:=s.out;omega)))
   go_wp2_with fail
   go_ret
   exact ⟨cT C.out.symm,d⟩
theorem sb (A:Option Addr) (n C:Nat) (l:List OpR) (name:ByteArray) (c:Int) (w:aj) (L:n=l.length) (R:n<=400) (S:OpsAt w A l) :
  aG ah 190 #[.slice A n C,aa name,ab ae c] w fun e w'=>e=av (aF #[kU ((dt l name c).getD op0),an (dt l name c).isSome])/\ay w.heap.size w w':=by
 have B:=aZ S
 have O:=aZ L
 clear S
 have y:=RHeld.start w name c 9 3 80
 have h:=aZ (nF A n C l _ L R (B.out.below y.bel))
 clear L
 cases hv:bF l
 ·rw [hv] at h
  have u:=aZ (show dt l name c=none by unfold dt;rw [hv];rfl)
  clear hv
  go_enter Tryz.func190,Tryz.ntmps190
  go_wp2_with fail
  refine h.out.mono ?_;rintro e g ⟨rfl,q⟩
  have a:=y.call q
  obtain ⟨f,T,U,P,⟨Y,r⟩,⟨Z,s⟩,⟨v2,t⟩,m⟩:=id a
  have Q:=m 0
  go_wp2_with fail
  refine aw (v:=aF #[kU op0,an false]) (by simp [kU,op0,results,Tryz.results190,go_sem,r,s,t]) rfl ⟨by rw [u.out];rfl,by
   have d:w.heap.size<=w.heap.size+1+1:=by omega
   exact ((f.setCell (p:=⟨_,_,none⟩) d _).setCell (p:=⟨_,_,none⟩) d _).setCell (p:=⟨_,_,none⟩) d _⟩
 ·rw [hv] at h
  have u:=aZ (show dt l name c=l.find? (nK name c) by unfold dt;rw [hv];rfl)
  clear hv
  have x:=aZ (fun (g:aj) (a:RHeld w g name c)=>Ck A n C l w.heap.size (w.heap.size+1) name c g O.out R (B.out.below a.bel) a.n0 a.f0 (by have:=a.lt;omega) (by have:=a.lt;omega))
  by_cases I:∃k,∃hk:k<l.length,nK name c l[k]=true/\∀j (J:j<k),nK name c (l[j]'(by omega))=false
  ·obtain ⟨k,K,D,E⟩:=I
   have a0:k<n:=by have:=O.out;omega
   have z:=aZ (u.out.trans (Fo _ l k K D E))
   rw [sE _ l k K D E] at x
   obtain ⟨b,N,rfl,H,V,W,X⟩:=B.out k K
   generalize l[k]=o at *
   clear D E
   go_enter Tryz.func190,Tryz.ntmps190
   go_wp2_with fail
   refine h.out.mono ?_;rintro e g ⟨rfl,q⟩
   have a:=y.call q
   go_wp2_with fail
   refine (x.out g a).mono ?_;rintro e w2 ⟨rfl,F⟩
   have G:=a.call F
   obtain ⟨f,T,U,P,⟨Y,r⟩,⟨Z,s⟩,⟨v2,t⟩,m⟩:=id G
   have Q:=m 0
   have a1:=(f.cell (p:=⟨b,N+k * 3,none⟩) H).trans V
   have a2:=(f.cell (p:=⟨b,N+k * 3+1,none⟩) H).trans W
   have a3:=(f.cell (p:=⟨b,N+k * 3+2,none⟩) H).trans X
   clear V W X
   go_wp2_with fail
   refine aw (v:=aF #[kU o,an true]) (by simp [kU,results,Tryz.results190,go_sem,r,s,t]) rfl ⟨by rw [z.out];rfl,by
    have d:w.heap.size<=w.heap.size+1+1:=by omega
    exact ((f.setCell (p:=⟨_,_,none⟩) d _).setCell (p:=⟨_,_,none⟩) d _).setCell (p:=⟨_,_,none⟩) d _⟩
  ·have M:∀j (J:j<l.length),nK name c l[j]=false:=by
    intro j
    induction j using Nat.strongRecOn with
    | ind j ih=>
     intro J
     cases hc:nK name c l[j] with
     | false=>rfl
     | true=>exact absurd ⟨j,J,hc,fun i hi=>ih i hi (by omega)⟩ I
   have z:=aZ (u.out.trans (CF _ l M))
   rw [qd _ l M] at x
   clear M I
   go_enter Tryz.func190,Tryz.ntmps190
   go_wp2_with fail
   refine h.out.mono ?_;rintro e g ⟨rfl,q⟩
   have a:=y.call q
   go_wp2_with fail
   refine (x.out g a).mono ?_;rintro e w2 ⟨rfl,F⟩
   have G:=a.call F
   obtain ⟨f,T,U,P,⟨Y,r⟩,⟨Z,s⟩,⟨v2,t⟩,m⟩:=id G
   have Q:=m 0
   go_wp2_with fail
   refine aw (v:=aF #[kU op0,an false]) (by simp [kU,op0,results,Tryz.results190,go_sem,r,s,t]) rfl ⟨by rw [z.out];rfl,by
    have d:w.heap.size<=w.heap.size+1+1:=by omega
    exact ((f.setCell (p:=⟨_,_,none⟩) d _).setCell (p:=⟨_,_,none⟩) d _).setCell (p:=⟨_,_,none⟩) d _⟩
end Go.Proofs.YtgapnafkelokaaaGreatDoor
namespace Hb
theorem zq {p:Prop} (h:p):Go.RowKit.Hid p:=Go.Lib.hid h
theorem bz {a w w':Go.World} (h:Go.RowKit.Hid (Go.RowKit.Below a.heap.size a w)) (b:Go.RowKit.Below w.heap.size w w'):Go.RowKit.Hid (Go.RowKit.Below a.heap.size a w'):=zq (h.out.trans (b.mono h.out.size))
theorem lz {α:Type} (a:α):∃x,Go.RowKit.Hid (x=a):=⟨_,zq rfl⟩
theorem oz {p:Prop} [Decidable p] (h:decide p=true):p:=of_decide_eq_true h
end Hb
