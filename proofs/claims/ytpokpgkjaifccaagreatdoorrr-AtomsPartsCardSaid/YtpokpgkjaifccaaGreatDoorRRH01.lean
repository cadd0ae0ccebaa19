/- Parts of the proof. -/
import Derived.WalkKit
import Derived.WalkSpells
import Derived.WalkLawsBesides
import Derived.LoopTactic
import Derived.Outline
import Derived.Lib.Hide
import Derived.Deep.QuietTactic
import Derived.BigQuiet
import Derived.Laws.Strings
import Derived.Maps.AppendAt
import Derived.Deep.DeepMust
import Derived.Test.YtpokpgkjaifccaaGreatDoorRRProg
import Derived.RegionTactic
import Derived.Deep.RegionWith
import Derived.Laws.EntriesVeiled
import Derived.Deep.CutBlock
import Derived.Sort.Walk0
import Derived.Test.YtpokpgkjaifccaaGreatDoorRRChecked
import Derived.LoopN
import Derived.Deep.RegionHeld3
namespace Hb
open Go Go.RowKit
theorem ret_int {k:IntKind} {a b:Int} (h:a=b):Ending.returned (.int k a)=.returned (.int k b):=by rw [h]
theorem ret_bool {a b:Bool} (h:a=b):Ending.returned (.bool a)=.returned (.bool b):=by rw [h]
theorem ret_str {a b:ByteArray} (h:a=b):Ending.returned (.string a)=.returned (.string b):=by rw [h]
theorem ret_ib {k:IntKind} {a a':Int} {b b':Bool} (h:a=a') (h':b=b'):Ending.returned (.tuple #[.int k a,.bool b])=.returned (.tuple #[.int k a',.bool b']):=by rw [h,h']
theorem ret_val {a b:Value} (h:a=b):Ending.returned a=.returned b:=by rw [h]
theorem quiet0 {P:Program} {f:FuncId} {args:Array Value} {w:World} {n:Nat} {v:Value}
  (h:Calls P f args (w.drewN n) fun e w'=>e=.returned v∧w.drewN n=w'):Calls P f args (w.drewN n) fun e w''=>e=.returned v∧∃m,w''=w.drewN m :=
 h.mono fun _ _ ⟨he,hm⟩=>⟨he,n,hm.symm⟩
theorem bl_drewN {B:Nat} {a w:World} (h:Below B a w) (n:Nat):Below B a (w.drewN n):=h.trans ⟨rfl,rfl,rfl,Nat.le_refl _,fun _ _=>rfl⟩
theorem size_data (s:ByteArray):s.data.toList.length=s.size:=by simp
def byteCells (l:List UInt8):List Value:=l.map fun b=>.int .u8 (b.toNat:Int)
theorem byteCells_snoc (l:List UInt8) (b:UInt8):byteCells (l++[b])=byteCells l++[.int .u8 (b.toNat:Int)]:=by simp [byteCells]
theorem byteCells_len (l:List UInt8):(byteCells l).length=l.length:=by simp [byteCells]
theorem conv_own {P:Program} (w:World) (src dst e:TypeId) (hs:P.underlying src=some (.slice e)) (he:P.underlying e=some (.int .u8)) (hd:P.underlying dst=some .string)
  (base:Nat) (v:Value) (n:Nat) (l:List UInt8) (hown:w.ownsRow base e 1 v n (byteCells l)) :
  (convert src dst v).run P w=.ok (.string ⟨l.toArray⟩) w:=by
 have hlen:=hown.1
 rw [byteCells_len,Nat.mul_one] at hlen
 rcases hown.2 with ⟨rfl,h0⟩ | ⟨g,cap,cur,rfl,_,hh,hn,_,hsz,ht⟩
 ·have:l=[]:=List.eq_nil_of_length_eq_zero (by omega)
  subst this
  exact run_convert_bytes_nil w src e hs he _ _ dst hd
 ·subst hlen
  refine run_convert_bytes_back w src dst e ⟨g,0,none⟩ cap l hs he hd fun j hj=>?_
  have e1:(⟨g,0,none⟩:Addr).add j=⟨g,j,none⟩:=by unfold Addr.add;split <;> simp_all
  rw [e1]
  have e2:cur.toList[j]? = some (.int .u8 (l[j].toNat:Int)):=by
   have:(byteCells l)[j]? = some (.int .u8 (l[j].toNat:Int)):=by simp [byteCells,List.getElem?_eq_getElem hj]
   rw [←ht,List.getElem?_take_of_lt (by omega)] at this
   exact this
  show World.cell? w _=_
  unfold World.cell?
  simp only [hh]
  simpa using e2
theorem conv_new1 {P:Program} (src dst e:TypeId) (hs:P.underlying src=some (.slice e)) (he:P.underlying e=some (.int .u8)) (hd:P.underlying dst=some .string)
  (n:Int) (h0:0≤n) (h1:n≤255) (w:World):(convert src dst (.slice (some ⟨w.heap.size,0,none⟩) 1 1)).run P (w.alloc (.cells #[.int .u8 n] e))=.ok (.string ⟨#[n.toNat.toUInt8]⟩) (w.alloc (.cells #[.int .u8 n] e)):=by
 refine run_convert_bytes_back (w.alloc (.cells #[.int .u8 n] e)) src dst e ⟨w.heap.size,0,none⟩ 1 [n.toNat.toUInt8] hs he hd fun j hj=>?_
 have:j=0:=by simp at hj;omega
 subst this
 show (w.alloc (.cells #[.int .u8 n] e)).cell? ⟨w.heap.size,0,none⟩=_
 rw [World.cell?_alloc_new]
 simp;omega
theorem wpList_append_one {P:Program} {w:World} {ops:Array Oper} {rest:List Oper} {o:Oper} {a:Act} {Q:Exit→Act→World→Prop} (hgd:o.guard=none) (s x:Operand) (t e:TypeId)
  (ho:o.op=.call { callee:=.builtin .append,args:=#[s,x],argTypes:=#[t,t] }) (ht:P.underlying t=some (.slice e)) (z:Value) (size bytes:Nat)
  (hinfo:(P.info? e).map (fun i=>(i.zero,i.size,i.bytes))=some (some z,size,bytes)) (hzs:z.cells.size=size) (hsz:0<size)
  (base:Nat) (v:Value) (n:Nat) (xs:List Value) (hs:a.eval s=v) (W:World) (hown:W.ownsRow base e size v n xs) (cs:Array Value) (hcs:cs.size=size) (h1:∀u∈cs.toList,u.oneCell'=true)
  (hw:w=W.alloc (.cells cs e)) (hx:a.eval x=.slice (some ⟨W.heap.size,0,none⟩) 1 1) (h63:n+1≤4611686018427387904) (hbytes:(n+1) * bytes≤140737488355328) (hbase:base≤W.heap.size)
  (h:∀v' w',w'.ownsRow base e size v' (n+1) (xs++cs.toList)→Below base W w'→w.grownBy w' v.ownBlock→wpList P ops Q rest (a.put o.dst v') w'):wpList P ops Q (o::rest) a w:=by
 subst hw
 obtain ⟨i,hi,hz0,hz1,hz2⟩:=info_parts hinfo
 refine wpList_append_own _ hgd s x t ho base e i z size bytes ht hi hz0 hz1 hz2 hzs hsz v n xs hs (hown.alloc _) ⟨W.heap.size,0,none⟩ 1 1 cs.toList hx (by simp [hcs]) ?_ h1 (by unfold maxLen;omega) hbytes (by simp;omega) ?_
 ·intro j u hu
  have e1:(⟨W.heap.size,0,none⟩:Addr).add j=⟨W.heap.size,j,none⟩:=by unfold Addr.add;split <;> simp_all
  rw [e1,World.cell?_alloc_new]
  simpa using hu
 ·intro v' w' ho' hg' _
  refine h v' w' ho' ?_ hg'
  refine (((Below.refl base W).alloc hbase _).grown hg' (by simp;omega) ?_)
  intro k hk
  rcases hown.2 with ⟨rfl,_⟩ | ⟨g,cap,cur,rfl,hbg,_⟩
  ·simp [Value.ownBlock] at hk
  ·simp [Value.ownBlock] at hk;omega
theorem wpList_append_byte {P:Program} {w:World} {ops:Array Oper} {rest:List Oper} {o:Oper} {a:Act} {Q:Exit→Act→World→Prop} (hgd:o.guard=none) (s x:Operand) (t e:TypeId)
  (ho:o.op=.call { callee:=.builtin .append,args:=#[s,x],argTypes:=#[t,t] }) (ht:P.underlying t=some (.slice e))
  (hinfo:(P.info? e).map (fun i=>(i.zero,i.size,i.bytes))=some (some (.int .u8 0),1,1))
  (base:Nat) (v:Value) (n:Nat) (l:List UInt8) (hs:a.eval s=v) (W:World) (hown:W.ownsRow base e 1 v n (byteCells l)) (c:Int) (h0:0≤c) (h1:c≤255)
  (hw:w=W.alloc (.cells #[.int .u8 c] e)) (hx:a.eval x=.slice (some ⟨W.heap.size,0,none⟩) 1 1) (h63:n≤70368744177664) (hbase:base≤W.heap.size)
  (h:∀v' w',w'.ownsRow base e 1 v' (n+1) (byteCells (l++[c.toNat.toUInt8]))→Below base W w'→wpList P ops Q rest (a.put o.dst v') w'):wpList P ops Q (o::rest) a w:=by
 refine wpList_append_one hgd s x t e ho ht _ 1 1 hinfo rfl (by decide) base v n _ hs W hown #[.int .u8 c] rfl (by simp [Value.oneCell']) hw hx (by omega) (by omega) hbase fun v' w' ho' hb' _=>h v' w' ?_ hb'
 rw [byteCells_snoc]
 have:((c.toNat.toUInt8).toNat:Int)=c:=by simp;omega
 rw [this];exact ho'
def Pairs (w:World) (A:Option Addr) (l:List (Int×Int)):Prop :=
 ∀j (h:j<l.length),∃b off,A=some ⟨b,off,none⟩∧b<w.heap.size∧w.cell? ⟨b,off+j * 2,none⟩=some (.int .i64 l[j].1)∧w.cell? ⟨b,off+j * 2+1,none⟩=some (.int .i64 l[j].2)
theorem Pairs.below {w w':World} {A:Option Addr} {l:List (Int×Int)} (h:Pairs w A l) (hb:Below w.heap.size w w'):Pairs w' A l:=fun j hj=>by
 obtain ⟨b,off,e,hlt,c1,c2⟩:=h j hj
 exact ⟨b,off,e,Nat.lt_of_lt_of_le hlt hb.size,(hb.cell (p:=⟨b,_,none⟩) hlt).trans c1,(hb.cell (p:=⟨b,_,none⟩) hlt).trans c2⟩
theorem Pairs.nil (w:World) (A:Option Addr):Pairs w A []:=fun j h=>absurd h (by simp)
inductive Tm where
 | mk (kind num:Int) (name:ByteArray) (args:List Tm)
def Tm.kind:Tm→Int | .mk k _ _ _=>k
def Tm.num:Tm→Int | .mk _ n _ _=>n
def Tm.name:Tm→ByteArray | .mk _ _ s _=>s
def Tm.args:Tm→List Tm | .mk _ _ _ l=>l
theorem Tm.ind {P:Tm→Prop} (h:∀t:Tm,(∀a∈t.args,P a)→P t):∀t,P t :=
 Tm.rec (motive_1:=P) (motive_2:=fun l=>∀a∈l,P a) (fun k n s l ih=>h (.mk k n s l) ih) (fun a ha=>by cases ha) (fun a l h1 h2 b hb=>by
  rcases List.mem_cons.1 hb with rfl | hb
  ·exact h1
  ·exact h2 b hb)
inductive TmsK (K:Nat→Prop) (w:World):Option Addr→List Tm→Prop
 | mk (A:Option Addr) (l:List Tm) (F:Nat→Option Addr) (C:Nat→Nat) (hl:l.length≤maxLen)
  (hc:∀j (hj:j<l.length),∃b off,A=some ⟨b,off,none⟩∧K b∧w.cell? ⟨b,off+j * 4,none⟩=some (.int .i64 l[j].kind)∧w.cell? ⟨b,off+j * 4+1,none⟩=some (.int .i64 l[j].num)∧w.cell? ⟨b,off+j * 4+2,none⟩=some (.string l[j].name)∧w.cell? ⟨b,off+j * 4+3,none⟩=some (.slice (F j) l[j].args.length (C j)))
  (hs:∀j (hj:j<l.length),TmsK K w (F j) l[j].args):TmsK K w A l
theorem TmsK.len {K:Nat→Prop} {w:World} {A:Option Addr} {l:List Tm} (h:TmsK K w A l):l.length≤maxLen:=by cases h;assumption
theorem TmsK.get {K:Nat→Prop} {w:World} {A:Option Addr} {l:List Tm} (h:TmsK K w A l) (j:Nat) (hj:j<l.length) :
  ∃b off A' cap',A=some ⟨b,off,none⟩∧K b∧w.cell? ⟨b,off+j * 4,none⟩=some (.int .i64 l[j].kind)∧w.cell? ⟨b,off+j * 4+1,none⟩=some (.int .i64 l[j].num)∧w.cell? ⟨b,off+j * 4+2,none⟩=some (.string l[j].name)∧w.cell? ⟨b,off+j * 4+3,none⟩=some (.slice A' l[j].args.length cap')∧TmsK K w A' l[j].args:=by
 cases h with
 | mk A l F C hl hc hs=>
  obtain ⟨b,off,e,hb,c0,c1,c2,c3⟩:=hc j hj
  exact ⟨b,off,F j,C j,e,hb,c0,c1,c2,c3,hs j hj⟩
theorem TmsK.keep {K K':Nat→Prop} {w w':World} {A:Option Addr} {l:List Tm} (h:TmsK K w A l) (hB:∀b,K b→w'.heap[b]? = w.heap[b]?) (hK:∀b,K b→K' b):TmsK K' w' A l:=by
 induction h with
 | mk A l F C hl hc _ ih=>
  refine .mk A l F C hl (fun j hj=>?_) ih
  obtain ⟨b,off,e,hb,c0,c1,c2,c3⟩:=hc j hj
  have hw:∀o,w'.cell? ⟨b,o,none⟩=w.cell? ⟨b,o,none⟩:=fun o=>World.cell?_of_block (hB b hb)
  exact ⟨b,off,e,hK b hb,(hw _).trans c0,(hw _).trans c1,(hw _).trans c2,(hw _).trans c3⟩
theorem TmsK.nil {K:Nat→Prop} {w:World} {A:Option Addr}:TmsK K w A []:=.mk A [] (fun _=>.none) (fun _=>0) (by decide) (fun j hj=>absurd hj (by simp)) (fun j hj=>absurd hj (by simp))
def TmsAt (B:Nat) (w:World) (A:Option Addr) (l:List Tm):Prop:=TmsK (fun b=>b<B) w A l
theorem TmsAt.len {B:Nat} {w:World} {A:Option Addr} {l:List Tm} (h:TmsAt B w A l):l.length≤maxLen:=TmsK.len h
theorem TmsAt.get {B:Nat} {w:World} {A:Option Addr} {l:List Tm} (h:TmsAt B w A l) (j:Nat) (hj:j<l.length) :
  ∃b off A' cap',A=some ⟨b,off,none⟩∧b<B∧w.cell? ⟨b,off+j * 4,none⟩=some (.int .i64 l[j].kind)∧w.cell? ⟨b,off+j * 4+1,none⟩=some (.int .i64 l[j].num)∧w.cell? ⟨b,off+j * 4+2,none⟩=some (.string l[j].name)∧w.cell? ⟨b,off+j * 4+3,none⟩=some (.slice A' l[j].args.length cap')∧TmsAt B w A' l[j].args:=TmsK.get h j hj
theorem TmsAt.keep {B:Nat} {w w':World} {A:Option Addr} {l:List Tm} (h:TmsAt B w A l) (hB:Below B w w'):TmsAt B w' A l:=TmsK.keep h (fun b hb=>hB.block b hb) (fun _ h=>h)
theorem TmsAt.mono {B B':Nat} {w:World} {A:Option Addr} {l:List Tm} (h:TmsAt B w A l) (hB:B≤B'):TmsAt B' w A l:=TmsK.keep h (fun _ _=>rfl) (fun _ h=>Nat.lt_of_lt_of_le h hB)
theorem TmsK.at {K:Nat→Prop} {w:World} {A:Option Addr} {l:List Tm} (h:TmsK K w A l) (hK:∀b,K b→b<w.heap.size):TmsAt w.heap.size w A l:=TmsK.keep h (fun _ _=>rfl) hK
def tmV (t:Tm) (A:Option Addr) (cap:Nat):Value:=.agg #[.int .i64 t.kind,.int .i64 t.num,.string t.name,.slice A t.args.length cap]
def Tm.nodes:Tm→Nat
 | .mk _ _ _ l=>1+(l.attach.map fun ⟨a,_⟩=>a.nodes).sum
theorem Tm.nodes_eq (t:Tm):t.nodes=1+(t.args.map Tm.nodes).sum:=by
 cases t with
 | mk k n s l=>unfold Tm.nodes Tm.args;simp
theorem Tm.nodes_pos (t:Tm):1≤t.nodes:=by rw [Tm.nodes_eq];omega
def nodeOk (t:Tm):Bool :=
 if t.kind=0 then decide (0≤t.num)&&decide (t.num≤1099511627776)&&t.name.toList==[]&&t.args.length==0
 else if t.kind=1 then t.name.toList==[]&&t.args.length==0
 else if t.kind=2 then t.num==0&&decide (t.name.size≤100)&&t.args.length==0
 else if t.kind=3 then t.num==0&&decide (t.name.size≤100)&&decide (0<t.args.length)&&decide (t.args.length≤8)
 else false
def Tm.allOk:Tm→Bool
 | .mk k n s l=>nodeOk (.mk k n s l)&&l.attach.all fun ⟨a,_⟩=>a.allOk
theorem Tm.allOk_eq (t:Tm):t.allOk=(nodeOk t&&t.args.all Tm.allOk):=by
 cases t with
 | mk k n s l=> 
  have h:l.attach.all (fun x=>x.1.allOk)=(l.attach.map Subtype.val).all Tm.allOk:=by rw [List.all_map];rfl
  rw [List.attach_map_subtype_val] at h
  unfold Tm.allOk
  show (_&&l.attach.all fun x=>x.1.allOk)=(nodeOk _&&l.all Tm.allOk)
  rw [h]
def validT (t:Tm):Bool:=decide (t.nodes≤2000)&&t.allOk
structure Only (g:Nat) (w w':World):Prop where
 os:w'.os=w.os
 tape:w'.tape=w.tape
 output:w'.output=w.output
 size:w.heap.size≤w'.heap.size
 block:∀k,k<w.heap.size→k≠g→w'.heap[k]? = w.heap[k]?
theorem Only.refl (g:Nat) (w:World):Only g w w:=⟨rfl,rfl,rfl,Nat.le_refl _,fun _ _ _=>rfl⟩
theorem Only.trans {g:Nat} {a b c:World} (h:Only g a b) (k:Only g b c):Only g a c :=
 ⟨k.os.trans h.os,k.tape.trans h.tape,k.output.trans h.output,Nat.le_trans h.size k.size,fun i hi hg=>(k.block i (Nat.lt_of_lt_of_le hi h.size) hg).trans (h.block i hi hg)⟩
theorem Only.of {g:Nat} {a b:World} (h:Below a.heap.size a b):Only g a b:=⟨h.os,h.tape,h.output,h.size,fun k hk _=>h.block k hk⟩
theorem Only.below {g B:Nat} {a b:World} (h:Only g a b) (hB:B≤g) (hs:B≤a.heap.size):Below B a b:=⟨h.os,h.tape,h.output,h.size,fun k hk=>h.block k (by omega) (by omega)⟩
theorem Only.cell {g:Nat} {a b:World} (h:Only g a b) {p:Addr} (hp:p.block<a.heap.size) (hg:p.block≠g):b.cell? p=a.cell? p:=World.cell?_of_block (h.block _ hp hg)
theorem Only.set (g o:Nat) (w:World) (v:Value):Only g w (w.setCell ⟨g,o,none⟩ v):=⟨rfl,rfl,rfl,by simp,fun k _ hk=>heap_setCell_other w ⟨g,o,none⟩ k v (fun e=>hk (by simp [e]))⟩
theorem Only.alloc (g:Nat) (w:World) (o:Obj):Only g w (w.alloc o):=.of ((Below.refl _ _).alloc (Nat.le_refl _) o)
def sumN (l:List Tm) (k:Nat):Nat:=((l.take k).map Tm.nodes).sum
theorem sumN_zero (l:List Tm):sumN l 0=0:=rfl
theorem sumN_succ (l:List Tm) (k:Nat) (hk:k<l.length):sumN l (k+1)=sumN l k+l[k].nodes:=by
 unfold sumN
 rw [List.take_succ_eq_append_getElem hk,List.map_append,List.sum_append]
 simp
theorem sumN_le (l:List Tm):∀d k,sumN l k≤sumN l (k+d):=by
 intro d
 induction d with
 | zero=>intro k;exact Nat.le_refl _
 | succ d ih=>
  intro k
  refine Nat.le_trans (ih k) ?_
  rcases Nat.lt_or_ge (k+d) l.length with h | h
  ·rw [show k+(d+1)=(k+d)+1 by omega,sumN_succ l (k+d) h];omega
  ·unfold sumN
   rw [List.take_of_length_le h,List.take_of_length_le (by omega)]
   exact Nat.le_refl _
theorem sumN_all (t:Tm):t.nodes=1+sumN t.args t.args.length:=by
 rw [Tm.nodes_eq];unfold sumN;rw [List.take_length]
structure TBoxT (w0 w:World) (t:Tm) (A:Option Addr) (cap:Nat):Prop where
 bel:Below w0.heap.size w0 w
 lt:w0.heap.size<w.heap.size
 c0:w.cell? ⟨w0.heap.size,0,none⟩=some (.int .i64 t.kind)
 c1:w.cell? ⟨w0.heap.size,1,none⟩=some (.int .i64 t.num)
 c2:w.cell? ⟨w0.heap.size,2,none⟩=some (.string t.name)
 c3:w.cell? ⟨w0.heap.size,3,none⟩=some (.slice A t.args.length cap)
theorem TBoxT.call {w0 w w':World} {t:Tm} {A:Option Addr} {cap:Nat} (h:TBoxT w0 w t A cap) (hB:Below w.heap.size w w'):TBoxT w0 w' t A cap where
 bel:=h.bel.trans (hB.mono (Nat.le_of_lt h.lt))
 lt:=Nat.lt_of_lt_of_le h.lt hB.size
 c0:=(hB.cell (p:=⟨_,_,none⟩) h.lt).trans h.c0
 c1:=(hB.cell (p:=⟨_,_,none⟩) h.lt).trans h.c1
 c2:=(hB.cell (p:=⟨_,_,none⟩) h.lt).trans h.c2
 c3:=(hB.cell (p:=⟨_,_,none⟩) h.lt).trans h.c3
theorem TBoxT.start (w:World) (t:Tm) (A:Option Addr) (cap:Nat) (e:TypeId):TBoxT w (w.alloc (.cells #[.int .i64 t.kind,.int .i64 t.num,.string t.name,.slice A t.args.length cap] e)) t A cap where
 bel:=(Below.refl _ _).alloc (Nat.le_refl _) _
 lt:=by simp
 c0:=World.cell?_alloc_new _ _ _ 0
 c1:=World.cell?_alloc_new _ _ _ 1
 c2:=World.cell?_alloc_new _ _ _ 2
 c3:=World.cell?_alloc_new _ _ _ 3
end Hb
namespace Go.Proofs.YtpokpgkjaifccaaGreatDoorRR
open Go.RowKit Hb
set_option maxRecDepth 100000
set_option maxHeartbeats 3200000 in
theorem ref_count:∀(t:Tm) (A:Option Addr) (cap most:Nat) (w:World),TmsAt w.heap.size w A t.args→1≤most→most≤2001 →
  Calls Tryz.prog 105 #[tmV t A cap,.int .i64 most] w fun e w'=>e=.returned (.int .i64 (min t.nodes most:Nat))∧Below w.heap.size w w':=by
 refine Tm.ind fun t ih=>?_
 intro A cap most w hT h1 h2
 have HX:=Lib.hid (TBoxT.start w t A cap 32)
 have HT:=Lib.hid hT
 have hm:=hT.len
 unfold maxLen at hm
 have HALL:=Lib.hid (sumN_all t)
 have HIH:=Lib.hid ih
 clear hT ih
 obtain ⟨L,HL⟩:∃L,Hid (L=t.args.length):=⟨_,Lib.hid rfl⟩
 unfold tmV
 rw [←HL.out] at hm ⊢
 go_enter Tryz.func105,Tryz.ntmps105
 go_wp2_with fail
 go_loopw [5,6] (fun c i wr=>∃k n:Nat,k≤L∧c=.int .i64 n∧i=.int .i64 k∧n=min (1+sumN t.args k) most∧Hid (TBoxT w wr t A cap)) (fun _ i _=>L-(intOf i).toNat)
 case atStart=>exact ⟨0,1,Nat.zero_le _,rfl,rfl,by rw [sumN_zero];omega,by rw [HL.out];exact HX⟩
 case round=>
  obtain ⟨k,n,hk,rfl,rfl,hn,HB⟩:=hrel
  have b3:=HB.out.c3
  rw [←HL.out] at b3
  by_cases hlt:k<L
  ·by_cases hnm:n<most
   ·have hkl:k<t.args.length:=by have:=HL.out;omega
    obtain ⟨b,off,A',cap',rfl,hb,c0,c1,c2,c3,hs⟩:=(HT.out.keep HB.out.bel).get k hkl
    have hss:=hs.mono HB.out.bel.size
    have hC:=Lib.hid (HIH.out t.args[k] (List.getElem_mem hkl) A' cap' (most-n) wr hss (by omega) (by omega))
    have hsum:=sumN_succ t.args k hkl
    unfold tmV at hC
    have hmn:((most:Int)-(n:Int))=((most-n:Nat):Int):=by omega
    obtain ⟨q,hq⟩:∃q,q=min t.args[k].nodes (most-n):=⟨_,rfl⟩
    rw [←hq] at hC
    have hq2:n+q=min (1+sumN t.args (k+1)) most:=by rw [hsum];omega
    clear hs hss hq hsum hn
    generalize t.args[k].kind=a0 at *
    generalize t.args[k].num=a1 at *
    generalize t.args[k].name=a2 at *
    generalize t.args[k].args.length=a3 at *
    have HQ:=Lib.hid hq2
    clear hq2
    go_wp2_with fail
    refine hC.out.mono ?_;rintro e w1 ⟨rfl,hB1⟩
    have HB1:=Lib.hid (HB.out.call hB1)
    have hnq:n+q≤2001:=by have:=HQ.out;omega
    clear b3 c0 c1 c2 c3 hB1
    go_wp2_with fail
    go_roundw
    case rel=>exact ⟨k+1,n+q,by omega,by go_num,by go_num,HQ.out,HB1⟩
    case measure=>simp [intOf] <;> omega
   ·have hend:n=min t.nodes most:=by
     have h3:=sumN_le t.args (t.args.length-k) k
     have h4:=HL.out
     rw [show k+(t.args.length-k)=t.args.length by omega] at h3
     rw [HALL.out];omega
    have HE:=Lib.hid hend
    have hbel:=HB.out.bel
    have hnm2:¬(n:Int)<(most:Int):=by omega
    clear hend hn
    go_wp2_with fail
    go_ret
    exact ⟨ret_int (by rw [HE.out]),hbel⟩
  ·have hend:n=min t.nodes most:=by
    have h4:=HL.out
    rw [HALL.out,←h4,hn,show k=L by omega]
   have HE:=Lib.hid hend
   have hbel:=HB.out.bel
   clear hend hn
   go_wp2_with fail
   go_ret
   exact ⟨ret_int (by rw [HE.out]),hbel⟩
theorem ref_size (t:Tm) (A:Option Addr) (cap:Nat) (w:World) (hT:TmsAt w.heap.size w A t.args):Calls Tryz.prog 90 #[tmV t A cap] w fun e w'=>e=.returned (.int .i64 (min t.nodes 2001:Nat))∧Below w.heap.size w w':=by
 have HX:=Lib.hid (TBoxT.start w t A cap 32)
 have HC:=Lib.hid (fun (w1:World) (h:TBoxT w w1 t A cap)=>ref_count t A cap 2001 w1 ((hT.keep h.bel).mono h.bel.size) (by decide) (by decide))
 unfold tmV at *
 clear hT
 generalize min t.nodes 2001=m at *
 generalize t.kind=a0 at *
 generalize t.num=a1 at *
 generalize t.name=a2 at *
 generalize t.args.length=a3 at *
 go_enter Tryz.func90,Tryz.ntmps90
 go_wp2_with fail
 refine (HC.out _ HX.out).mono ?_;rintro e w1 ⟨rfl,hB1⟩
 have hbel:=(HX.out.call hB1).bel
 go_wp2_with fail
 go_ret
 exact ⟨rfl,hbel⟩
set_option maxHeartbeats 3200000 in
theorem ref_node (t:Tm) (A:Option Addr) (cap:Nat) (w:World) (_hm:t.args.length≤maxLen):Calls Tryz.prog 106 #[tmV t A cap] w fun e w'=>e=.returned (.bool (nodeOk t))∧Below w.heap.size w w':=by
 unfold tmV
 go_enter Tryz.func106,Tryz.ntmps106
 go_wp2_with fail
 all_goals go_ret
 all_goals refine ⟨ret_bool ?_,(Below.refl _ _).alloc (Nat.le_refl _) _⟩
 all_goals unfold nodeOk
 all_goals grind
set_option maxHeartbeats 3200000 in
theorem ref_nodes:∀(t:Tm) (A:Option Addr) (cap:Nat) (w:World),TmsAt w.heap.size w A t.args →
  Calls Tryz.prog 91 #[tmV t A cap] w fun e w'=>e=.returned (.bool t.allOk)∧Below w.heap.size w w':=by
 refine Tm.ind fun t ih=>?_
 intro A cap w hT
 have HX:=Lib.hid (TBoxT.start w t A cap 32)
 have HT:=Lib.hid hT
 have hm:=hT.len
 have HND:=Lib.hid (fun w1 (h:TBoxT w w1 t A cap)=>(ref_node t A cap w1 hm).mono fun _ _ hh=>(⟨hh.1,h.call hh.2⟩:_∧TBoxT w _ t A cap))
 unfold maxLen at hm
 have HIH:=Lib.hid ih
 have HALL:=Lib.hid (Tm.allOk_eq t)
 clear hT ih
 obtain ⟨L,HL⟩:∃L,Hid (L=t.args.length):=⟨_,Lib.hid rfl⟩
 unfold tmV at *
 rw [←HL.out] at hm HND ⊢
 cases hno:nodeOk t
 ·rw [hno] at HND HALL
  clear hno
  go_enter Tryz.func91,Tryz.ntmps91
  go_wp2_with fail
  rw [←HL.out] at HX
  refine (HND.out _ HX.out).mono ?_;rintro e w1 ⟨rfl,hX1⟩
  have hbel:=hX1.bel
  go_wp2_with fail
  go_ret
  exact ⟨ret_bool (by rw [HALL.out];rfl),hbel⟩
 ·rw [hno] at HND HALL
  clear hno
  rw [←HL.out] at HX
  go_enter Tryz.func91,Tryz.ntmps91
  go_wp2_with fail
  refine (HND.out _ HX.out).mono ?_;rintro e w1 ⟨rfl,hX1⟩
  have HX1:=Lib.hid hX1
  clear hX1
  go_wp2_with fail
  go_loopw [3] (fun i wr=>∃k:Nat,k≤L∧i=.int .i64 k∧Hid (TBoxT w wr t A cap)∧Hid (∀j (hj:j<t.args.length),j<k→t.args[j].allOk=true)) (fun i _=>L-(intOf i).toNat)
  case atStart=>exact ⟨0,Nat.zero_le _,rfl,HX1,Lib.hid fun j _ hj=>absurd hj (by omega)⟩
  case round=>
   obtain ⟨k,hk,rfl,HB,HA⟩:=hrel
   have b3:=HB.out.c3
   rw [←HL.out] at b3
   by_cases hlt:k<L
   ·have hkl:k<t.args.length:=by have:=HL.out;omega
    obtain ⟨b,off,A',cap',rfl,hb,c0,c1,c2,c3,hs⟩:=(HT.out.keep HB.out.bel).get k hkl
    have hC:=Lib.hid (HIH.out t.args[k] (List.getElem_mem hkl) A' cap' wr (hs.mono HB.out.bel.size))
    have HNO:Hid (t.args[k].allOk=false→t.allOk=false):=Lib.hid fun h=>by
     rw [HALL.out,Bool.true_and,List.all_eq_false]
     exact ⟨_,List.getElem_mem hkl,by rw [h];simp⟩
    have HYES:Hid (t.args[k].allOk=true→∀j (hj:j<t.args.length),j<k+1→t.args[j].allOk=true):=Lib.hid fun h j hj hjk=>by
     rcases Nat.lt_or_ge j k with h' | h'
     ·exact HA.out j hj h'
     ·have:j=k:=by omega
      subst this;exact h
    clear hs
    generalize t.args[k].kind=a0 at *
    generalize t.args[k].num=a1 at *
    generalize t.args[k].name=a2 at *
    generalize t.args[k].args.length=a3 at *
    generalize t.args[k].allOk=q at *
    cases q
    ·go_wp2_with fail
     refine hC.out.mono ?_;rintro e w2 ⟨rfl,hB2⟩
     have hbel:=(HB.out.call hB2).bel
     go_wp2_with fail
     go_ret
     exact ⟨ret_bool (HNO.out (by first | rfl | trivial)).symm,hbel⟩
    ·go_wp2_with fail
     refine hC.out.mono ?_;rintro e w2 ⟨rfl,hB2⟩
     have HB2:=Lib.hid (HB.out.call hB2)
     go_wp2_with fail
     go_roundw
     case rel=>exact ⟨k+1,by omega,by go_num,HB2,Lib.hid (HYES.out (by first | rfl | trivial))⟩
     case measure=>simp [intOf] <;> omega
   ·have HE:Hid (t.allOk=true):=Lib.hid (by
     rw [HALL.out,Bool.true_and,List.all_eq_true]
     intro a ha
     obtain ⟨j,hj,rfl⟩:=List.getElem_of_mem ha
     exact HA.out j hj (by have:=HL.out;omega))
    have hbel:=HB.out.bel
    go_wp2_with fail
    go_ret
    exact ⟨ret_bool HE.out.symm,hbel⟩
theorem ref_tvalid (t:Tm) (A:Option Addr) (cap:Nat) (w:World) (hT:TmsAt w.heap.size w A t.args):Calls Tryz.prog 62 #[tmV t A cap] w fun e w'=>e=.returned (.bool (validT t))∧Below w.heap.size w w':=by
 have HX:=Lib.hid (TBoxT.start w t A cap 32)
 have HC:=Lib.hid (fun (w1:World) (h:TBoxT w w1 t A cap)=>(ref_size t A cap w1 ((hT.keep h.bel).mono h.bel.size)).mono fun _ _ hh=>(⟨hh.1,h.call hh.2⟩:_∧TBoxT w _ t A cap))
 have HN:=Lib.hid (fun (w1:World) (h:TBoxT w w1 t A cap)=>(ref_nodes t A cap w1 ((hT.keep h.bel).mono h.bel.size)).mono fun _ _ hh=>(⟨hh.1,h.call hh.2⟩:_∧TBoxT w _ t A cap))
 unfold tmV at *
 clear hT
 by_cases hsz:t.nodes≤2000
 ·have HV:Hid (validT t=t.allOk):=Lib.hid (by unfold validT;simp [hsz])
  have hmn:min t.nodes 2001=t.nodes:=by omega
  rw [hmn] at HC
  have b1:decide ((t.nodes:Int)≤2000)=true:=by simp;omega
  go_enter Tryz.func62,Tryz.ntmps62
  go_wp2_with fail
  refine (HC.out _ HX.out).mono ?_;rintro e w1 ⟨rfl,hX1⟩
  have c0:=hX1.c0
  have c1:=hX1.c1
  have c2:=hX1.c2
  have c3:=hX1.c3
  go_wp2_with fail
  refine (HN.out _ hX1).mono ?_;rintro e w2 ⟨rfl,hX2⟩
  have hbel:=hX2.bel
  go_wp2_with fail
  go_ret
  exact ⟨ret_bool HV.out.symm,hbel⟩
 ·have HV:Hid (validT t=false):=Lib.hid (by unfold validT;simp [hsz])
  have hmn:min t.nodes 2001=2001:=by omega
  rw [hmn] at HC
  go_enter Tryz.func62,Tryz.ntmps62
  go_wp2_with fail
  refine (HC.out _ HX.out).mono ?_;rintro e w1 ⟨rfl,hX1⟩
  have hbel:=hX1.bel
  go_wp2_with fail
  go_ret
  exact ⟨ret_bool HV.out.symm,hbel⟩
end Go.Proofs.YtpokpgkjaifccaaGreatDoorRR
namespace Hb
open Go Go.RowKit
structure WalkH (w0 w:World) (t:Tm) (A:Option Addr) (cap gl M:Nat):Prop where
 only:Only gl w0 w
 lt:w0.heap.size<w.heap.size
 b3:w.cell? ⟨w0.heap.size,3,none⟩=some (.slice A t.args.length cap)
 cell:w.cell? ⟨gl,0,none⟩=some (.int .i64 M)
 fr:∀o,w.frozen? ⟨gl,o,none⟩=false
structure LeftN (w0 w:World) (gl:Nat) (M:Nat):Prop where
 only:Only gl w0 w
 cell:w.cell? ⟨gl,0,none⟩=some (.int .i64 M)
 fr:∀o,w.frozen? ⟨gl,o,none⟩=false
theorem WalkH.left {w0 w:World} {t:Tm} {A:Option Addr} {cap gl M:Nat} (h:WalkH w0 w t A cap gl M):LeftN w0 w gl M:=⟨h.only,h.cell,h.fr⟩
theorem WalkH.call {w0 w w':World} {t:Tm} {A:Option Addr} {cap gl M M':Nat} (h:WalkH w0 w t A cap gl M) (hg:gl<w0.heap.size) (hl:LeftN w w' gl M'):WalkH w0 w' t A cap gl M' where
 only:=h.only.trans hl.only
 lt:=Nat.lt_of_lt_of_le h.lt hl.only.size
 b3:=(hl.only.cell (p:=⟨w0.heap.size,3,none⟩) h.lt (by show w0.heap.size≠gl;omega)).trans h.b3
 cell:=hl.cell
 fr:=hl.fr
theorem WalkH.start (w:World) (t:Tm) (A:Option Addr) (cap gl M LN:Nat) (e:TypeId) (hL:LN=t.args.length) (hgl:gl<w.heap.size) {u:Value} (hc:w.cell? ⟨gl,0,none⟩=some u) (hf:∀o,w.frozen? ⟨gl,o,none⟩=false) :
  WalkH w ((w.setCell ⟨gl,0,none⟩ (.int .i64 M)).alloc (.cells #[.int .i64 t.kind,.int .i64 t.num,.string t.name,.slice A LN cap] e)) t A cap gl M where
 only:=(Only.set gl 0 w _).trans (Only.alloc gl _ _)
 lt:=by simp
 b3:=by
  have h:=World.cell?_alloc_new (w.setCell ⟨gl,0,none⟩ (.int .i64 M)) #[.int .i64 t.kind,.int .i64 t.num,.string t.name,.slice A LN cap] e 3
  have hs:(w.setCell ⟨gl,0,none⟩ (.int .i64 M)).heap.size=w.heap.size:=by simp
  rw [hs] at h
  rw [h,hL];rfl
 cell:=by
  have hB:=(Below.refl (w.setCell ⟨gl,0,none⟩ (.int .i64 M)).heap.size (w.setCell ⟨gl,0,none⟩ (.int .i64 M))).alloc (Nat.le_refl _) (.cells #[.int .i64 t.kind,.int .i64 t.num,.string t.name,.slice A LN cap] e)
  rw [hB.cell (p:=⟨gl,0,none⟩) (by simpa using hgl)]
  exact World.cell?_setCell_same _ _ _ hc
 fr:=fun o=>by
  have hB:=(Below.refl (w.setCell ⟨gl,0,none⟩ (.int .i64 M)).heap.size (w.setCell ⟨gl,0,none⟩ (.int .i64 M))).alloc (Nat.le_refl _) (.cells #[.int .i64 t.kind,.int .i64 t.num,.string t.name,.slice A LN cap] e)
  rw [hB.frozen (p:=⟨gl,o,none⟩) (by simpa using hgl),World.frozen?_setCell]
  exact hf o
structure SizeH (w W:World) (F:Value):Prop where
 bel:Below w.heap.size w W
 lt1:w.heap.size+1<W.heap.size
 lt2:w.heap.size+1+1<W.heap.size
 left:LeftN W W (w.heap.size+1) 2001
 fn:W.cell? ⟨w.heap.size+1+1,0,none⟩=some F
theorem size_start (w:World) (o:Obj) (t1 t2:TypeId) (F:Value):SizeH w (((w.alloc o).alloc (.cells #[.int .i64 2001] t1)).alloc (.cells #[F] t2)) F where
 bel:=(((Below.refl _ _).alloc (Nat.le_refl _) _).alloc (by simp) _).alloc (by simp;omega) _
 lt1:=by simp
 lt2:=by simp
 left:=by
  have h1:=World.cell?_alloc_new (w.alloc o) #[.int .i64 2001] t1 0
  have hs:(w.alloc o).heap.size=w.heap.size+1:=by simp
  rw [hs] at h1
  have hB:=(Below.refl ((w.alloc o).alloc (.cells #[.int .i64 2001] t1)).heap.size ((w.alloc o).alloc (.cells #[.int .i64 2001] t1))).alloc (Nat.le_refl _) (.cells #[F] t2)
  refine ⟨Only.refl _ _,(hB.cell (p:=⟨w.heap.size+1,0,none⟩) (by simp)).trans h1,fun k=>?_⟩
  rw [hB.frozen (p:=⟨w.heap.size+1,k,none⟩) (by simp)]
  exact World.frozen?_alloc_at (w:=w.alloc o) #[.int .i64 2001] t1 (w.heap.size+1) k hs.symm
 fn:=by
  have h1:=World.cell?_alloc_new ((w.alloc o).alloc (.cells #[.int .i64 2001] t1)) #[F] t2 0
  have hs:((w.alloc o).alloc (.cells #[.int .i64 2001] t1)).heap.size=w.heap.size+1+1:=by simp
  rw [hs] at h1
  exact h1
end Hb
namespace Go.Proofs.YtpokpgkjaifccaaGreatDoorRR
open Go.RowKit Hb
set_option maxRecDepth 100000
def walkF (gl gw:Nat):Value:=.func (.func 84) #[] #[.pointer (some ⟨gl,0,none⟩),.pointer (some ⟨gw,0,none⟩)]
set_option maxHeartbeats 3200000 in
theorem size_walk:∀(t:Tm) (A:Option Addr) (cap B gl gw L:Nat) (w:World),TmsAt B w A t.args→B≤gl→B≤gw→gl≠gw→gl<w.heap.size→gw<w.heap.size→1≤L→L≤2001→LeftN w w gl L→w.cell? ⟨gw,0,none⟩=some (walkF gl gw) →
  Calls Tryz.prog 84 #[tmV t A cap,.pointer (some ⟨gl,0,none⟩),.pointer (some ⟨gw,0,none⟩)] w fun e w'=>e=.returned (.tuple #[])∧LeftN w w' gl (L-t.nodes):=by
 refine Tm.ind fun t ih=>?_
 intro A cap B gl gw L w hT hBl hBw hne hgl hgw h1 h2 hL hgc
 have hm:=hT.len
 unfold maxLen at hm
 have HT:=Lib.hid hT
 have HALL:=Lib.hid (sumN_all t)
 have HIH:=Lib.hid ih
 have gl0:=hL.cell
 have glf:=hL.fr
 have glf0:=glf 0
 have hl1:(L:Int)-1=((L-1:Nat):Int):=by omega
 obtain ⟨LN,HL⟩:∃LN,Hid (LN=t.args.length):=⟨_,Lib.hid rfl⟩
 clear hT ih
 unfold tmV
 rw [←HL.out] at hm ⊢
 have HWS:=Lib.hid (WalkH.start w t A cap gl (L-1) LN 32 HL.out hgl gl0 glf)
 have HGW:=Lib.hid hgc
 go_enter Tryz.func84,Tryz.ntmps84
 go_wp2_with fail
 clear hL hgc gl0 glf glf0 hl1
 go_loopw [4] (fun i wr=>∃k M:Nat,k≤LN∧i=.int .i64 k∧M=L-(1+sumN t.args k)∧Hid (WalkH w wr t A cap gl M)) (fun i _=>LN-(intOf i).toNat)
 case atStart=>exact ⟨0,L-1,Nat.zero_le _,rfl,by rw [sumN_zero],HWS⟩
 case round=>
  clear HWS
  obtain ⟨k,M,hk,rfl,hM,HB⟩:=hrel
  have b3:=HB.out.b3
  rw [←HL.out] at b3
  have gl0:=HB.out.cell
  by_cases hlt:k<LN
  ·by_cases hm0:0<M
   ·have hkl:k<t.args.length:=by have:=HL.out;omega
    have hBw':Below B w wr:=HB.out.only.below hBl (by omega)
    obtain ⟨b,off,A',cap',rfl,hb,c0,c1,c2,c3,hs⟩:=(HT.out.keep hBw').get k hkl
    have gwc:wr.cell? ⟨gw,0,none⟩=some (walkF gl gw):=(HB.out.only.cell (p:=⟨gw,0,none⟩) hgw (fun h=>hne h.symm)).trans HGW.out
    have hsz:=HB.out.only.size
    have HC:=Lib.hid (HIH.out t.args[k] (List.getElem_mem hkl) A' cap' B gl gw M wr.drew (hs.keep (Below.refl B wr).drew) hBl hBw hne (by show gl<wr.heap.size;omega) (by show gw<wr.heap.size;omega) hm0 (by omega) ⟨Only.refl _ _,gl0,HB.out.fr⟩ gwc)
    have hsum:=sumN_succ t.args k hkl
    have HQ:Hid (M-t.args[k].nodes=L-(1+sumN t.args (k+1))):=Lib.hid (by rw [hsum];omega)
    unfold tmV at HC
    unfold walkF at gwc
    clear hs hsum hM
    have hk0:(0:Int)≤(k:Int):=by omega
    have hk1:(k:Int)<(LN:Int):=by omega
    generalize t.args[k].kind=a0 at *
    generalize t.args[k].num=a1 at *
    generalize t.args[k].name=a2 at *
    generalize t.args[k].args.length=a3 at *
    generalize t.args[k].nodes=q at *
    go_wp2_with fail
    go_region_with (first | (go_at_call 84;(with_reducible refine HC.out.mono ?_);rintro e w2 ⟨rfl,hL2⟩))
    all_goals
     have HBn:=Lib.hid (HB.out.call hgl (⟨(Only.of (Below.refl wr.heap.size wr).drew).trans hL2.only,hL2.cell,hL2.fr⟩:LeftN wr w2 gl (M-q)))
     clear b3 gl0 c0 c1 c2 c3 gwc hL2
     go_wp2_with fail
     go_roundw
     case rel=>exact ⟨k+1,M-q,by omega,by go_num,HQ.out,HBn⟩
     case measure=>simp [intOf] <;> omega
   ·have hM0:M=0:=by omega
    subst hM0
    have h3:=sumN_le t.args (t.args.length-k) k
    have h4:=HL.out
    rw [show k+(t.args.length-k)=t.args.length by omega] at h3
    have hend:L-t.nodes=0:=by rw [HALL.out];omega
    have HE:=Lib.hid hend
    have hlf:=HB.out.left
    clear hend h3 h4 hM
    go_wp2_with fail
    refine bodyPost_end (v:=.tuple #[]) (by simp [results,Tryz.results84,go_sem]) rfl ⟨rfl,by rw [HE.out];exact hlf⟩
  ·have hend:M=L-t.nodes:=by
    have h4:=HL.out
    rw [HALL.out,←h4,hM,show k=LN by omega]
   have HE:=Lib.hid hend
   have hlf:=HB.out.left
   clear hend hM
   go_wp2_with fail
   refine bodyPost_end (v:=.tuple #[]) (by simp [results,Tryz.results84,go_sem]) rfl ⟨rfl,by rw [←HE.out];exact hlf⟩
theorem size_left (t:Tm) (A:Option Addr) (cap:Nat) (w:World) (hT:TmsAt w.heap.size w A t.args):Calls Tryz.prog 52 #[tmV t A cap] w fun e w'=>e=.returned (.int .i64 (min t.nodes 2001:Nat))∧Below w.heap.size w w':=by
 have HS:=Lib.hid (fun (o:Obj)=>size_start w o 3 82 (walkF (w.heap.size+1) (w.heap.size+1+1)))
 have HW:=Lib.hid (fun (o:Obj)=>size_walk t A cap w.heap.size (w.heap.size+1) (w.heap.size+1+1) 2001 _ (hT.keep (HS.out o).bel) (by omega) (by omega) (by omega) (HS.out o).lt1 (HS.out o).lt2 (by decide) (by decide) (HS.out o).left (HS.out o).fn)
 clear hT
 have hmin:(2001:Int)-((2001-t.nodes:Nat):Int)=((min t.nodes 2001:Nat):Int):=by omega
 have HMIN:=Lib.hid hmin
 clear hmin
 unfold tmV walkF at *
 generalize t.kind=a0 at *
 generalize t.num=a1 at *
 generalize t.name=a2 at *
 generalize t.args.length=a3 at *
 go_enter Tryz.func52,Tryz.ntmps52
 go_wp2_with fail
 refine (HW.out _).mono ?_;rintro e w1 ⟨rfl,hL1⟩
 have c0:=hL1.cell
 have hbel:=(HS.out (.cells #[.int .i64 a0,.int .i64 a1,.string a2,.slice A a3 cap] 32)).bel.trans (hL1.only.below (by omega) (HS.out (.cells #[.int .i64 a0,.int .i64 a1,.string a2,.slice A a3 cap] 32)).bel.size)
 have hr0:(0:Int)≤((2001-t.nodes:Nat):Int):=by omega
 have hr1:((2001-t.nodes:Nat):Int)≤2001:=by omega
 go_wp2_with fail
 go_ret
 exact ⟨ret_int (by rw [←HMIN.out]),hbel⟩
end Go.Proofs.YtpokpgkjaifccaaGreatDoorRR
namespace Hb
open Go Go.RowKit
def okTo (t:Tm) (k:Nat):Bool:=nodeOk t&&(t.args.take k).all Tm.allOk
theorem okTo_zero (t:Tm):okTo t 0=nodeOk t:=by unfold okTo;simp
theorem okTo_succ (t:Tm) (k:Nat) (h:k<t.args.length):okTo t (k+1)=(okTo t k&&t.args[k].allOk):=by
 unfold okTo;rw [List.take_succ_eq_append_getElem h,List.all_append,Bool.and_assoc];simp
theorem okTo_end (t:Tm) (k:Nat) (h:t.args.length≤k):okTo t k=t.allOk:=by
 rw [Tm.allOk_eq];unfold okTo;rw [List.take_of_length_le h]
theorem okTo_no (t:Tm) (k:Nat) (h:okTo t k=false):t.allOk=false:=by
 rw [Tm.allOk_eq]
 unfold okTo at h
 cases h1:nodeOk t
 ·rfl
 ·rw [h1,Bool.true_and] at h
  rw [Bool.true_and,List.all_eq_false] at *
  obtain ⟨x,hx,hx2⟩:=h
  exact ⟨x,List.mem_of_mem_take hx,hx2⟩
end Hb
namespace Go.Proofs.YtpokpgkjaifccaaGreatDoorRR
open Go.RowKit Hb
set_option maxRecDepth 100000
set_option maxHeartbeats 6400000 in
theorem fits_all:∀(t:Tm) (A:Option Addr) (cap:Nat) (w:World),TmsAt w.heap.size w A t.args →
  Calls Tryz.prog 53 #[tmV t A cap] w fun e w'=>e=.returned (.bool t.allOk)∧Below w.heap.size w w':=by
 refine Tm.ind fun t ih=>?_
 intro A cap w hT
 have HX:=Lib.hid (TBoxT.start w t A cap 32)
 have HT:=Lib.hid hT
 have hm:=hT.len
 unfold maxLen at hm
 have HIH:=Lib.hid ih
 have H0:=Lib.hid (okTo_zero t)
 clear hT ih
 obtain ⟨L,HL⟩:∃L,Hid (L=t.args.length):=⟨_,Lib.hid rfl⟩
 unfold tmV at *
 rw [←HL.out] at hm ⊢ HX
 go_enter Tryz.func53,Tryz.ntmps53
 go_upto_block 0 with fail
 go_cut [0,3] from 4 (fun p q wc=>p=.agg #[.int .i64 t.kind,.int .i64 t.num,.string t.name,.slice A L cap]∧q=.bool (nodeOk t)∧wc=w.alloc (.cells #[.int .i64 t.kind,.int .i64 t.num,.string t.name,.slice A L cap] 32))
 case first=>
  go_wp2_with fail
  all_goals
   go_meet
   case rel=>
    refine ⟨?_,?_,?_⟩
    ·first | rfl | simp only [*]
    ·unfold nodeOk
     rw [←HL.out]
     congr 1
     grind
    ·first | rfl | simp only [*]
 case rest=>
  obtain ⟨rfl,rfl,rfl⟩:=hcut
  go_wp2_with fail
  go_loopw [3,4] (fun b i wr=>∃k:Nat,∃q:Bool,k≤L∧b=.bool q∧i=.int .i64 k∧Hid (TBoxT w wr t A cap)∧Hid (q=okTo t k)) (fun b i _=>L-(intOf i).toNat)
  case atStart=>exact ⟨0,_,Nat.zero_le _,rfl,rfl,HX,Lib.hid H0.out.symm⟩
  case round=>
   obtain ⟨k,q,hk,rfl,rfl,HB,HQ⟩:=hrel
   have b3:=HB.out.c3
   rw [←HL.out] at b3
   cases q
   ·have HE:=Lib.hid (okTo_no t k HQ.out.symm)
    have hbel:=HB.out.bel
    by_cases hlt:k<L
    all_goals
     go_wp2_with fail
     go_ret
     exact ⟨ret_bool HE.out.symm,hbel⟩
   ·by_cases hlt:k<L
    ·have hkl:k<t.args.length:=by have:=HL.out;omega
     obtain ⟨b,off,A',cap',rfl,hb,c0,c1,c2,c3,hs⟩:=(HT.out.keep HB.out.bel).get k hkl
     have hC:=Lib.hid (HIH.out t.args[k] (List.getElem_mem hkl) A' cap' wr (hs.mono HB.out.bel.size))
     have HN:=Lib.hid (okTo_succ t k hkl)
     rw [←HQ.out,Bool.true_and] at HN
     clear hs
     generalize t.args[k].kind=a0 at *
     generalize t.args[k].num=a1 at *
     generalize t.args[k].name=a2 at *
     generalize t.args[k].args.length=a3 at *
     generalize t.args[k].allOk=q at *
     go_wp2_with fail
     refine hC.out.mono ?_;rintro e w2 ⟨rfl,hB2⟩
     have HB2:=Lib.hid (HB.out.call hB2)
     go_wp2_with fail
     go_roundw
     case rel=>first | exact ⟨k+1,by omega,q,rfl,by go_num,HB2,Lib.hid HN.out.symm⟩ | exact ⟨k+1,q,by omega,rfl,by go_num,HB2,Lib.hid HN.out.symm⟩ | exact ⟨k+1,by omega,by go_num,HB2,Lib.hid HN.out.symm⟩ 
     case measure=>simp [intOf] <;> omega
    ·have HE:=Lib.hid (okTo_end t k (by have:=HL.out;omega))
     rw [←HQ.out] at HE
     have hbel:=HB.out.bel
     go_wp2_with fail
     go_ret
     exact ⟨ret_bool HE.out,hbel⟩
theorem t_valid (t:Tm) (A:Option Addr) (cap:Nat) (w:World) (hT:TmsAt w.heap.size w A t.args):Calls Tryz.prog 31 #[tmV t A cap] w fun e w'=>e=.returned (.bool (validT t))∧Below w.heap.size w w':=by
 have HX:=Lib.hid (TBoxT.start w t A cap 32)
 have HC:=Lib.hid (fun (w1:World) (h:TBoxT w w1 t A cap)=>(size_left t A cap w1 ((hT.keep h.bel).mono h.bel.size)).mono fun _ _ hh=>(⟨hh.1,h.call hh.2⟩:_∧TBoxT w _ t A cap))
 have HN:=Lib.hid (fun (w1:World) (h:TBoxT w w1 t A cap)=>(fits_all t A cap w1 ((hT.keep h.bel).mono h.bel.size)).mono fun _ _ hh=>(⟨hh.1,h.call hh.2⟩:_∧TBoxT w _ t A cap))
 unfold tmV at *
 clear hT
 by_cases hsz:t.nodes≤2000
 ·have HV:Hid (validT t=t.allOk):=Lib.hid (by unfold validT;simp [hsz])
  have hmn:min t.nodes 2001=t.nodes:=by omega
  rw [hmn] at HC
  have b1:decide ((t.nodes:Int)≤2000)=true:=by simp;omega
  go_enter Tryz.func31,Tryz.ntmps31
  go_wp2_with fail
  refine (HC.out _ HX.out).mono ?_;rintro e w1 ⟨rfl,hX1⟩
  have c0:=hX1.c0
  have c1:=hX1.c1
  have c2:=hX1.c2
  have c3:=hX1.c3
  go_wp2_with fail
  refine (HN.out _ hX1).mono ?_;rintro e w2 ⟨rfl,hX2⟩
  have hbel:=hX2.bel
  go_wp2_with fail
  go_ret
  exact ⟨ret_bool HV.out.symm,hbel⟩
 ·have HV:Hid (validT t=false):=Lib.hid (by unfold validT;simp [hsz])
  have hmn:min t.nodes 2001=2001:=by omega
  rw [hmn] at HC
  go_enter Tryz.func31,Tryz.ntmps31
  go_wp2_with fail
  refine (HC.out _ HX.out).mono ?_;rintro e w1 ⟨rfl,hX1⟩
  have hbel:=hX1.bel
  go_wp2_with fail
  go_ret
  exact ⟨ret_bool HV.out.symm,hbel⟩
end Go.Proofs.YtpokpgkjaifccaaGreatDoorRR
namespace Hb
open Go Go.RowKit
structure OpR where
 name:ByteArray
 typ:Int
 prec:Int
deriving Inhabited,DecidableEq
def clsOp (t:Int):Int:=if t<1 then 0 else if t≤3 then 2 else if t≤5 then 1 else if t≤7 then 3 else 0
def cmpS (a b:ByteArray):Int:=if Op.bytesLess a.toList b.toList=true then -1 else if (!a.toList==b.toList)=true then 1 else 0
def cmpN (a b:Int):Int:=if a<b then -1 else if b<a then 1 else 0
def orI (a b:Int):Int:=if a=0 then b else a
def cmpOp (a b:OpR):Int:=orI (cmpS a.name b.name) (cmpN (clsOp a.typ) (clsOp b.typ))
def isN (o:OpR) (l:List UInt8):Bool:=o.name.toList==l
def opOk (o:OpR):Bool :=
 if decide (100<(o.name.size:Int))||(clsOp o.typ==0||(decide (o.prec<1)||decide (1200<o.prec))) then false
 else if isN o [91,93]||isN o [123,125] then false
 else if isN o [44] then o.typ==2&&o.prec==1000
 else if isN o [124] then clsOp o.typ==2&&decide (1001≤o.prec)
 else true
def opLt (a b:OpR):Bool:=decide (cmpOp a b<0) && !(a.name.toList==b.name.toList&&clsOp a.typ==2)
def okJ (l:List OpR) (j:Nat):Bool:=opOk (l.getD j default)&&(j==0||opLt (l.getD (j-1) default) (l.getD j default))
def opsValid (l:List OpR):Bool:=decide (l.length≤100)&&(List.range l.length).all (okJ l)
def isOp (name:ByteArray) (c:Int) (o:OpR):Bool:=o.name.toList==name.toList&&clsOp o.typ==c
def findR (l:List OpR) (name:ByteArray) (c:Int):Option OpR:=if opsValid l=true then l.find? (isOp name c) else none
structure R3 (w0 w:World):Prop where
 bel:Below w0.heap.size w0 w
 lt:w0.heap.size<w.heap.size
 r0:∃v,w.cell? ⟨w0.heap.size,0,none⟩=some v
 r1:∃v,w.cell? ⟨w0.heap.size,1,none⟩=some v
 r2:∃v,w.cell? ⟨w0.heap.size,2,none⟩=some v
 fr:∀o,w.frozen? ⟨w0.heap.size,o,none⟩=false
end Hb
namespace Hb
def bAt (l:List UInt8) (k:Nat):Int:=((l.getD k 0).toNat:Int)
theorem bAt_lo (l:List UInt8) (k:Nat):0≤bAt l k:=by unfold bAt;omega
theorem bAt_hi (l:List UInt8) (k:Nat):bAt l k≤255:=by unfold bAt;have:=(l.getD k 0).toNat_lt;omega
theorem bAt_get (l:List UInt8) (k:Nat) (h:k<l.length):(l[k].toNat:Int)=bAt l k:=by
 unfold bAt;rw [List.getD_eq_getElem?_getD,List.getElem?_eq_getElem h];rfl
theorem bAt_mk (s:ByteArray) (k:Nat) (h:k<s.size):(s[k].toNat:Int)=bAt s.data.toList k:=by
 have h':k<s.data.toList.length:=by simpa using h
 rw [←bAt_get _ _ h'];rfl
def isCh (c:Int):Bool:=decide (0≤c)&&decide (c≤255)
theorem isCh_iff (c:Int):isCh c=true↔0≤c∧c≤255:=by simp [isCh]
def among (l:List UInt8) (c:Int):Bool:=l.any fun b=>(b.toNat:Int)==c
def cls (c:Int):Int :=
 if ¬(0≤c∧c≤255) then 0
 else if (9≤c∧c≤13)∨c=32 then 1
 else if 97≤c∧c≤122 then 2
 else if (65≤c∧c≤90)∨c=95 then 3
 else if 48≤c∧c≤57 then 4
 else if among [35,36,38,42,43,45,46,47,58,60,61,62,63,64,94,126,92] c then 5
 else if among [33,40,41,44,59,91,93,123,125,37,124] c then 6
 else if among [39,34,96] c then 7
 else 8
theorem cls_ite (P:Int→Prop) (c:Prop) [Decidable c] (a b:Int) (ha:P a) (hb:P b):P (if c then a else b):=by split <;> assumption
theorem cls_lo (c:Int):0≤cls c:=by
 unfold cls;repeat' (refine cls_ite (0 ≤ ·) _ _ _ (by omega) ?_)
 omega
theorem cls_hi (c:Int):cls c≤8:=by
 unfold cls;repeat' (refine cls_ite (· ≤ 8) _ _ _ (by omega) ?_)
 omega
theorem cls_out (c:Int) (h:¬(0≤c∧c≤255)):cls c=0:=by unfold cls;rw [if_pos h]
def alnum (c:Int):Bool:=cls c==2||(cls c==3||cls c==4)
def rowOf:List (List UInt8):=[[9,10,11,12,13,32],
 [97,98,99,100,101,102,103,104,105,106,107,108,109,110,111,112,113,114,115,116,117,118,119,120,121,122],
 [65,66,67,68,69,70,71,72,73,74,75,76,77,78,79,80,81,82,83,84,85,86,87,88,89,90,95],
 [48,49,50,51,52,53,54,55,56,57],[35,36,38,42,43,45,46,47,58,60,61,62,63,64,94,126,92],
 [33,40,41,44,59,91,93,123,125,37,124],[39,34,96]]
def rowIx (c:Int):Nat:=rowOf.findIdx fun l=>among l c
theorem rowIx_cls:∀n:Nat,n<256→cls (n:Int)=(rowIx (n:Int):Int)+1:=by decide +kernel
theorem rowIx_le (c:Int):rowIx c≤7:=List.findIdx_le_length
def dig (c base:Int):Option Int :=
 if base<2∨36<base then none
 else
  let v:=if 48≤c∧c≤57 then c-48 else if 97≤c∧c≤122 then c-97+10 else if 65≤c∧c≤90 then c-65+10 else 36
  if v<base then some v else none
def digV (c base:Int):Int:=(dig c base).getD 0
def digOk (c base:Int):Bool:=(dig c base).isSome
def une (c:Int):Option Int :=
 if c=92∨c=39∨c=34∨c=96 then some c
 else if c=97 then some 7 else if c=98 then some 8 else if c=116 then some 9 else if c=110 then some 10
 else if c=118 then some 11 else if c=102 then some 12 else if c=114 then some 13 else none
def uneV (c:Int):Int:=(une c).getD 0
def uneOk (c:Int):Bool:=(une c).isSome
def letters:List UInt8:=[97,98,116,110,118,102,114]
def prF (l:List (Int×Int)) (j:Nat):Int:=(l.getD j (0,0)).1
def prT (l:List (Int×Int)) (j:Nat):Int:=(l.getD j (0,0)).2
theorem prF_get (l:List (Int×Int)) (j:Nat) (h:j<l.length):l[j].1=prF l j:=by
 unfold prF;rw [List.getD_eq_getElem?_getD,List.getElem?_eq_getElem h];rfl
theorem prT_get (l:List (Int×Int)) (j:Nat) (h:j<l.length):l[j].2=prT l j:=by
 unfold prT;rw [List.getD_eq_getElem?_getD,List.getElem?_eq_getElem h];rfl
def okAt (l:List (Int×Int)) (j:Nat):Bool:=isCh (prF l j)&&(isCh (prT l j)&&(!(prF l j==prT l j)&&(j==0||decide (prF l (j-1)<prF l j))))
theorem okAt_1 (l k) (h:isCh (prF l k)=false):okAt l k=false:=by unfold okAt;rw [h];rfl
theorem okAt_2 (l k) (h:isCh (prF l k)=true) (h2:isCh (prT l k)=false):okAt l k=false:=by unfold okAt;rw [h,h2];rfl
theorem okAt_3 (l k) (h:isCh (prF l k)=true) (h2:isCh (prT l k)=true) (h3:(prF l k==prT l k)=true):okAt l k=false:=by unfold okAt;rw [h,h2,h3];rfl
theorem okAt_4 (l k) (h0:k=0) (h:isCh (prF l k)=true) (h2:isCh (prT l k)=true) (h3:(prF l k==prT l k)=false):okAt l k=true:=by unfold okAt;rw [h,h2,h3,h0];rfl
theorem okAt_5 (l k) (h:isCh (prF l k)=true) (h2:isCh (prT l k)=true) (h3:(prF l k==prT l k)=false) (h4:prF l (k-1)<prF l k):okAt l k=true:=by unfold okAt;rw [h,h2,h3];simp [h4]
theorem okAt_6 (l k) (h:isCh (prF l k)=true) (h2:isCh (prT l k)=true) (h3:(prF l k==prT l k)=false) (h0:0<k) (h4:¬prF l (k-1)<prF l k):okAt l k=false:=by unfold okAt;rw [h,h2,h3];simp;omega
def pvalid (l:List (Int×Int)):Bool:=(List.range l.length).all (okAt l)
theorem pvalid_all (l:List (Int×Int)) (h:∀j,j<l.length→okAt l j=true):pvalid l=true:=by
 unfold pvalid;rw [List.all_eq_true];intro x hx;exact h x (List.mem_range.1 hx)
theorem pvalid_no (l:List (Int×Int)) (j:Nat) (hj:j<l.length) (h:okAt l j=false):pvalid l=false:=by
 unfold pvalid;rw [List.all_eq_false];exact ⟨j,List.mem_range.2 hj,by simp [h]⟩
theorem pvalid_at (l:List (Int×Int)) (h:pvalid l=true) (j:Nat) (hj:j<l.length):okAt l j=true:=by
 unfold pvalid at h;rw [List.all_eq_true] at h;exact h j (List.mem_range.2 hj)
def convT (l:List (Int×Int)) (c:Int):Int:=l.foldl (fun t p=>if p.1=c then p.2 else t) c
def rawAt (l:List UInt8) (i:Nat):Int:=if i<l.length then bAt l i else -1
theorem rawAt_in (l:List UInt8) (i:Nat) (h:i<l.length):rawAt l i=bAt l i:=by unfold rawAt;rw [if_pos h]
theorem rawAt_out (l:List UInt8) (i:Nat) (h:l.length≤i):rawAt l i=-1:=by unfold rawAt;rw [if_neg (by omega)]
theorem rawAt_hi (l:List UInt8) (i:Nat):rawAt l i≤255:=by
 unfold rawAt;split
 ·exact bAt_hi l i
 ·omega
theorem rawAt_neg (l:List UInt8) (i:Nat):rawAt l i<0↔l.length≤i:=by
 unfold rawAt;split
 ·have:=bAt_lo l i;omega
 ·omega
theorem bAt_drop (l:List UInt8) (i j:Nat):bAt (l.drop i) j=bAt l (i+j):=by
 unfold bAt;simp [List.getD_eq_getElem?_getD,List.getElem?_drop]
theorem rawAt_drop (l:List UInt8) (i j:Nat):rawAt (l.drop i) j=rawAt l (i+j):=by
 unfold rawAt;rw [bAt_drop,List.length_drop]
 by_cases h:j<l.length-i
 ·rw [if_pos h,if_pos (by omega)]
 ·rw [if_neg h,if_neg (by omega)]
theorem rawAt_cons (b:UInt8) (l:List UInt8):rawAt (b::l) 0=(b.toNat:Int):=by
 unfold rawAt bAt;simp
theorem rawAt_succ (b:UInt8) (l:List UInt8) (i:Nat):rawAt (b::l) (i+1)=rawAt l i:=by
 unfold rawAt bAt;simp
def cvt (tab:Int→Int) (l:List UInt8):List UInt8:=l.map fun b=>(tab (b.toNat:Int)).toNat.toUInt8
theorem cvt_len (tab:Int→Int) (l:List UInt8):(cvt tab l).length=l.length:=by simp [cvt]
def TabOk (tab:Int→Int):Prop:=∀c,0≤c→c≤255→0≤tab c∧tab c≤255
theorem cvt_at (tab:Int→Int) (ht:TabOk tab) (l:List UInt8) (i:Nat) (h:i<l.length):tab (bAt l i)=bAt (cvt tab l) i:=by
 have h2:i<(cvt tab l).length:=by rw [cvt_len];exact h
 have hb:=ht (bAt l i) (bAt_lo l i) (bAt_hi l i)
 rw [←bAt_get _ _ h2,←bAt_get _ _ h] at *
 simp only [cvt,List.getElem_map]
 simp;omega
def isSym (c:Int):Bool:=cls c==5
def span (q:Int→Bool):List UInt8→Nat
 | []=>0
 | b::l=>if q (b.toNat:Int) then span q l+1 else 0
theorem span_le (q : Int → Bool) : ∀ l, span q l ≤ l.length
  | [] => Nat.le_refl _
  | b :: l => by unfold span; split; · have := span_le q l; simp; omega
                 · exact Nat.zero_le _
theorem drop_cons (l:List UInt8) (k:Nat) (h:k<l.length):l.drop k=l[k]::l.drop (k+1):=List.drop_eq_getElem_cons h
theorem span_yes (q:Int→Bool) (l:List UInt8) (k:Nat) (h:k<l.length) (hq:q (bAt l k)=true):span q (l.drop k)=span q (l.drop (k+1))+1:=by
 rw [drop_cons l k h,span,bAt_get _ _ h,if_pos hq]
theorem span_no (q:Int→Bool) (l:List UInt8) (k:Nat) (h:k<l.length) (hq:q (bAt l k)=false):span q (l.drop k)=0:=by
 rw [drop_cons l k h,span,bAt_get _ _ h,hq];rfl
theorem span_end (q:Int→Bool) (l:List UInt8) (k:Nat) (h:l.length≤k):span q (l.drop k)=0:=by
 rw [List.drop_of_length_le h];rfl
def closeAt:List UInt8→Option Nat
 | []=>none
 | b::l=>if b=42∧rawAt l 0=47 then some 0 else (closeAt l).map (· + 1)
def notNl (c:Int):Bool:=!(c==10)
def skipF:Nat→List UInt8→Nat
 | 0,_=>0
 | f+1,l=>
  if l.isEmpty then 0
  else if cls (rawAt l 0)=1 then 1+skipF f (l.drop 1)
  else if rawAt l 0=37 then span notNl l+skipF f (l.drop (span notNl l))
  else if rawAt l 0=47∧rawAt l 1=42 then
   match closeAt (l.drop 2) with
   | none=>0
   | some k=>(k+4)+skipF f (l.drop (k+4))
  else 0
theorem span_pos (q:Int→Bool) (l:List UInt8) (h:0<l.length) (hq:q (rawAt l 0)=true):1≤span q l:=by
 match l,h with
 | b::l,_=>rw [rawAt_cons] at hq;rw [span,if_pos hq];omega
theorem skipF_fuel:∀(f g:Nat) (l:List UInt8),l.length≤f→l.length≤g→skipF f l=skipF g l
 | 0,0,_,_,_=>rfl
 | 0,g+1,l,h,_=>by
  have:l=[]:=List.eq_nil_of_length_eq_zero (by omega)
  subst this;rfl
 | f+1,0,l,_,h=>by
  have:l=[]:=List.eq_nil_of_length_eq_zero (by omega)
  subst this;rfl
 | f+1,g+1,l,h1,h2=>by
  unfold skipF
  by_cases h0:l.isEmpty
  ·rw [if_pos h0,if_pos h0]
  ·rw [if_neg h0,if_neg h0]
   have hl:0<l.length:=by
    cases l with
    | nil=>simp at h0
    | cons=>simp
   rw [skipF_fuel f g (l.drop 1) (by simp;omega) (by simp;omega)]
   by_cases hp:rawAt l 0=37
   ·have:=span_pos notNl l hl (by rw [hp];rfl)
    rw [skipF_fuel f g (l.drop (span notNl l)) (by simp;omega) (by simp;omega)]
    simp only [if_pos hp]
   ·simp only [if_neg hp]
    cases closeAt (l.drop 2) with
    | none=>rfl
    | some k=>simp only [];rw [skipF_fuel f g (l.drop (k+4)) (by simp;omega) (by simp;omega)]
def skipN (l:List UInt8):Nat:=skipF l.length l
theorem skipN_eq (l:List UInt8):skipN l =
  if l.isEmpty then 0
  else if cls (rawAt l 0)=1 then 1+skipN (l.drop 1)
  else if rawAt l 0=37 then span notNl l+skipN (l.drop (span notNl l))
  else if rawAt l 0=47∧rawAt l 1=42 then
   match closeAt (l.drop 2) with
   | none=>0
   | some k=>(k+4)+skipN (l.drop (k+4))
  else 0:=by
 unfold skipN
 rw [skipF_fuel l.length (l.length+1) l (Nat.le_refl _) (by omega),skipF]
 rw [skipF_fuel l.length (l.drop 1).length (l.drop 1) (by simp) (Nat.le_refl _),skipF_fuel l.length (l.drop (span notNl l)).length (l.drop (span notNl l)) (by simp) (Nat.le_refl _)]
 cases closeAt (l.drop 2) with
 | none=>rfl
 | some k=>simp only [];rw [skipF_fuel l.length (l.drop (k+4)).length (l.drop (k+4)) (by simp) (Nat.le_refl _)]
theorem closeAt_le:∀(l:List UInt8) (k:Nat),closeAt l=some k→k+2≤l.length
 | [],k,h=>by simp [closeAt] at h
 | b::l,k,h=>by
  unfold closeAt at h
  split at h
  ·rename_i hb
   injection h with h
   subst h
   have:=rawAt_neg l 0
   simp;omega
  ·cases hc:closeAt l with
   | none=>rw [hc] at h;simp at h
   | some j=>
    rw [hc] at h
    have:=closeAt_le l j hc
    simp at h;simp;omega
theorem skipF_le:∀(f:Nat) (l:List UInt8),skipF f l≤l.length
 | 0,_=>Nat.zero_le _
 | f+1,l=>by
  unfold skipF
  by_cases h0:l.isEmpty
  ·rw [if_pos h0];omega
  ·rw [if_neg h0]
   have hl:0<l.length:=by
    cases l with
    | nil=>simp at h0
    | cons=>simp
   have h1:=skipF_le f (l.drop 1)
   have h2:=skipF_le f (l.drop (span notNl l))
   have h3:=span_le notNl l
   simp only [List.length_drop] at h1 h2
   by_cases a1:cls (rawAt l 0)=1
   ·rw [if_pos a1];omega
   rw [if_neg a1]
   by_cases a2:rawAt l 0=37
   ·rw [if_pos a2];omega
   rw [if_neg a2]
   by_cases a3:rawAt l 0=47∧rawAt l 1=42
   ·rw [if_pos a3]
    cases hc:closeAt (l.drop 2) with
    | none=>simp
    | some k=>
     have:=closeAt_le _ _ hc
     have h4:=skipF_le f (l.drop (k+4))
     simp only [List.length_drop] at this h4 ⊢
     omega
   ·rw [if_neg a3];omega
theorem skipN_le (l:List UInt8):skipN l≤l.length:=skipF_le _ _
theorem closeAt_yes (l:List UInt8) (k:Nat) (h:k<l.length) (h1:rawAt l k=42) (h2:rawAt l (k+1)=47):closeAt (l.drop k)=some 0:=by
 rw [rawAt_in _ _ h] at h1
 rw [←bAt_get _ _ h] at h1
 have e:l[k]=42:=UInt8.toNat_inj.1 (by show l[k].toNat=42;omega)
 rw [drop_cons l k h,closeAt,rawAt_drop,Nat.add_zero,if_pos ⟨e,h2⟩]
theorem closeAt_no (l:List UInt8) (k:Nat) (h:k<l.length) (h1:¬(rawAt l k=42∧rawAt l (k+1)=47)):closeAt (l.drop k)=(closeAt (l.drop (k+1))).map (· + 1):=by
 rw [rawAt_in _ _ h] at h1
 rw [drop_cons l k h,closeAt,rawAt_drop,Nat.add_zero,if_neg]
 rintro ⟨a,b⟩
 refine h1 ⟨?_,b⟩
 rw [←bAt_get _ _ h,a];rfl
theorem closeAt_end (l:List UInt8) (k:Nat) (h:l.length≤k):closeAt (l.drop k)=none:=by
 rw [List.drop_of_length_le h];rfl
theorem skip_at (l:List UInt8) (k:Nat) (h:k<l.length):skipN (l.drop k) =
  if cls (rawAt l k)=1 then 1+skipN (l.drop (k+1))
  else if rawAt l k=37 then span notNl (l.drop k)+skipN (l.drop (k+span notNl (l.drop k)))
  else if rawAt l k=47∧rawAt l (k+1)=42 then
   match closeAt (l.drop (k+2)) with
   | none=>0
   | some j=>(j+4)+skipN (l.drop (k+(j+4)))
  else 0:=by
 rw [skipN_eq]
 have:(l.drop k).isEmpty=false:=by
  rw [drop_cons l k h];rfl
 rw [this]
 simp only [Bool.false_eq_true,if_false,rawAt_drop,List.drop_drop,Nat.add_zero]
theorem skip_end (l:List UInt8) (k:Nat) (h:l.length≤k):skipN (l.drop k)=0:=by
 rw [List.drop_of_length_le h];rfl
theorem skip_lay (l:List UInt8) (k:Nat) (h:k<l.length) (h1:cls (rawAt l k)=1):skipN (l.drop k)=1+skipN (l.drop (k+1)):=by rw [skip_at l k h,if_pos h1]
theorem skip_pct (l:List UInt8) (k:Nat) (h:k<l.length) (h1:¬cls (rawAt l k)=1) (h2:rawAt l k=37):skipN (l.drop k)=span notNl (l.drop k)+skipN (l.drop (k+span notNl (l.drop k))):=by rw [skip_at l k h,if_neg h1,if_pos h2]
theorem skip_open (l:List UInt8) (k:Nat) (h:k<l.length) (h1:rawAt l k=47) (h2:rawAt l (k+1)=42) (h3:closeAt (l.drop (k+2))=none):skipN (l.drop k)=0:=by
 rw [skip_at l k h,if_neg (by rw [h1];decide),if_neg (by rw [h1];decide),if_pos ⟨h1,h2⟩,h3]
theorem skip_com (l:List UInt8) (k j:Nat) (h:k<l.length) (h1:rawAt l k=47) (h2:rawAt l (k+1)=42) (h3:closeAt (l.drop (k+2))=some j):skipN (l.drop k)=(j+4)+skipN (l.drop (k+(j+4))):=by
 rw [skip_at l k h,if_neg (by rw [h1];decide),if_neg (by rw [h1];decide),if_pos ⟨h1,h2⟩,h3]
theorem skip_no (l:List UInt8) (k:Nat) (h:k<l.length) (h1:¬cls (rawAt l k)=1) (h2:¬rawAt l k=37) (h3:¬(rawAt l k=47∧rawAt l (k+1)=42)):skipN (l.drop k)=0:=by
 rw [skip_at l k h,if_neg h1,if_neg h2,if_neg h3]
theorem zq {p:Prop} (h:p):Go.RowKit.Hid p:=Go.Lib.hid h
theorem bz {a w w':Go.World} (h:Go.RowKit.Hid (Go.RowKit.Below a.heap.size a w)) (hB:Go.RowKit.Below w.heap.size w w'):Go.RowKit.Hid (Go.RowKit.Below a.heap.size a w'):=zq (h.out.trans (hB.mono h.out.size))
theorem lz {α:Type} (a:α):∃x,Go.RowKit.Hid (x=a):=⟨_,zq rfl⟩
theorem oz {p:Prop} [Decidable p] (h:decide p=true):p:=of_decide_eq_true h
end Hb
